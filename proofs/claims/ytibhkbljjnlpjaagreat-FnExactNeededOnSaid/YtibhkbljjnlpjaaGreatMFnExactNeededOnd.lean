/- FnExactNeededOn: functions of the translation as Lean functions with what their calls come to, plain lemmas on them, and, at the end, the row. Parts of one proof, merged by a program of this session; each part's own sentence stands at its head. -/
import Derived.IntWalk
import Derived.KernelRfl
import Derived.Test.YtibhkbljjnlpjaaGreatMFnExactNeededOnc
namespace Go.Proofs.YtibhkbljjnlpjaaGreat.M2
open Go Go.Proofs.YtibhkbljjnlpjaaGreat.PK
set_option linter.unusedVariables false
set_option linter.unusedSimpArgs false
set_option maxHeartbeats 4000000
set_option maxRecDepth 100000
noncomputable section
def impl_GetAt.sp : Nat → Option (Spec Ty):=fun r=>none
def impl_GetAt.en : Option (Spec Ty):=none
def impl_GetAt.ctx (k : Nat) : Ctx Ty D:=(cons 81 (impl_in.x k) (cons 101 (impl_isRoot.x k) (cons 102 (impl_ArenaOk.x k) (cons 103 (impl_numberAt.x k) (fun _ _ _ _=>none)))))
def impl_GetAt.f (k : Nat) (a0_0 : List S111) (a1 : Int) (a2 : Int) : Option (Int):=((impl_in.f k a2 0 15).bind fun t1=>(if t1 = true then ((impl_isRoot.f k a0_0 a1).bind fun t2=>(if t2 = true then ((impl_ArenaOk.f k a0_0).bind fun t3=>(if t3 = true then ((impl_numberAt.f k a0_0 a1 a2).bind fun t4=>(some (t4))) else (some (0)))) else (some (0)))) else (some (0))))
def impl_GetAt.e (r : Int) : Res Ty D:=(.sc (.int .i64 r),[],[])
abbrev impl_GetAt.g (rec : List Item → St Ty D → R) (k : Nat):=go1 Tryz.f96 (impl_GetAt.ctx k) impl_GetAt.sp 0 impl_GetAt.en rec
theorem impl_GetAt.te (rec : List Item → St Ty D → R) (k : Nat) (a0_0 : List S111) (a1 : Int) (a2 : Int) : impl_GetAt.g rec k [.code (body Tryz.f96)] (startSt [.ag [.row 0 .t111 a0_0],.sc (.int .i64 a1),.sc (.int .i64 a2)] []) =
 (impl_in.f k a2 0 15).bind fun t1=>bif !t1 then some (impl_GetAt.e (0)) else (impl_isRoot.f k a0_0 a1).bind fun t2=>bif !t2 then some (impl_GetAt.e (0)) else (impl_ArenaOk.f k a0_0).bind fun t3=>bif !t3 then some (impl_GetAt.e (0)) else (impl_numberAt.f k a0_0 a1 a2).bind fun t4=>some (impl_GetAt.e (t4)):=by kernel_rfl
theorem impl_GetAt.oke (k : Nat) (a0_0 : List S111) (a1 : Int) (a2 : Int) : goF Tryz.f96 impl_GetAt.ctx impl_GetAt.sp 0 impl_GetAt.en (k + 1) [.code (body Tryz.f96)] (startSt [.ag [.row 0 .t111 a0_0],.sc (.int .i64 a1),.sc (.int .i64 a2)] []) = (impl_GetAt.f k a0_0 a1 a2).map impl_GetAt.e:=by
 rw [impl_GetAt.f];exact (impl_GetAt.te _ k a0_0 a1 a2).trans (bn (fun t1=>(nb rfl (bn (fun t2=>(nb rfl (bn (fun t3=>(nb rfl (bn (fun t4=>rfl)))))))))))
theorem impl_GetAt.con (k : Nat) (a0_0 : List S111) (a1 : Int) (a2 : Int) (r) (h : impl_GetAt.f k a0_0 a1 a2 = some r) : Contract Tryz.prog kit 96 [.ag [.row 0 .t111 a0_0],.sc (.int .i64 a1),.sc (.int .i64 a2)] [] (impl_GetAt.e r).1 (impl_GetAt.e r).2.1 (impl_GetAt.e r).2.2 :=
 con_okG kitOk mix (fun k=>(CtxOk.cons (impl_in.xok k) (CtxOk.cons (impl_isRoot.xok k) (CtxOk.cons (impl_ArenaOk.xok k) (CtxOk.cons (impl_numberAt.xok k) CtxOk.nil))))) (impl_GetAt.oke k a0_0 a1 a2) h (by kernel_rfl) (by kernel_rfl) (by kernel_rfl) rfl (by kernel_rfl) rfl rfl
def impl_GetAt.x (k : Nat) : X:=fun ins bs κ=>match ins,bs with
 | [.ag [.row 0 .t111 a0_0],.sc (.int .i64 a1),.sc (.int .i64 a2)],[]=>(impl_GetAt.f k a0_0 a1 a2).bind fun r=>κ (impl_GetAt.e r).1 (impl_GetAt.e r).2.1 (impl_GetAt.e r).2.2
 | _,_=>none
theorem impl_GetAt.xok (k : Nat) : XOk 96 (impl_GetAt.x k):=by
 intro ins bs κ res h;unfold impl_GetAt.x at h
 split at h
 ·obtain ⟨r,hr,h⟩:=Option.bind_eq_some_iff.1 h;exact ⟨_,_,_,impl_GetAt.con k _ _ _ r hr,h⟩
 cases h
def impl_AllAt.sp : Nat → Option (Spec Ty):=fun r=>bif Nat.beq r 3 then some ⟨[(1,.keep),(2,.box [.keep]),(5,.own .t3),(7,.keep)],[]⟩ else none
def impl_AllAt.en : Option (Spec Ty):=some ⟨[(4,.own .t3)],[]⟩
def impl_AllAt.s3 (x1 : Int) (x7 : Int) (h64_0 : List S111) (h65 : List Int) : St Ty D:=⟨(Env.put (Env.put (Env.put (Env.put E (some 1) (.sc (.int .i64 x1))) (some 2) (.pt 64 0 0)) (some 5) (.sl 65 none)) (some 7) (.sc (.int .i64 x7))),Heap.put H0 [(64,some (.box [.row 0 .t111 h64_0])),(65,some (.rowb .t3 h65 0))],1000⟩
def impl_AllAt.ctx (k : Nat) : Ctx Ty D:=(cons 96 (impl_GetAt.x k) (fun _ _ _ _=>none))
def impl_AllAt.c3 : Nat → Int → Int → (List S111) → (List Int) → Option ((List Int))
 | 0,_,_,_,_=>none
 | k + 1,x1,x7,h64_0,h65=>(if x7 < 16 then ((impl_GetAt.f k h64_0 x1 x7).bind fun t1=>(if h65.length + ([t1] : List Int).length ≤ 17592186044416 then (impl_AllAt.c3 k x1 (w64 (x7 + 1)) h64_0 (h65 ++ ([t1] : List Int))) else none)) else (some (h65)))
def impl_AllAt.f (k : Nat) (a0_0 : List S111) (a1 : Int) : Option ((List Int)):=(impl_AllAt.c3 k a1 0 a0_0 ([] : List Int))
def impl_AllAt.e (r : (List Int)) : Res Ty D:=(.sl 0 none,[],[.rowb .t3 r 0])
abbrev impl_AllAt.g (rec : List Item → St Ty D → R) (k : Nat):=go1 Tryz.f78 (impl_AllAt.ctx k) impl_AllAt.sp 0 impl_AllAt.en rec
theorem impl_AllAt.t3 (rec : List Item → St Ty D → R) (k : Nat) (x1 : Int) (x7 : Int) (h64_0 : List S111) (h65 : List Int) : impl_AllAt.g rec k (td Tryz.f78 3) (impl_AllAt.s3 x1 x7 h64_0 h65) =
 bif decide (x7 < 16) then (impl_GetAt.f k h64_0 x1 x7).bind fun t1=>bif decide (h65.length + ([t1] : List Int).length ≤ 17592186044416) then rec (td Tryz.f78 3) (impl_AllAt.s3 x1 (w64 (x7 + 1)) h64_0 (h65 ++ ([t1] : List Int))) else none else some (impl_AllAt.e (h65)):=by kernel_rfl
theorem impl_AllAt.te (rec : List Item → St Ty D → R) (k : Nat) (a0_0 : List S111) (a1 : Int) : impl_AllAt.g rec k [.code (body Tryz.f78)] (startSt [.ag [.row 0 .t111 a0_0],.sc (.int .i64 a1)] []) =
 rec (td Tryz.f78 3) (impl_AllAt.s3 a1 0 a0_0 ([] : List Int)):=by kernel_rfl
theorem impl_AllAt.ok : ∀ k : Nat,(∀ (x1 : Int) (x7 : Int) (h64_0 : List S111) (h65 : List Int),goF Tryz.f78 impl_AllAt.ctx impl_AllAt.sp 0 impl_AllAt.en k (td Tryz.f78 3) (impl_AllAt.s3 x1 x7 h64_0 h65) = (impl_AllAt.c3 k x1 x7 h64_0 h65).map impl_AllAt.e)
 | 0=>fun _ _ _ _=>rfl
 | k + 1=>by
  have ih:=impl_AllAt.ok k;have i3:=ih;intro x1 x7 h64_0 h65;rw [impl_AllAt.c3];exact (impl_AllAt.t3 _ k x1 x7 h64_0 h65).trans (cd (bn (fun t1=>(cd (i3 _ _ _ _) rfl))) rfl)
theorem impl_AllAt.oke (k : Nat) (a0_0 : List S111) (a1 : Int) : goF Tryz.f78 impl_AllAt.ctx impl_AllAt.sp 0 impl_AllAt.en (k + 1) [.code (body Tryz.f78)] (startSt [.ag [.row 0 .t111 a0_0],.sc (.int .i64 a1)] []) = (impl_AllAt.f k a0_0 a1).map impl_AllAt.e:=by
 have i3:=impl_AllAt.ok k;rw [impl_AllAt.f];exact (impl_AllAt.te _ k a0_0 a1).trans (i3 _ _ _ _)
theorem impl_AllAt.con (k : Nat) (a0_0 : List S111) (a1 : Int) (r) (h : impl_AllAt.f k a0_0 a1 = some r) : Contract Tryz.prog kit 78 [.ag [.row 0 .t111 a0_0],.sc (.int .i64 a1)] [] (impl_AllAt.e r).1 (impl_AllAt.e r).2.1 (impl_AllAt.e r).2.2 :=
 con_okG kitOk mix (fun k=>(CtxOk.cons (impl_GetAt.xok k) CtxOk.nil)) (impl_AllAt.oke k a0_0 a1) h (by kernel_rfl) (by kernel_rfl) (by kernel_rfl) rfl (by kernel_rfl) rfl rfl
def impl_AllAt.x (k : Nat) : X:=fun ins bs κ=>match ins,bs with
 | [.ag [.row 0 .t111 a0_0],.sc (.int .i64 a1)],[]=>(impl_AllAt.f k a0_0 a1).bind fun r=>κ (impl_AllAt.e r).1 (impl_AllAt.e r).2.1 (impl_AllAt.e r).2.2
 | _,_=>none
theorem impl_AllAt.xok (k : Nat) : XOk 78 (impl_AllAt.x k):=by
 intro ins bs κ res h;unfold impl_AllAt.x at h
 split at h
 ·obtain ⟨r,hr,h⟩:=Option.bind_eq_some_iff.1 h;exact ⟨_,_,_,impl_AllAt.con k _ _ r hr,h⟩
 cases h
def impl_chunksOf.sp : Nat → Option (Spec Ty):=fun r=>bif Nat.beq r 3 then some ⟨[(1,.box [.keep,.keep,.keep]),(3,.own .t3),(9,.keep),(10,.keep),(11,.keep)],[]⟩ else bif Nat.beq r 6 then some ⟨[(1,.box [.keep,.keep,.keep]),(3,.own .t3),(9,.keep),(10,.keep),(11,.keep),(19,.own .t3),(20,.keep),(21,.keep)],[]⟩ else none
def impl_chunksOf.en : Option (Spec Ty):=some ⟨[(2,.own .t3)],[]⟩
def impl_chunksOf.s3 (x9 : List S83) (x10 : Int) (x11 : Int) (h64_0 : List S83) (h64_1 : List S111) (h64_2 : Int) (h65 : List Int) : St Ty D:=⟨(Env.put (Env.put (Env.put (Env.put (Env.put E (some 1) (.pt 64 0 0)) (some 3) (.sl 65 none)) (some 9) (.row 0 .t83 x9)) (some 10) (.sc (.int .i64 x10))) (some 11) (.sc (.int .i64 x11))),Heap.put H0 [(64,some (.box [.row 0 .t83 h64_0,.row 0 .t111 h64_1,.sc (.int .i64 h64_2)])),(65,some (.rowb .t3 h65 0))],1000⟩
def impl_chunksOf.s6 (x9 : List S83) (x10 : Int) (x11 : Int) (x20 : Int) (x21 : Int) (h64_0 : List S83) (h64_1 : List S111) (h64_2 : Int) (h65 : List Int) (h66 : List Int) : St Ty D:=⟨(Env.put (Env.put (Env.put (Env.put (Env.put (Env.put (Env.put (Env.put E (some 1) (.pt 64 0 0)) (some 3) (.sl 65 none)) (some 9) (.row 0 .t83 x9)) (some 10) (.sc (.int .i64 x10))) (some 11) (.sc (.int .i64 x11))) (some 19) (.sl 66 none)) (some 20) (.sc (.int .i64 x20))) (some 21) (.sc (.int .i64 x21))),Heap.put H0 [(64,some (.box [.row 0 .t83 h64_0,.row 0 .t111 h64_1,.sc (.int .i64 h64_2)])),(65,some (.rowb .t3 h65 0)),(66,some (.rowb .t3 h66 0))],1000⟩
def impl_chunksOf.ctx (k : Nat) : Ctx Ty D:=(cons 78 (impl_AllAt.x k) (fun _ _ _ _=>none))
mutual
def impl_chunksOf.c3 : Nat → (List S83) → Int → Int → (List S83) → (List S111) → Int → (List Int) → Option ((List Int))
 | 0,_,_,_,_,_,_,_=>none
 | k + 1,x9,x10,x11,h64_0,h64_1,h64_2,h65=>(if x11 < x10 then (if 0 ≤ x11 then (if x11 < (x9.length : Int) then ((impl_AllAt.f k h64_1 ((rd_T83 x9 x11).f1)).bind fun t1=>(impl_chunksOf.c6 k x9 x10 x11 (t1.length : Int) 0 h64_0 h64_1 h64_2 h65 t1)) else none) else none) else (some (h65)))
def impl_chunksOf.c6 : Nat → (List S83) → Int → Int → Int → Int → (List S83) → (List S111) → Int → (List Int) → (List Int) → Option ((List Int))
 | 0,_,_,_,_,_,_,_,_,_,_=>none
 | k + 1,x9,x10,x11,x20,x21,h64_0,h64_1,h64_2,h65,h66=>(if x21 < x20 then (if 0 ≤ x21 then (if x21 < (h66.length : Int) then (if (rd_T3 h66 x21) > 0 then (if h65.length + ([(rd_T3 h66 x21)] : List Int).length ≤ 17592186044416 then (impl_chunksOf.c6 k x9 x10 x11 x20 (w64 (x21 + 1)) h64_0 h64_1 h64_2 (h65 ++ ([(rd_T3 h66 x21)] : List Int)) h66) else none) else (impl_chunksOf.c6 k x9 x10 x11 x20 (w64 (x21 + 1)) h64_0 h64_1 h64_2 h65 h66)) else none) else none) else (impl_chunksOf.c3 k x9 x10 (w64 (x11 + 1)) h64_0 h64_1 h64_2 h65))
end
def impl_chunksOf.f (k : Nat) (a0_0 : List S83) (a0_1 : List S111) (a0_2 : Int) : Option ((List Int)):=(impl_chunksOf.c3 k a0_0 (a0_0.length : Int) 0 a0_0 a0_1 a0_2 ([] : List Int))
def impl_chunksOf.e (r : (List Int)) : Res Ty D:=(.sl 0 none,[],[.rowb .t3 r 0])
abbrev impl_chunksOf.g (rec : List Item → St Ty D → R) (k : Nat):=go1 Tryz.f53 (impl_chunksOf.ctx k) impl_chunksOf.sp 0 impl_chunksOf.en rec
theorem impl_chunksOf.t3 (rec : List Item → St Ty D → R) (k : Nat) (x9 : List S83) (x10 : Int) (x11 : Int) (h64_0 : List S83) (h64_1 : List S111) (h64_2 : Int) (h65 : List Int) : impl_chunksOf.g rec k (td Tryz.f53 3) (impl_chunksOf.s3 x9 x10 x11 h64_0 h64_1 h64_2 h65) =
 bif decide (x11 < x10) then bif decide (0 ≤ x11) then bif decide (x11 < (x9.length : Int)) then (impl_AllAt.f k h64_1 ((rd_T83 x9 x11).f1)).bind fun t1=>rec (td Tryz.f53 6) (impl_chunksOf.s6 x9 x10 x11 (t1.length : Int) 0 h64_0 h64_1 h64_2 h65 t1) else none else none else some (impl_chunksOf.e (h65)):=by kernel_rfl
theorem impl_chunksOf.t6 (rec : List Item → St Ty D → R) (k : Nat) (x9 : List S83) (x10 : Int) (x11 : Int) (x20 : Int) (x21 : Int) (h64_0 : List S83) (h64_1 : List S111) (h64_2 : Int) (h65 : List Int) (h66 : List Int) : impl_chunksOf.g rec k (td Tryz.f53 6) (impl_chunksOf.s6 x9 x10 x11 x20 x21 h64_0 h64_1 h64_2 h65 h66) =
 bif decide (x21 < x20) then bif decide (0 ≤ x21) then bif decide (x21 < (h66.length : Int)) then bif decide ((rd_T3 h66 x21) > 0) then bif decide (h65.length + ([(rd_T3 h66 x21)] : List Int).length ≤ 17592186044416) then rec (td Tryz.f53 6) (impl_chunksOf.s6 x9 x10 x11 x20 (w64 (x21 + 1)) h64_0 h64_1 h64_2 (h65 ++ ([(rd_T3 h66 x21)] : List Int)) h66) else none else rec (td Tryz.f53 6) (impl_chunksOf.s6 x9 x10 x11 x20 (w64 (x21 + 1)) h64_0 h64_1 h64_2 h65 h66) else none else none else rec (td Tryz.f53 3) (impl_chunksOf.s3 x9 x10 (w64 (x11 + 1)) h64_0 h64_1 h64_2 h65):=by kernel_rfl
theorem impl_chunksOf.te (rec : List Item → St Ty D → R) (k : Nat) (a0_0 : List S83) (a0_1 : List S111) (a0_2 : Int) : impl_chunksOf.g rec k [.code (body Tryz.f53)] (startSt [.ag [.row 0 .t83 a0_0,.row 0 .t111 a0_1,.sc (.int .i64 a0_2)]] []) =
 rec (td Tryz.f53 3) (impl_chunksOf.s3 a0_0 (a0_0.length : Int) 0 a0_0 a0_1 a0_2 ([] : List Int)):=by kernel_rfl
theorem impl_chunksOf.ok : ∀ k : Nat,(∀ (x9 : List S83) (x10 : Int) (x11 : Int) (h64_0 : List S83) (h64_1 : List S111) (h64_2 : Int) (h65 : List Int),goF Tryz.f53 impl_chunksOf.ctx impl_chunksOf.sp 0 impl_chunksOf.en k (td Tryz.f53 3) (impl_chunksOf.s3 x9 x10 x11 h64_0 h64_1 h64_2 h65) = (impl_chunksOf.c3 k x9 x10 x11 h64_0 h64_1 h64_2 h65).map impl_chunksOf.e) ∧ (∀ (x9 : List S83) (x10 : Int) (x11 : Int) (x20 : Int) (x21 : Int) (h64_0 : List S83) (h64_1 : List S111) (h64_2 : Int) (h65 : List Int) (h66 : List Int),goF Tryz.f53 impl_chunksOf.ctx impl_chunksOf.sp 0 impl_chunksOf.en k (td Tryz.f53 6) (impl_chunksOf.s6 x9 x10 x11 x20 x21 h64_0 h64_1 h64_2 h65 h66) = (impl_chunksOf.c6 k x9 x10 x11 x20 x21 h64_0 h64_1 h64_2 h65 h66).map impl_chunksOf.e)
 | 0=>⟨fun _ _ _ _ _ _ _=>rfl,fun _ _ _ _ _ _ _ _ _ _=>rfl⟩
 | k + 1=>by
  have ih:=impl_chunksOf.ok k;obtain ⟨i3,i6⟩:=ih;refine ⟨?_,?_⟩
  ·intro x9 x10 x11 h64_0 h64_1 h64_2 h65;rw [impl_chunksOf.c3];exact (impl_chunksOf.t3 _ k x9 x10 x11 h64_0 h64_1 h64_2 h65).trans (cd (cd (cd (bn (fun t1=>(i6 _ _ _ _ _ _ _ _ _ _))) rfl) rfl) rfl)
  intro x9 x10 x11 x20 x21 h64_0 h64_1 h64_2 h65 h66;rw [impl_chunksOf.c6];exact (impl_chunksOf.t6 _ k x9 x10 x11 x20 x21 h64_0 h64_1 h64_2 h65 h66).trans (cd (cd (cd (cd (cd (i6 _ _ _ _ _ _ _ _ _ _) rfl) (i6 _ _ _ _ _ _ _ _ _ _)) rfl) rfl) (i3 _ _ _ _ _ _ _))
theorem impl_chunksOf.oke (k : Nat) (a0_0 : List S83) (a0_1 : List S111) (a0_2 : Int) : goF Tryz.f53 impl_chunksOf.ctx impl_chunksOf.sp 0 impl_chunksOf.en (k + 1) [.code (body Tryz.f53)] (startSt [.ag [.row 0 .t83 a0_0,.row 0 .t111 a0_1,.sc (.int .i64 a0_2)]] []) = (impl_chunksOf.f k a0_0 a0_1 a0_2).map impl_chunksOf.e:=by
 obtain ⟨i3,i6⟩:=impl_chunksOf.ok k;rw [impl_chunksOf.f];exact (impl_chunksOf.te _ k a0_0 a0_1 a0_2).trans (i3 _ _ _ _ _ _ _)
theorem impl_chunksOf.con (k : Nat) (a0_0 : List S83) (a0_1 : List S111) (a0_2 : Int) (r) (h : impl_chunksOf.f k a0_0 a0_1 a0_2 = some r) : Contract Tryz.prog kit 53 [.ag [.row 0 .t83 a0_0,.row 0 .t111 a0_1,.sc (.int .i64 a0_2)]] [] (impl_chunksOf.e r).1 (impl_chunksOf.e r).2.1 (impl_chunksOf.e r).2.2 :=
 con_okG kitOk mix (fun k=>(CtxOk.cons (impl_AllAt.xok k) CtxOk.nil)) (impl_chunksOf.oke k a0_0 a0_1 a0_2) h (by kernel_rfl) (by kernel_rfl) (by kernel_rfl) rfl (by kernel_rfl) rfl rfl
def impl_chunksOf.x (k : Nat) : X:=fun ins bs κ=>match ins,bs with
 | [.ag [.row 0 .t83 a0_0,.row 0 .t111 a0_1,.sc (.int .i64 a0_2)]],[]=>(impl_chunksOf.f k a0_0 a0_1 a0_2).bind fun r=>κ (impl_chunksOf.e r).1 (impl_chunksOf.e r).2.1 (impl_chunksOf.e r).2.2
 | _,_=>none
theorem impl_chunksOf.xok (k : Nat) : XOk 53 (impl_chunksOf.x k):=by
 intro ins bs κ res h;unfold impl_chunksOf.x at h
 split at h
 ·obtain ⟨r,hr,h⟩:=Option.bind_eq_some_iff.1 h;exact ⟨_,_,_,impl_chunksOf.con k _ _ _ r hr,h⟩
 cases h
def impl_LiveOf.sp : Nat → Option (Spec Ty):=fun r=>bif Nat.beq r 5 then some ⟨[(3,.own .t3),(4,.own .t3),(11,.own .t3),(12,.keep),(13,.keep)],[]⟩ else none
def impl_LiveOf.en : Option (Spec Ty):=some ⟨[(2,.own .t3)],[]⟩
def impl_LiveOf.s5 (x12 : Int) (x13 : Int) (h64 : List Int) (h65 : List Int) : St Ty D:=⟨(Env.put (Env.put (Env.put (Env.put (Env.put E (some 3) (.sl 64 none)) (some 4) (.sl 65 none)) (some 11) (.sl 64 none)) (some 12) (.sc (.int .i64 x12))) (some 13) (.sc (.int .i64 x13))),Heap.put H0 [(64,some (.rowb .t3 h64 0)),(65,some (.rowb .t3 h65 0))],1000⟩
def impl_LiveOf.ctx (k : Nat) : Ctx Ty D:=(cons 53 (impl_chunksOf.x k) (cons 54 (sort_Ints.x k) (fun _ _ _ _=>none)))
def impl_LiveOf.c5 : Nat → Int → Int → (List Int) → (List Int) → Option ((List Int))
 | 0,_,_,_,_=>none
 | k + 1,x12,x13,h64,h65=>(if x13 < x12 then (if 0 ≤ x13 then (if x13 < (h64.length : Int) then (if x13 = 0 then (if h65.length + ([(rd_T3 h64 x13)] : List Int).length ≤ 17592186044416 then (impl_LiveOf.c5 k x12 (w64 (x13 + 1)) h64 (h65 ++ ([(rd_T3 h64 x13)] : List Int))) else none) else (if 0 ≤ (w64 (x13 - 1)) then (if (w64 (x13 - 1)) < (h64.length : Int) then (if (rd_T3 h64 (w64 (x13 - 1))) = (rd_T3 h64 x13) then (impl_LiveOf.c5 k x12 (w64 (x13 + 1)) h64 h65) else (if h65.length + ([(rd_T3 h64 x13)] : List Int).length ≤ 17592186044416 then (impl_LiveOf.c5 k x12 (w64 (x13 + 1)) h64 (h65 ++ ([(rd_T3 h64 x13)] : List Int))) else none)) else none) else none)) else none) else none) else (some (h65)))
def impl_LiveOf.f (k : Nat) (a0_0 : List S83) (a0_1 : List S111) (a0_2 : Int) : Option ((List Int)):=((impl_chunksOf.f k a0_0 a0_1 a0_2).bind fun t1=>((sort_Ints.f k t1).bind fun t2=>(impl_LiveOf.c5 k (t2.length : Int) 0 t2 ([] : List Int))))
def impl_LiveOf.e (r : (List Int)) : Res Ty D:=(.sl 0 none,[],[.rowb .t3 r 0])
abbrev impl_LiveOf.g (rec : List Item → St Ty D → R) (k : Nat):=go1 Tryz.f36 (impl_LiveOf.ctx k) impl_LiveOf.sp 0 impl_LiveOf.en rec
theorem impl_LiveOf.t5 (rec : List Item → St Ty D → R) (k : Nat) (x12 : Int) (x13 : Int) (h64 : List Int) (h65 : List Int) : impl_LiveOf.g rec k (td Tryz.f36 5) (impl_LiveOf.s5 x12 x13 h64 h65) =
 bif decide (x13 < x12) then bif decide (0 ≤ x13) then bif decide (x13 < (h64.length : Int)) then bif decide (x13 = 0) then bif decide (h65.length + ([(rd_T3 h64 x13)] : List Int).length ≤ 17592186044416) then rec (td Tryz.f36 5) (impl_LiveOf.s5 x12 (w64 (x13 + 1)) h64 (h65 ++ ([(rd_T3 h64 x13)] : List Int))) else none else bif decide (0 ≤ (w64 (x13 - 1))) then bif decide ((w64 (x13 - 1)) < (h64.length : Int)) then bif !decide ((rd_T3 h64 (w64 (x13 - 1))) = (rd_T3 h64 x13)) then bif decide (h65.length + ([(rd_T3 h64 x13)] : List Int).length ≤ 17592186044416) then rec (td Tryz.f36 5) (impl_LiveOf.s5 x12 (w64 (x13 + 1)) h64 (h65 ++ ([(rd_T3 h64 x13)] : List Int))) else none else rec (td Tryz.f36 5) (impl_LiveOf.s5 x12 (w64 (x13 + 1)) h64 h65) else none else none else none else none else some (impl_LiveOf.e (h65)):=by kernel_rfl
theorem impl_LiveOf.te (rec : List Item → St Ty D → R) (k : Nat) (a0_0 : List S83) (a0_1 : List S111) (a0_2 : Int) : impl_LiveOf.g rec k [.code (body Tryz.f36)] (startSt [.ag [.row 0 .t83 a0_0,.row 0 .t111 a0_1,.sc (.int .i64 a0_2)]] []) =
 (impl_chunksOf.f k a0_0 a0_1 a0_2).bind fun t1=>(sort_Ints.f k t1).bind fun t2=>rec (td Tryz.f36 5) (impl_LiveOf.s5 (t2.length : Int) 0 t2 ([] : List Int)):=by kernel_rfl
theorem impl_LiveOf.ok : ∀ k : Nat,(∀ (x12 : Int) (x13 : Int) (h64 : List Int) (h65 : List Int),goF Tryz.f36 impl_LiveOf.ctx impl_LiveOf.sp 0 impl_LiveOf.en k (td Tryz.f36 5) (impl_LiveOf.s5 x12 x13 h64 h65) = (impl_LiveOf.c5 k x12 x13 h64 h65).map impl_LiveOf.e)
 | 0=>fun _ _ _ _=>rfl
 | k + 1=>by
  have ih:=impl_LiveOf.ok k;have i5:=ih;intro x12 x13 h64 h65;rw [impl_LiveOf.c5];exact (impl_LiveOf.t5 _ k x12 x13 h64 h65).trans (cd (cd (cd (cd (cd (i5 _ _ _ _) rfl) (cd (cd (nd (cd (i5 _ _ _ _) rfl) (i5 _ _ _ _)) rfl) rfl)) rfl) rfl) rfl)
theorem impl_LiveOf.oke (k : Nat) (a0_0 : List S83) (a0_1 : List S111) (a0_2 : Int) : goF Tryz.f36 impl_LiveOf.ctx impl_LiveOf.sp 0 impl_LiveOf.en (k + 1) [.code (body Tryz.f36)] (startSt [.ag [.row 0 .t83 a0_0,.row 0 .t111 a0_1,.sc (.int .i64 a0_2)]] []) = (impl_LiveOf.f k a0_0 a0_1 a0_2).map impl_LiveOf.e:=by
 have i5:=impl_LiveOf.ok k;rw [impl_LiveOf.f];exact (impl_LiveOf.te _ k a0_0 a0_1 a0_2).trans (bn (fun t1=>(bn (fun t2=>(i5 _ _ _ _)))))
theorem impl_LiveOf.con (k : Nat) (a0_0 : List S83) (a0_1 : List S111) (a0_2 : Int) (r) (h : impl_LiveOf.f k a0_0 a0_1 a0_2 = some r) : Contract Tryz.prog kit 36 [.ag [.row 0 .t83 a0_0,.row 0 .t111 a0_1,.sc (.int .i64 a0_2)]] [] (impl_LiveOf.e r).1 (impl_LiveOf.e r).2.1 (impl_LiveOf.e r).2.2 :=
 con_okG kitOk mix (fun k=>(CtxOk.cons (impl_chunksOf.xok k) (CtxOk.cons (sort_Ints.xok k) CtxOk.nil))) (impl_LiveOf.oke k a0_0 a0_1 a0_2) h (by kernel_rfl) (by kernel_rfl) (by kernel_rfl) rfl (by kernel_rfl) rfl rfl
def impl_LiveOf.x (k : Nat) : X:=fun ins bs κ=>match ins,bs with
 | [.ag [.row 0 .t83 a0_0,.row 0 .t111 a0_1,.sc (.int .i64 a0_2)]],[]=>(impl_LiveOf.f k a0_0 a0_1 a0_2).bind fun r=>κ (impl_LiveOf.e r).1 (impl_LiveOf.e r).2.1 (impl_LiveOf.e r).2.2
 | _,_=>none
theorem impl_LiveOf.xok (k : Nat) : XOk 36 (impl_LiveOf.x k):=by
 intro ins bs κ res h;unfold impl_LiveOf.x at h
 split at h
 ·obtain ⟨r,hr,h⟩:=Option.bind_eq_some_iff.1 h;exact ⟨_,_,_,impl_LiveOf.con k _ _ _ r hr,h⟩
 cases h
def impl_SumMore.sp : Nat → Option (Spec Ty):=fun r=>bif Nat.beq r 2 then some ⟨[(0,.keep),(1,.keep),(5,.keep)],[]⟩ else bif Nat.beq r 6 then some ⟨[(0,.keep),(1,.keep),(5,.keep),(19,.keep)],[]⟩ else none
def impl_SumMore.en : Option (Spec Ty):=none
def impl_SumMore.s2 (x0 : Int) (x1 : ByteArray) (x5 : Int) : St Ty D:=⟨(Env.put (Env.put (Env.put E (some 0) (.sc (.int .u32 x0))) (some 1) (.sc (.string x1))) (some 5) (.sc (.int .i64 x5))),H0,1000⟩
def impl_SumMore.s6 (x0 : Int) (x1 : ByteArray) (x5 : Int) (x19 : Int) : St Ty D:=⟨(Env.put (Env.put (Env.put (Env.put E (some 0) (.sc (.int .u32 x0))) (some 1) (.sc (.string x1))) (some 5) (.sc (.int .i64 x5))) (some 19) (.sc (.int .i64 x19))),H0,1000⟩
def impl_SumMore.ctx (k : Nat) : Ctx Ty D:=(fun _ _ _ _=>none)
mutual
def impl_SumMore.c2 : Nat → Int → ByteArray → Int → Option (Int)
 | 0,_,_,_=>none
 | k + 1,x0,x1,x5=>(if x5 < (x1.size : Int) then (if 0 ≤ x5 then (if x5 < (x1.size : Int) then (impl_SumMore.c6 k (Go.bits .xor .u32 x0 (Go.IntKind.wrap .u32 ((bt x1 x5)))) x1 x5 0) else none) else none) else (some (x0)))
def impl_SumMore.c6 : Nat → Int → ByteArray → Int → Int → Option (Int)
 | 0,_,_,_,_=>none
 | k + 1,x0,x1,x5,x19=>(if x19 < 8 then (if (Go.bits .and .u32 x0 1) = 1 then (impl_SumMore.c6 k (Go.bits .xor .u32 (Int.fdiv x0 2) 3558460437) x1 x5 (w64 (x19 + 1))) else (impl_SumMore.c6 k (Int.fdiv x0 2) x1 x5 (w64 (x19 + 1)))) else (impl_SumMore.c2 k x0 x1 (w64 (x5 + 1))))
end
def impl_SumMore.f (k : Nat) (a0 : Int) (a1 : ByteArray) : Option (Int):=(impl_SumMore.c2 k a0 a1 0)
def impl_SumMore.e (r : Int) : Res Ty D:=(.sc (.int .u32 r),[],[])
abbrev impl_SumMore.g (rec : List Item → St Ty D → R) (k : Nat):=go1 Tryz.f115 (impl_SumMore.ctx k) impl_SumMore.sp 0 impl_SumMore.en rec
theorem impl_SumMore.t2 (rec : List Item → St Ty D → R) (k : Nat) (x0 : Int) (x1 : ByteArray) (x5 : Int) : impl_SumMore.g rec k (td Tryz.f115 2) (impl_SumMore.s2 x0 x1 x5) =
 bif decide (x5 < (x1.size : Int)) then bif decide (0 ≤ x5) then bif decide (x5 < (x1.size : Int)) then rec (td Tryz.f115 6) (impl_SumMore.s6 (Go.bits .xor .u32 x0 (Go.IntKind.wrap .u32 ((bt x1 x5)))) x1 x5 0) else none else none else some (impl_SumMore.e (x0)):=by kernel_rfl
theorem impl_SumMore.t6 (rec : List Item → St Ty D → R) (k : Nat) (x0 : Int) (x1 : ByteArray) (x5 : Int) (x19 : Int) : impl_SumMore.g rec k (td Tryz.f115 6) (impl_SumMore.s6 x0 x1 x5 x19) =
 bif decide (x19 < 8) then bif decide ((Go.bits .and .u32 x0 1) = 1) then rec (td Tryz.f115 6) (impl_SumMore.s6 (Go.bits .xor .u32 (Int.fdiv x0 2) 3558460437) x1 x5 (w64 (x19 + 1))) else rec (td Tryz.f115 6) (impl_SumMore.s6 (Int.fdiv x0 2) x1 x5 (w64 (x19 + 1))) else rec (td Tryz.f115 2) (impl_SumMore.s2 x0 x1 (w64 (x5 + 1))):=by kernel_rfl
theorem impl_SumMore.te (rec : List Item → St Ty D → R) (k : Nat) (a0 : Int) (a1 : ByteArray) : impl_SumMore.g rec k [.code (body Tryz.f115)] (startSt [.sc (.int .u32 a0),.sc (.string a1)] []) =
 rec (td Tryz.f115 2) (impl_SumMore.s2 a0 a1 0):=by kernel_rfl
theorem impl_SumMore.ok : ∀ k : Nat,(∀ (x0 : Int) (x1 : ByteArray) (x5 : Int),goF Tryz.f115 impl_SumMore.ctx impl_SumMore.sp 0 impl_SumMore.en k (td Tryz.f115 2) (impl_SumMore.s2 x0 x1 x5) = (impl_SumMore.c2 k x0 x1 x5).map impl_SumMore.e) ∧ (∀ (x0 : Int) (x1 : ByteArray) (x5 : Int) (x19 : Int),goF Tryz.f115 impl_SumMore.ctx impl_SumMore.sp 0 impl_SumMore.en k (td Tryz.f115 6) (impl_SumMore.s6 x0 x1 x5 x19) = (impl_SumMore.c6 k x0 x1 x5 x19).map impl_SumMore.e)
 | 0=>⟨fun _ _ _=>rfl,fun _ _ _ _=>rfl⟩
 | k + 1=>by
  have ih:=impl_SumMore.ok k;obtain ⟨i2,i6⟩:=ih;refine ⟨?_,?_⟩
  ·intro x0 x1 x5;rw [impl_SumMore.c2];exact (impl_SumMore.t2 _ k x0 x1 x5).trans (cd (cd (cd (i6 _ _ _ _) rfl) rfl) rfl)
  intro x0 x1 x5 x19;rw [impl_SumMore.c6];exact (impl_SumMore.t6 _ k x0 x1 x5 x19).trans (cd (cd (i6 _ _ _ _) (i6 _ _ _ _)) (i2 _ _ _))
theorem impl_SumMore.oke (k : Nat) (a0 : Int) (a1 : ByteArray) : goF Tryz.f115 impl_SumMore.ctx impl_SumMore.sp 0 impl_SumMore.en (k + 1) [.code (body Tryz.f115)] (startSt [.sc (.int .u32 a0),.sc (.string a1)] []) = (impl_SumMore.f k a0 a1).map impl_SumMore.e:=by
 obtain ⟨i2,i6⟩:=impl_SumMore.ok k;rw [impl_SumMore.f];exact (impl_SumMore.te _ k a0 a1).trans (i2 _ _ _)
theorem impl_SumMore.con (k : Nat) (a0 : Int) (a1 : ByteArray) (r) (h : impl_SumMore.f k a0 a1 = some r) : Contract Tryz.prog kit 115 [.sc (.int .u32 a0),.sc (.string a1)] [] (impl_SumMore.e r).1 (impl_SumMore.e r).2.1 (impl_SumMore.e r).2.2 :=
 con_okG kitOk mix (fun k=>CtxOk.nil) (impl_SumMore.oke k a0 a1) h (by kernel_rfl) (by kernel_rfl) (by kernel_rfl) rfl (by kernel_rfl) rfl rfl
def impl_SumMore.x (k : Nat) : X:=fun ins bs κ=>match ins,bs with
 | [.sc (.int .u32 a0),.sc (.string a1)],[]=>(impl_SumMore.f k a0 a1).bind fun r=>κ (impl_SumMore.e r).1 (impl_SumMore.e r).2.1 (impl_SumMore.e r).2.2
 | _,_=>none
theorem impl_SumMore.xok (k : Nat) : XOk 115 (impl_SumMore.x k):=by
 intro ins bs κ res h;unfold impl_SumMore.x at h
 split at h
 ·obtain ⟨r,hr,h⟩:=Option.bind_eq_some_iff.1 h;exact ⟨_,_,_,impl_SumMore.con k _ _ r hr,h⟩
 cases h
def impl_SumOf.sp : Nat → Option (Spec Ty):=fun r=>none
def impl_SumOf.en : Option (Spec Ty):=none
def impl_SumOf.ctx (k : Nat) : Ctx Ty D:=(cons 115 (impl_SumMore.x k) (fun _ _ _ _=>none))
def impl_SumOf.f (k : Nat) (a0 : ByteArray) : Option (Int):=((impl_SumMore.f k 4294967295 a0).bind fun t1=>(some (t1)))
def impl_SumOf.e (r : Int) : Res Ty D:=(.sc (.int .u32 r),[],[])
abbrev impl_SumOf.g (rec : List Item → St Ty D → R) (k : Nat):=go1 Tryz.f99 (impl_SumOf.ctx k) impl_SumOf.sp 0 impl_SumOf.en rec
theorem impl_SumOf.te (rec : List Item → St Ty D → R) (k : Nat) (a0 : ByteArray) : impl_SumOf.g rec k [.code (body Tryz.f99)] (startSt [.sc (.string a0)] []) =
 (impl_SumMore.f k 4294967295 a0).bind fun t1=>some (impl_SumOf.e (t1)):=by kernel_rfl
theorem impl_SumOf.oke (k : Nat) (a0 : ByteArray) : goF Tryz.f99 impl_SumOf.ctx impl_SumOf.sp 0 impl_SumOf.en (k + 1) [.code (body Tryz.f99)] (startSt [.sc (.string a0)] []) = (impl_SumOf.f k a0).map impl_SumOf.e:=by
 rw [impl_SumOf.f];exact (impl_SumOf.te _ k a0).trans (bn (fun t1=>rfl))
theorem impl_SumOf.con (k : Nat) (a0 : ByteArray) (r) (h : impl_SumOf.f k a0 = some r) : Contract Tryz.prog kit 99 [.sc (.string a0)] [] (impl_SumOf.e r).1 (impl_SumOf.e r).2.1 (impl_SumOf.e r).2.2 :=
 con_okG kitOk mix (fun k=>(CtxOk.cons (impl_SumMore.xok k) CtxOk.nil)) (impl_SumOf.oke k a0) h (by kernel_rfl) (by kernel_rfl) (by kernel_rfl) rfl (by kernel_rfl) rfl rfl
def impl_SumOf.x (k : Nat) : X:=fun ins bs κ=>match ins,bs with
 | [.sc (.string a0)],[]=>(impl_SumOf.f k a0).bind fun r=>κ (impl_SumOf.e r).1 (impl_SumOf.e r).2.1 (impl_SumOf.e r).2.2
 | _,_=>none
theorem impl_SumOf.xok (k : Nat) : XOk 99 (impl_SumOf.x k):=by
 intro ins bs κ res h;unfold impl_SumOf.x at h
 split at h
 ·obtain ⟨r,hr,h⟩:=Option.bind_eq_some_iff.1 h;exact ⟨_,_,_,impl_SumOf.con k _ r hr,h⟩
 cases h
def impl_Sealed.sp : Nat → Option (Spec Ty):=fun r=>none
def impl_Sealed.en : Option (Spec Ty):=none
def impl_Sealed.ctx (k : Nat) : Ctx Ty D:=(cons 99 (impl_SumOf.x k) (fun _ _ _ _=>none))
def impl_Sealed.f (k : Nat) (a0 : ByteArray) : Option (ByteArray × Bool):=(if (a0.size : Int) > 20000 then (some ((⟨#[]⟩ : ByteArray),false)) else ((impl_SumOf.f k a0).bind fun t1=>(if a0.size + (strOfNums ([(Go.IntKind.wrap .u8 ((Int.fdiv t1 16777216))),(Go.IntKind.wrap .u8 ((Int.fdiv t1 65536))),(Go.IntKind.wrap .u8 ((Int.fdiv t1 256))),(Go.IntKind.wrap .u8 (t1))] : List Int)).size ≤ 9223372036854775807 then (some ((a0 ++ (strOfNums ([(Go.IntKind.wrap .u8 ((Int.fdiv t1 16777216))),(Go.IntKind.wrap .u8 ((Int.fdiv t1 65536))),(Go.IntKind.wrap .u8 ((Int.fdiv t1 256))),(Go.IntKind.wrap .u8 (t1))] : List Int))),true)) else none)))
def impl_Sealed.e (r : ByteArray × Bool) : Res Ty D:=(.tu [.sc (.string r.1),.sc (.bool r.2)],[],[])
abbrev impl_Sealed.g (rec : List Item → St Ty D → R) (k : Nat):=go1 Tryz.f80 (impl_Sealed.ctx k) impl_Sealed.sp 0 impl_Sealed.en rec
theorem impl_Sealed.te (rec : List Item → St Ty D → R) (k : Nat) (a0 : ByteArray) : impl_Sealed.g rec k [.code (body Tryz.f80)] (startSt [.sc (.string a0)] []) =
 bif decide ((a0.size : Int) > 20000) then some (impl_Sealed.e ((⟨#[]⟩ : ByteArray),false)) else (impl_SumOf.f k a0).bind fun t1=>bif decide (a0.size + (strOfNums ([(Go.IntKind.wrap .u8 ((Int.fdiv t1 16777216))),(Go.IntKind.wrap .u8 ((Int.fdiv t1 65536))),(Go.IntKind.wrap .u8 ((Int.fdiv t1 256))),(Go.IntKind.wrap .u8 (t1))] : List Int)).size ≤ 9223372036854775807) then some (impl_Sealed.e ((a0 ++ (strOfNums ([(Go.IntKind.wrap .u8 ((Int.fdiv t1 16777216))),(Go.IntKind.wrap .u8 ((Int.fdiv t1 65536))),(Go.IntKind.wrap .u8 ((Int.fdiv t1 256))),(Go.IntKind.wrap .u8 (t1))] : List Int))),true)) else none:=by kernel_rfl
theorem impl_Sealed.oke (k : Nat) (a0 : ByteArray) : goF Tryz.f80 impl_Sealed.ctx impl_Sealed.sp 0 impl_Sealed.en (k + 1) [.code (body Tryz.f80)] (startSt [.sc (.string a0)] []) = (impl_Sealed.f k a0).map impl_Sealed.e:=by
 rw [impl_Sealed.f];exact (impl_Sealed.te _ k a0).trans (cd rfl (bn (fun t1=>(cd rfl rfl))))
theorem impl_Sealed.con (k : Nat) (a0 : ByteArray) (r) (h : impl_Sealed.f k a0 = some r) : Contract Tryz.prog kit 80 [.sc (.string a0)] [] (impl_Sealed.e r).1 (impl_Sealed.e r).2.1 (impl_Sealed.e r).2.2 :=
 con_okG kitOk mix (fun k=>(CtxOk.cons (impl_SumOf.xok k) CtxOk.nil)) (impl_Sealed.oke k a0) h (by kernel_rfl) (by kernel_rfl) (by kernel_rfl) rfl (by kernel_rfl) rfl rfl
def impl_Sealed.x (k : Nat) : X:=fun ins bs κ=>match ins,bs with
 | [.sc (.string a0)],[]=>(impl_Sealed.f k a0).bind fun r=>κ (impl_Sealed.e r).1 (impl_Sealed.e r).2.1 (impl_Sealed.e r).2.2
 | _,_=>none
theorem impl_Sealed.xok (k : Nat) : XOk 80 (impl_Sealed.x k):=by
 intro ins bs κ res h;unfold impl_Sealed.x at h
 split at h
 ·obtain ⟨r,hr,h⟩:=Option.bind_eq_some_iff.1 h;exact ⟨_,_,_,impl_Sealed.con k _ r hr,h⟩
 cases h
def impl_Unsealed.sp : Nat → Option (Spec Ty):=fun r=>none
def impl_Unsealed.en : Option (Spec Ty):=none
def impl_Unsealed.ctx (k : Nat) : Ctx Ty D:=(cons 80 (impl_Sealed.x k) (fun _ _ _ _=>none))
def impl_Unsealed.f (k : Nat) (a0 : ByteArray) : Option (ByteArray × Bool):=(if (a0.size : Int) < 4 then (some ((⟨#[]⟩ : ByteArray),false)) else (if 0 ≤ (w64 ((a0.size : Int) - 4)) then (if (w64 ((a0.size : Int) - 4)) ≤ (a0.size : Int) then ((impl_Sealed.f k (a0.extract 0 ((w64 ((a0.size : Int) - 4)).toNat))).bind fun t1=>(if t1.2 = true then (if (seq t1.1 a0) = true then (some ((a0.extract 0 ((w64 ((a0.size : Int) - 4)).toNat)),true)) else (some ((⟨#[]⟩ : ByteArray),false))) else (some ((⟨#[]⟩ : ByteArray),false)))) else none) else none))
def impl_Unsealed.e (r : ByteArray × Bool) : Res Ty D:=(.tu [.sc (.string r.1),.sc (.bool r.2)],[],[])
abbrev impl_Unsealed.g (rec : List Item → St Ty D → R) (k : Nat):=go1 Tryz.f55 (impl_Unsealed.ctx k) impl_Unsealed.sp 0 impl_Unsealed.en rec
theorem impl_Unsealed.te (rec : List Item → St Ty D → R) (k : Nat) (a0 : ByteArray) : impl_Unsealed.g rec k [.code (body Tryz.f55)] (startSt [.sc (.string a0)] []) =
 bif decide ((a0.size : Int) < 4) then some (impl_Unsealed.e ((⟨#[]⟩ : ByteArray),false)) else bif decide (0 ≤ (w64 ((a0.size : Int) - 4))) then bif decide ((w64 ((a0.size : Int) - 4)) ≤ (a0.size : Int)) then (impl_Sealed.f k (a0.extract 0 ((w64 ((a0.size : Int) - 4)).toNat))).bind fun t1=>bif !t1.2 then some (impl_Unsealed.e ((⟨#[]⟩ : ByteArray),false)) else bif !(seq t1.1 a0) then some (impl_Unsealed.e ((⟨#[]⟩ : ByteArray),false)) else some (impl_Unsealed.e ((a0.extract 0 ((w64 ((a0.size : Int) - 4)).toNat)),true)) else none else none:=by kernel_rfl
theorem impl_Unsealed.oke (k : Nat) (a0 : ByteArray) : goF Tryz.f55 impl_Unsealed.ctx impl_Unsealed.sp 0 impl_Unsealed.en (k + 1) [.code (body Tryz.f55)] (startSt [.sc (.string a0)] []) = (impl_Unsealed.f k a0).map impl_Unsealed.e:=by
 rw [impl_Unsealed.f];exact (impl_Unsealed.te _ k a0).trans (cd rfl (cd (cd (bn (fun t1=>(nb rfl (nb rfl rfl)))) rfl) rfl))
theorem impl_Unsealed.con (k : Nat) (a0 : ByteArray) (r) (h : impl_Unsealed.f k a0 = some r) : Contract Tryz.prog kit 55 [.sc (.string a0)] [] (impl_Unsealed.e r).1 (impl_Unsealed.e r).2.1 (impl_Unsealed.e r).2.2 :=
 con_okG kitOk mix (fun k=>(CtxOk.cons (impl_Sealed.xok k) CtxOk.nil)) (impl_Unsealed.oke k a0) h (by kernel_rfl) (by kernel_rfl) (by kernel_rfl) rfl (by kernel_rfl) rfl rfl
def impl_Unsealed.x (k : Nat) : X:=fun ins bs κ=>match ins,bs with
 | [.sc (.string a0)],[]=>(impl_Unsealed.f k a0).bind fun r=>κ (impl_Unsealed.e r).1 (impl_Unsealed.e r).2.1 (impl_Unsealed.e r).2.2
 | _,_=>none
theorem impl_Unsealed.xok (k : Nat) : XOk 55 (impl_Unsealed.x k):=by
 intro ins bs κ res h;unfold impl_Unsealed.x at h
 split at h
 ·obtain ⟨r,hr,h⟩:=Option.bind_eq_some_iff.1 h;exact ⟨_,_,_,impl_Unsealed.con k _ r hr,h⟩
 cases h
def impl_ReadVar.sp : Nat → Option (Spec Ty):=fun r=>bif Nat.beq r 3 then some ⟨[(0,.keep),(1,.keep),(7,.keep),(8,.keep)],[]⟩ else none
def impl_ReadVar.en : Option (Spec Ty):=none
def impl_ReadVar.s3 (x0 : ByteArray) (x1 : Int) (x7 : Int) (x8 : Int) : St Ty D:=⟨(Env.put (Env.put (Env.put (Env.put E (some 0) (.sc (.string x0))) (some 1) (.sc (.int .i64 x1))) (some 7) (.sc (.int .i64 x7))) (some 8) (.sc (.int .i64 x8))),H0,1000⟩
def impl_ReadVar.ctx (k : Nat) : Ctx Ty D:=(fun _ _ _ _=>none)
def impl_ReadVar.c3 : Nat → ByteArray → Int → Int → Int → Option (Int × Int × Bool)
 | 0,_,_,_,_=>none
 | k + 1,x0,x1,x7,x8=>(if x8 < 5 then (if x1 ≥ 0 then (if x1 < (w64 ((x0.size : Int) - x8)) then (if 0 ≤ (w64 (x1 + x8)) then (if (w64 (x1 + x8)) < (x0.size : Int) then (if 0 ≤ (w64 (7 * x8)) then (if (w64 ((bt x0 (w64 (x1 + x8))))) ≥ 128 then (impl_ReadVar.c3 k x0 x1 (w64 (x7 + (w64 ((Int.tmod (w64 ((bt x0 (w64 (x1 + x8))))) 128) * 2 ^ (min (w64 (7 * x8)).toNat 64))))) (w64 (x8 + 1))) else (if (w64 ((bt x0 (w64 (x1 + x8))))) = 0 then (if x8 > 0 then (some (0,0,false)) else (if (w64 (x7 + (w64 ((Int.tmod (w64 ((bt x0 (w64 (x1 + x8))))) 128) * 2 ^ (min (w64 (7 * x8)).toNat 64))))) > 1000000000 then (some (0,0,false)) else (some ((w64 (x7 + (w64 ((Int.tmod (w64 ((bt x0 (w64 (x1 + x8))))) 128) * 2 ^ (min (w64 (7 * x8)).toNat 64))))),(w64 ((w64 (x1 + x8)) + 1)),true)))) else (if (w64 (x7 + (w64 ((Int.tmod (w64 ((bt x0 (w64 (x1 + x8))))) 128) * 2 ^ (min (w64 (7 * x8)).toNat 64))))) > 1000000000 then (some (0,0,false)) else (some ((w64 (x7 + (w64 ((Int.tmod (w64 ((bt x0 (w64 (x1 + x8))))) 128) * 2 ^ (min (w64 (7 * x8)).toNat 64))))),(w64 ((w64 (x1 + x8)) + 1)),true))))) else none) else none) else none) else (some (0,0,false))) else (some (0,0,false))) else (some (0,0,false)))
def impl_ReadVar.f (k : Nat) (a0 : ByteArray) (a1 : Int) : Option (Int × Int × Bool):=(impl_ReadVar.c3 k a0 a1 0 0)
def impl_ReadVar.e (r : Int × Int × Bool) : Res Ty D:=(.tu [.sc (.int .i64 r.1),.sc (.int .i64 r.2.1),.sc (.bool r.2.2)],[],[])
abbrev impl_ReadVar.g (rec : List Item → St Ty D → R) (k : Nat):=go1 Tryz.f56 (impl_ReadVar.ctx k) impl_ReadVar.sp 0 impl_ReadVar.en rec
theorem impl_ReadVar.t3 (rec : List Item → St Ty D → R) (k : Nat) (x0 : ByteArray) (x1 : Int) (x7 : Int) (x8 : Int) : impl_ReadVar.g rec k (td Tryz.f56 3) (impl_ReadVar.s3 x0 x1 x7 x8) =
 bif decide (x8 < 5) then bif decide (x1 ≥ 0) then bif decide (x1 < (w64 ((x0.size : Int) - x8))) then bif decide (0 ≤ (w64 (x1 + x8))) then bif decide ((w64 (x1 + x8)) < (x0.size : Int)) then bif decide (0 ≤ (w64 (7 * x8))) then bif decide ((w64 ((bt x0 (w64 (x1 + x8))))) ≥ 128) then rec (td Tryz.f56 3) (impl_ReadVar.s3 x0 x1 (w64 (x7 + (w64 ((Int.tmod (w64 ((bt x0 (w64 (x1 + x8))))) 128) * 2 ^ (min (w64 (7 * x8)).toNat 64))))) (w64 (x8 + 1))) else bif decide ((w64 ((bt x0 (w64 (x1 + x8))))) = 0) then bif decide (x8 > 0) then some (impl_ReadVar.e (0,0,false)) else bif decide ((w64 (x7 + (w64 ((Int.tmod (w64 ((bt x0 (w64 (x1 + x8))))) 128) * 2 ^ (min (w64 (7 * x8)).toNat 64))))) > 1000000000) then some (impl_ReadVar.e (0,0,false)) else some (impl_ReadVar.e ((w64 (x7 + (w64 ((Int.tmod (w64 ((bt x0 (w64 (x1 + x8))))) 128) * 2 ^ (min (w64 (7 * x8)).toNat 64))))),(w64 ((w64 (x1 + x8)) + 1)),true)) else bif decide ((w64 (x7 + (w64 ((Int.tmod (w64 ((bt x0 (w64 (x1 + x8))))) 128) * 2 ^ (min (w64 (7 * x8)).toNat 64))))) > 1000000000) then some (impl_ReadVar.e (0,0,false)) else some (impl_ReadVar.e ((w64 (x7 + (w64 ((Int.tmod (w64 ((bt x0 (w64 (x1 + x8))))) 128) * 2 ^ (min (w64 (7 * x8)).toNat 64))))),(w64 ((w64 (x1 + x8)) + 1)),true)) else none else none else none else some (impl_ReadVar.e (0,0,false)) else some (impl_ReadVar.e (0,0,false)) else some (impl_ReadVar.e (0,0,false)):=by kernel_rfl
theorem impl_ReadVar.te (rec : List Item → St Ty D → R) (k : Nat) (a0 : ByteArray) (a1 : Int) : impl_ReadVar.g rec k [.code (body Tryz.f56)] (startSt [.sc (.string a0),.sc (.int .i64 a1)] []) =
 rec (td Tryz.f56 3) (impl_ReadVar.s3 a0 a1 0 0):=by kernel_rfl
theorem impl_ReadVar.ok : ∀ k : Nat,(∀ (x0 : ByteArray) (x1 : Int) (x7 : Int) (x8 : Int),goF Tryz.f56 impl_ReadVar.ctx impl_ReadVar.sp 0 impl_ReadVar.en k (td Tryz.f56 3) (impl_ReadVar.s3 x0 x1 x7 x8) = (impl_ReadVar.c3 k x0 x1 x7 x8).map impl_ReadVar.e)
 | 0=>fun _ _ _ _=>rfl
 | k + 1=>by
  have ih:=impl_ReadVar.ok k;have i3:=ih;intro x0 x1 x7 x8;rw [impl_ReadVar.c3];exact (impl_ReadVar.t3 _ k x0 x1 x7 x8).trans (cd (cd (cd (cd (cd (cd (cd (i3 _ _ _ _) (cd (cd rfl (cd rfl rfl)) (cd rfl rfl))) rfl) rfl) rfl) rfl) rfl) rfl)
theorem impl_ReadVar.oke (k : Nat) (a0 : ByteArray) (a1 : Int) : goF Tryz.f56 impl_ReadVar.ctx impl_ReadVar.sp 0 impl_ReadVar.en (k + 1) [.code (body Tryz.f56)] (startSt [.sc (.string a0),.sc (.int .i64 a1)] []) = (impl_ReadVar.f k a0 a1).map impl_ReadVar.e:=by
 have i3:=impl_ReadVar.ok k;rw [impl_ReadVar.f];exact (impl_ReadVar.te _ k a0 a1).trans (i3 _ _ _ _)
theorem impl_ReadVar.con (k : Nat) (a0 : ByteArray) (a1 : Int) (r) (h : impl_ReadVar.f k a0 a1 = some r) : Contract Tryz.prog kit 56 [.sc (.string a0),.sc (.int .i64 a1)] [] (impl_ReadVar.e r).1 (impl_ReadVar.e r).2.1 (impl_ReadVar.e r).2.2 :=
 con_okG kitOk mix (fun k=>CtxOk.nil) (impl_ReadVar.oke k a0 a1) h (by kernel_rfl) (by kernel_rfl) (by kernel_rfl) rfl (by kernel_rfl) rfl rfl
def impl_ReadVar.x (k : Nat) : X:=fun ins bs κ=>match ins,bs with
 | [.sc (.string a0),.sc (.int .i64 a1)],[]=>(impl_ReadVar.f k a0 a1).bind fun r=>κ (impl_ReadVar.e r).1 (impl_ReadVar.e r).2.1 (impl_ReadVar.e r).2.2
 | _,_=>none
theorem impl_ReadVar.xok (k : Nat) : XOk 56 (impl_ReadVar.x k):=by
 intro ins bs κ res h;unfold impl_ReadVar.x at h
 split at h
 ·obtain ⟨r,hr,h⟩:=Option.bind_eq_some_iff.1 h;exact ⟨_,_,_,impl_ReadVar.con k _ _ r hr,h⟩
 cases h
end
end Go.Proofs.YtibhkbljjnlpjaaGreat.M2

namespace Go.Proofs.YtibhkbljjnlpjaaGreat.M2
open Go Go.Proofs.YtibhkbljjnlpjaaGreat.PK
set_option linter.unusedVariables false
set_option linter.unusedSimpArgs false
set_option maxHeartbeats 4000000
set_option maxRecDepth 100000
noncomputable section
def impl_PageOk.sp : Nat → Option (Spec Ty):=fun r=>none
def impl_PageOk.en : Option (Spec Ty):=none
def impl_PageOk.ctx (k : Nat) : Ctx Ty D:=(cons 81 (impl_in.x k) (fun _ _ _ _=>none))
def impl_PageOk.f (k : Nat) (a0_0 : Int) (a0_1 : Int) (a0_2 : Int) (a0_3 : Int) (a0_4 : Int) (a0_5 : ByteArray) : Option (Bool):=((impl_in.f k a0_1 1 1000000000).bind fun t1=>(if t1 = true then ((impl_in.f k a0_2 1 1000000000).bind fun t2=>(if t2 = true then ((impl_in.f k a0_4 1 9).bind fun t3=>(if t3 = true then ((impl_in.f k a0_3 0 (w64 (a0_4 - 1))).bind fun t4=>(if t4 = true then (if (a0_5.size : Int) > 90 then (some (false)) else (if a0_0 = 2 then (some (true)) else (if a0_0 = 1 then (some ((decide (a0_4 = 1)))) else (some (false))))) else (some (false)))) else (some (false)))) else (some (false)))) else (some (false))))
def impl_PageOk.e (r : Bool) : Res Ty D:=(.sc (.bool r),[],[])
abbrev impl_PageOk.g (rec : List Item → St Ty D → R) (k : Nat):=go1 Tryz.f57 (impl_PageOk.ctx k) impl_PageOk.sp 0 impl_PageOk.en rec
theorem impl_PageOk.te (rec : List Item → St Ty D → R) (k : Nat) (a0_0 : Int) (a0_1 : Int) (a0_2 : Int) (a0_3 : Int) (a0_4 : Int) (a0_5 : ByteArray) : impl_PageOk.g rec k [.code (body Tryz.f57)] (startSt [.ag [.sc (.int .i64 a0_0),.sc (.int .i64 a0_1),.sc (.int .i64 a0_2),.sc (.int .i64 a0_3),.sc (.int .i64 a0_4),.sc (.string a0_5)]] []) =
 (impl_in.f k a0_1 1 1000000000).bind fun t1=>bif !t1 then some (impl_PageOk.e (false)) else (impl_in.f k a0_2 1 1000000000).bind fun t2=>bif !t2 then some (impl_PageOk.e (false)) else (impl_in.f k a0_4 1 9).bind fun t3=>bif !t3 then some (impl_PageOk.e (false)) else (impl_in.f k a0_3 0 (w64 (a0_4 - 1))).bind fun t4=>bif !t4 then some (impl_PageOk.e (false)) else bif decide ((a0_5.size : Int) > 90) then some (impl_PageOk.e (false)) else bif decide (a0_0 = 2) then some (impl_PageOk.e (true)) else bif decide (a0_0 = 1) then some (impl_PageOk.e ((decide (a0_4 = 1)))) else some (impl_PageOk.e (false)):=by kernel_rfl
theorem impl_PageOk.oke (k : Nat) (a0_0 : Int) (a0_1 : Int) (a0_2 : Int) (a0_3 : Int) (a0_4 : Int) (a0_5 : ByteArray) : goF Tryz.f57 impl_PageOk.ctx impl_PageOk.sp 0 impl_PageOk.en (k + 1) [.code (body Tryz.f57)] (startSt [.ag [.sc (.int .i64 a0_0),.sc (.int .i64 a0_1),.sc (.int .i64 a0_2),.sc (.int .i64 a0_3),.sc (.int .i64 a0_4),.sc (.string a0_5)]] []) = (impl_PageOk.f k a0_0 a0_1 a0_2 a0_3 a0_4 a0_5).map impl_PageOk.e:=by
 rw [impl_PageOk.f];exact (impl_PageOk.te _ k a0_0 a0_1 a0_2 a0_3 a0_4 a0_5).trans (bn (fun t1=>(nb rfl (bn (fun t2=>(nb rfl (bn (fun t3=>(nb rfl (bn (fun t4=>(nb rfl (cd rfl (cd rfl (cd rfl rfl)))))))))))))))
theorem impl_PageOk.con (k : Nat) (a0_0 : Int) (a0_1 : Int) (a0_2 : Int) (a0_3 : Int) (a0_4 : Int) (a0_5 : ByteArray) (r) (h : impl_PageOk.f k a0_0 a0_1 a0_2 a0_3 a0_4 a0_5 = some r) : Contract Tryz.prog kit 57 [.ag [.sc (.int .i64 a0_0),.sc (.int .i64 a0_1),.sc (.int .i64 a0_2),.sc (.int .i64 a0_3),.sc (.int .i64 a0_4),.sc (.string a0_5)]] [] (impl_PageOk.e r).1 (impl_PageOk.e r).2.1 (impl_PageOk.e r).2.2 :=
 con_okG kitOk mix (fun k=>(CtxOk.cons (impl_in.xok k) CtxOk.nil)) (impl_PageOk.oke k a0_0 a0_1 a0_2 a0_3 a0_4 a0_5) h (by kernel_rfl) (by kernel_rfl) (by kernel_rfl) rfl (by kernel_rfl) rfl rfl
def impl_PageOk.x (k : Nat) : X:=fun ins bs κ=>match ins,bs with
 | [.ag [.sc (.int .i64 a0_0),.sc (.int .i64 a0_1),.sc (.int .i64 a0_2),.sc (.int .i64 a0_3),.sc (.int .i64 a0_4),.sc (.string a0_5)]],[]=>(impl_PageOk.f k a0_0 a0_1 a0_2 a0_3 a0_4 a0_5).bind fun r=>κ (impl_PageOk.e r).1 (impl_PageOk.e r).2.1 (impl_PageOk.e r).2.2
 | _,_=>none
theorem impl_PageOk.xok (k : Nat) : XOk 57 (impl_PageOk.x k):=by
 intro ins bs κ res h;unfold impl_PageOk.x at h
 split at h
 ·obtain ⟨r,hr,h⟩:=Option.bind_eq_some_iff.1 h;exact ⟨_,_,_,impl_PageOk.con k _ _ _ _ _ _ r hr,h⟩
 cases h
def impl_ReadPage.sp : Nat → Option (Spec Ty):=fun r=>bif Nat.beq r 7 then some ⟨[(2,.box [.keep,.keep,.keep,.keep,.keep,.keep]),(4,.keep),(6,.arr .t3),(7,.keep),(25,.keep)],[]⟩ else none
def impl_ReadPage.en : Option (Spec Ty):=none
def impl_ReadPage.s7 (x4 : ByteArray) (x7 : Int) (x25 : Int) (h64_0 : Int) (h64_1 : Int) (h64_2 : Int) (h64_3 : Int) (h64_4 : Int) (h64_5 : ByteArray) (h65 : List Int) : St Ty D:=⟨(Env.put (Env.put (Env.put (Env.put (Env.put E (some 2) (.pt 64 0 0)) (some 4) (.sc (.string x4))) (some 6) (.pt 65 0 0)) (some 7) (.sc (.int .i64 x7))) (some 25) (.sc (.int .i64 x25))),Heap.put H0 [(64,some (.box [.sc (.int .i64 h64_0),.sc (.int .i64 h64_1),.sc (.int .i64 h64_2),.sc (.int .i64 h64_3),.sc (.int .i64 h64_4),.sc (.string h64_5)])),(65,some (.rowb .t3 h65 0))],1000⟩
def impl_ReadPage.ctx (k : Nat) : Ctx Ty D:=(cons 55 (impl_Unsealed.x k) (cons 56 (impl_ReadVar.x k) (cons 57 (impl_PageOk.x k) (fun _ _ _ _=>none))))
def impl_ReadPage.c7 : Nat → ByteArray → Int → Int → Int → Int → Int → Int → Int → ByteArray → (List Int) → Option (Int × Int × Int × Int × Int × ByteArray × Bool)
 | 0,_,_,_,_,_,_,_,_,_,_=>none
 | k + 1,x4,x7,x25,h64_0,h64_1,h64_2,h64_3,h64_4,h64_5,h65=>(if x25 < 4 then ((impl_ReadVar.f k x4 x7).bind fun t2=>(if t2.2.2 = true then (if (Nat.beq 4 h65.length) = true then (if 0 ≤ x25 then (if x25 < (h65.length : Int) then (impl_ReadPage.c7 k x4 t2.2.1 (w64 (x25 + 1)) h64_0 h64_1 h64_2 h64_3 h64_4 h64_5 (h65.set x25.toNat t2.1)) else none) else none) else none) else (some (0,0,0,0,0,(⟨#[]⟩ : ByteArray),false)))) else (if 0 < (x4.size : Int) then (if (Nat.beq 4 h65.length) = true then (if 0 < (h65.length : Int) then (if (Nat.beq 4 h65.length) = true then (if 1 < (h65.length : Int) then (if (Nat.beq 4 h65.length) = true then (if 2 < (h65.length : Int) then (if (Nat.beq 4 h65.length) = true then (if 3 < (h65.length : Int) then (if 0 ≤ x7 then (if x7 ≤ (x4.size : Int) then ((impl_PageOk.f k (w64 ((bt x4 0))) (rd_T3 h65 0) (rd_T3 h65 1) (rd_T3 h65 2) (rd_T3 h65 3) (x4.extract x7.toNat x4.size)).bind fun t3=>(if t3 = true then (some ((w64 ((bt x4 0))),(rd_T3 h65 0),(rd_T3 h65 1),(rd_T3 h65 2),(rd_T3 h65 3),(x4.extract x7.toNat x4.size),true)) else (some (0,0,0,0,0,(⟨#[]⟩ : ByteArray),false)))) else none) else none) else none) else none) else none) else none) else none) else none) else none) else none) else none))
def impl_ReadPage.f (k : Nat) (a0 : ByteArray) : Option (Int × Int × Int × Int × Int × ByteArray × Bool):=((impl_Unsealed.f k a0).bind fun t1=>(if t1.2 = true then (if (seq t1.1 (⟨#[]⟩ : ByteArray)) = true then (some (0,0,0,0,0,(⟨#[]⟩ : ByteArray),false)) else (impl_ReadPage.c7 k t1.1 1 0 0 0 0 0 0 (⟨#[]⟩ : ByteArray) (List.replicate 4 z3))) else (some (0,0,0,0,0,(⟨#[]⟩ : ByteArray),false))))
def impl_ReadPage.e (r : Int × Int × Int × Int × Int × ByteArray × Bool) : Res Ty D:=(.tu [.ag [.sc (.int .i64 r.1),.sc (.int .i64 r.2.1),.sc (.int .i64 r.2.2.1),.sc (.int .i64 r.2.2.2.1),.sc (.int .i64 r.2.2.2.2.1),.sc (.string r.2.2.2.2.2.1)],.sc (.bool r.2.2.2.2.2.2)],[],[])
abbrev impl_ReadPage.g (rec : List Item → St Ty D → R) (k : Nat):=go1 Tryz.f38 (impl_ReadPage.ctx k) impl_ReadPage.sp 0 impl_ReadPage.en rec
theorem impl_ReadPage.t7 (rec : List Item → St Ty D → R) (k : Nat) (x4 : ByteArray) (x7 : Int) (x25 : Int) (h64_0 : Int) (h64_1 : Int) (h64_2 : Int) (h64_3 : Int) (h64_4 : Int) (h64_5 : ByteArray) (h65 : List Int) : impl_ReadPage.g rec k (td Tryz.f38 7) (impl_ReadPage.s7 x4 x7 x25 h64_0 h64_1 h64_2 h64_3 h64_4 h64_5 h65) =
 bif decide (x25 < 4) then (impl_ReadVar.f k x4 x7).bind fun t2=>bif !t2.2.2 then some (impl_ReadPage.e (0,0,0,0,0,(⟨#[]⟩ : ByteArray),false)) else bif (Nat.beq 4 h65.length) then bif decide (0 ≤ x25) then bif decide (x25 < (h65.length : Int)) then rec (td Tryz.f38 7) (impl_ReadPage.s7 x4 t2.2.1 (w64 (x25 + 1)) h64_0 h64_1 h64_2 h64_3 h64_4 h64_5 (h65.set x25.toNat t2.1)) else none else none else none else bif decide (0 < (x4.size : Int)) then bif (Nat.beq 4 h65.length) then bif decide (0 < (h65.length : Int)) then bif (Nat.beq 4 h65.length) then bif decide (1 < (h65.length : Int)) then bif (Nat.beq 4 h65.length) then bif decide (2 < (h65.length : Int)) then bif (Nat.beq 4 h65.length) then bif decide (3 < (h65.length : Int)) then bif decide (0 ≤ x7) then bif decide (x7 ≤ (x4.size : Int)) then (impl_PageOk.f k (w64 ((bt x4 0))) (rd_T3 h65 0) (rd_T3 h65 1) (rd_T3 h65 2) (rd_T3 h65 3) (x4.extract x7.toNat x4.size)).bind fun t3=>bif !t3 then some (impl_ReadPage.e (0,0,0,0,0,(⟨#[]⟩ : ByteArray),false)) else some (impl_ReadPage.e ((w64 ((bt x4 0))),(rd_T3 h65 0),(rd_T3 h65 1),(rd_T3 h65 2),(rd_T3 h65 3),(x4.extract x7.toNat x4.size),true)) else none else none else none else none else none else none else none else none else none else none else none:=by kernel_rfl
theorem impl_ReadPage.te (rec : List Item → St Ty D → R) (k : Nat) (a0 : ByteArray) : impl_ReadPage.g rec k [.code (body Tryz.f38)] (startSt [.sc (.string a0)] []) =
 (impl_Unsealed.f k a0).bind fun t1=>bif !t1.2 then some (impl_ReadPage.e (0,0,0,0,0,(⟨#[]⟩ : ByteArray),false)) else bif (seq t1.1 (⟨#[]⟩ : ByteArray)) then some (impl_ReadPage.e (0,0,0,0,0,(⟨#[]⟩ : ByteArray),false)) else rec (td Tryz.f38 7) (impl_ReadPage.s7 t1.1 1 0 0 0 0 0 0 (⟨#[]⟩ : ByteArray) (List.replicate 4 z3)):=by kernel_rfl
theorem impl_ReadPage.ok : ∀ k : Nat,(∀ (x4 : ByteArray) (x7 : Int) (x25 : Int) (h64_0 : Int) (h64_1 : Int) (h64_2 : Int) (h64_3 : Int) (h64_4 : Int) (h64_5 : ByteArray) (h65 : List Int),goF Tryz.f38 impl_ReadPage.ctx impl_ReadPage.sp 0 impl_ReadPage.en k (td Tryz.f38 7) (impl_ReadPage.s7 x4 x7 x25 h64_0 h64_1 h64_2 h64_3 h64_4 h64_5 h65) = (impl_ReadPage.c7 k x4 x7 x25 h64_0 h64_1 h64_2 h64_3 h64_4 h64_5 h65).map impl_ReadPage.e)
 | 0=>fun _ _ _ _ _ _ _ _ _ _=>rfl
 | k + 1=>by
  have ih:=impl_ReadPage.ok k;have i7:=ih;intro x4 x7 x25 h64_0 h64_1 h64_2 h64_3 h64_4 h64_5 h65;rw [impl_ReadPage.c7];exact (impl_ReadPage.t7 _ k x4 x7 x25 h64_0 h64_1 h64_2 h64_3 h64_4 h64_5 h65).trans (cd (bn (fun t2=>(nb rfl (cb (cd (cd (i7 _ _ _ _ _ _ _ _ _ _) rfl) rfl) rfl)))) (cd (cb (cd (cb (cd (cb (cd (cb (cd (cd (cd (bn (fun t3=>(nb rfl rfl))) rfl) rfl) rfl) rfl) rfl) rfl) rfl) rfl) rfl) rfl) rfl))
theorem impl_ReadPage.oke (k : Nat) (a0 : ByteArray) : goF Tryz.f38 impl_ReadPage.ctx impl_ReadPage.sp 0 impl_ReadPage.en (k + 1) [.code (body Tryz.f38)] (startSt [.sc (.string a0)] []) = (impl_ReadPage.f k a0).map impl_ReadPage.e:=by
 have i7:=impl_ReadPage.ok k;rw [impl_ReadPage.f];exact (impl_ReadPage.te _ k a0).trans (bn (fun t1=>(nb rfl (cb rfl (i7 _ _ _ _ _ _ _ _ _ _)))))
theorem impl_ReadPage.con (k : Nat) (a0 : ByteArray) (r) (h : impl_ReadPage.f k a0 = some r) : Contract Tryz.prog kit 38 [.sc (.string a0)] [] (impl_ReadPage.e r).1 (impl_ReadPage.e r).2.1 (impl_ReadPage.e r).2.2 :=
 con_okG kitOk mix (fun k=>(CtxOk.cons (impl_Unsealed.xok k) (CtxOk.cons (impl_ReadVar.xok k) (CtxOk.cons (impl_PageOk.xok k) CtxOk.nil)))) (impl_ReadPage.oke k a0) h (by kernel_rfl) (by kernel_rfl) (by kernel_rfl) rfl (by kernel_rfl) rfl rfl
def impl_ReadPage.x (k : Nat) : X:=fun ins bs κ=>match ins,bs with
 | [.sc (.string a0)],[]=>(impl_ReadPage.f k a0).bind fun r=>κ (impl_ReadPage.e r).1 (impl_ReadPage.e r).2.1 (impl_ReadPage.e r).2.2
 | _,_=>none
theorem impl_ReadPage.xok (k : Nat) : XOk 38 (impl_ReadPage.x k):=by
 intro ins bs κ res h;unfold impl_ReadPage.x at h
 split at h
 ·obtain ⟨r,hr,h⟩:=Option.bind_eq_some_iff.1 h;exact ⟨_,_,_,impl_ReadPage.con k _ r hr,h⟩
 cases h
def impl_ScanAll.sp : Nat → Option (Spec Ty):=fun r=>bif Nat.beq r 3 then some ⟨[(3,.box [.own .t65]),(11,.keep),(12,.keep),(13,.keep)],[]⟩ else bif Nat.beq r 6 then some ⟨[(3,.box [.own .t65]),(4,.keep),(11,.keep),(12,.keep),(13,.keep),(19,.keep),(20,.keep),(21,.keep)],[]⟩ else none
def impl_ScanAll.en : Option (Spec Ty):=some ⟨[(2,.own .t65)],[]⟩
def impl_ScanAll.s3 (x11 : List S76) (x12 : Int) (x13 : Int) (h65 : List S65) : St Ty D:=⟨(Env.put (Env.put (Env.put (Env.put E (some 3) (.pt 64 0 0)) (some 11) (.row 0 .t76 x11)) (some 12) (.sc (.int .i64 x12))) (some 13) (.sc (.int .i64 x13))),Heap.put H0 [(65,some (.rowb .t65 h65 0)),(64,some (.box [.sl 65 none]))],1000⟩
def impl_ScanAll.s6 (x4 : Int) (x11 : List S76) (x12 : Int) (x13 : Int) (x19 : List S92) (x20 : Int) (x21 : Int) (h65 : List S65) : St Ty D:=⟨(Env.put (Env.put (Env.put (Env.put (Env.put (Env.put (Env.put (Env.put E (some 3) (.pt 64 0 0)) (some 4) (.sc (.int .i64 x4))) (some 11) (.row 0 .t76 x11)) (some 12) (.sc (.int .i64 x12))) (some 13) (.sc (.int .i64 x13))) (some 19) (.row 0 .t92 x19)) (some 20) (.sc (.int .i64 x20))) (some 21) (.sc (.int .i64 x21))),Heap.put H0 [(65,some (.rowb .t65 h65 0)),(64,some (.box [.sl 65 none]))],1000⟩
def impl_ScanAll.ctx (k : Nat) : Ctx Ty D:=(cons 38 (impl_ReadPage.x k) (fun _ _ _ _=>none))
mutual
def impl_ScanAll.c3 : Nat → (List S76) → Int → Int → (List S65) → Option ((List S65))
 | 0,_,_,_,_=>none
 | k + 1,x11,x12,x13,h65=>(if x13 < x12 then (if 0 ≤ x13 then (if x13 < (x11.length : Int) then (impl_ScanAll.c6 k x13 x11 x12 x13 ((rd_T76 x11 x13).f2) (((rd_T76 x11 x13).f2).length : Int) 0 h65) else none) else none) else (if h65.length ≤ 576460752303423488 then (some ((lsort65 h65))) else none))
def impl_ScanAll.c6 : Nat → Int → (List S76) → Int → Int → (List S92) → Int → Int → (List S65) → Option ((List S65))
 | 0,_,_,_,_,_,_,_,_=>none
 | k + 1,x4,x11,x12,x13,x19,x20,x21,h65=>(if x21 < x20 then (if 0 ≤ x21 then (if x21 < (x19.length : Int) then ((impl_ReadPage.f k ((rd_T92 x19 x21).f1)).bind fun t1=>(if t1.2.2.2.2.2.2 = true then (if ((rd_T92 x19 x21).f0) = 1 then (if h65.length + ([(S65.mk x4 x21 (S63.mk t1.1 t1.2.1 t1.2.2.1 t1.2.2.2.1 t1.2.2.2.2.1 t1.2.2.2.2.2.1))] : List S65).length ≤ 1954687338268 then (impl_ScanAll.c6 k x4 x11 x12 x13 x19 x20 (w64 (x21 + 1)) (h65 ++ ([(S65.mk x4 x21 (S63.mk t1.1 t1.2.1 t1.2.2.1 t1.2.2.2.1 t1.2.2.2.2.1 t1.2.2.2.2.2.1))] : List S65))) else none) else (impl_ScanAll.c6 k x4 x11 x12 x13 x19 x20 (w64 (x21 + 1)) h65)) else (impl_ScanAll.c6 k x4 x11 x12 x13 x19 x20 (w64 (x21 + 1)) h65))) else none) else none) else (impl_ScanAll.c3 k x11 x12 (w64 (x13 + 1)) h65))
end
def impl_ScanAll.f (k : Nat) (a0_0 : List S76) : Option ((List S65)):=(impl_ScanAll.c3 k a0_0 (a0_0.length : Int) 0 ([] : List S65))
def impl_ScanAll.e (r : (List S65)) : Res Ty D:=(.sl 0 none,[],[.rowb .t65 r 0])
abbrev impl_ScanAll.g (rec : List Item → St Ty D → R) (k : Nat):=go1 Tryz.f23 (impl_ScanAll.ctx k) impl_ScanAll.sp 0 impl_ScanAll.en rec
theorem impl_ScanAll.t3 (rec : List Item → St Ty D → R) (k : Nat) (x11 : List S76) (x12 : Int) (x13 : Int) (h65 : List S65) : impl_ScanAll.g rec k (td Tryz.f23 3) (impl_ScanAll.s3 x11 x12 x13 h65) =
 bif decide (x13 < x12) then bif decide (0 ≤ x13) then bif decide (x13 < (x11.length : Int)) then rec (td Tryz.f23 6) (impl_ScanAll.s6 x13 x11 x12 x13 ((rd_T76 x11 x13).f2) (((rd_T76 x11 x13).f2).length : Int) 0 h65) else none else none else bif decide (h65.length ≤ 576460752303423488) then some (impl_ScanAll.e ((lsort65 h65))) else none:=by kernel_rfl
theorem impl_ScanAll.t6 (rec : List Item → St Ty D → R) (k : Nat) (x4 : Int) (x11 : List S76) (x12 : Int) (x13 : Int) (x19 : List S92) (x20 : Int) (x21 : Int) (h65 : List S65) : impl_ScanAll.g rec k (td Tryz.f23 6) (impl_ScanAll.s6 x4 x11 x12 x13 x19 x20 x21 h65) =
 bif decide (x21 < x20) then bif decide (0 ≤ x21) then bif decide (x21 < (x19.length : Int)) then (impl_ReadPage.f k ((rd_T92 x19 x21).f1)).bind fun t1=>bif t1.2.2.2.2.2.2 then bif decide (((rd_T92 x19 x21).f0) = 1) then bif decide (h65.length + ([(S65.mk x4 x21 (S63.mk t1.1 t1.2.1 t1.2.2.1 t1.2.2.2.1 t1.2.2.2.2.1 t1.2.2.2.2.2.1))] : List S65).length ≤ 1954687338268) then rec (td Tryz.f23 6) (impl_ScanAll.s6 x4 x11 x12 x13 x19 x20 (w64 (x21 + 1)) (h65 ++ ([(S65.mk x4 x21 (S63.mk t1.1 t1.2.1 t1.2.2.1 t1.2.2.2.1 t1.2.2.2.2.1 t1.2.2.2.2.2.1))] : List S65))) else none else rec (td Tryz.f23 6) (impl_ScanAll.s6 x4 x11 x12 x13 x19 x20 (w64 (x21 + 1)) h65) else rec (td Tryz.f23 6) (impl_ScanAll.s6 x4 x11 x12 x13 x19 x20 (w64 (x21 + 1)) h65) else none else none else rec (td Tryz.f23 3) (impl_ScanAll.s3 x11 x12 (w64 (x13 + 1)) h65):=by kernel_rfl
theorem impl_ScanAll.te (rec : List Item → St Ty D → R) (k : Nat) (a0_0 : List S76) : impl_ScanAll.g rec k [.code (body Tryz.f23)] (startSt [.ag [.row 0 .t76 a0_0]] []) =
 rec (td Tryz.f23 3) (impl_ScanAll.s3 a0_0 (a0_0.length : Int) 0 ([] : List S65)):=by kernel_rfl
theorem impl_ScanAll.ok : ∀ k : Nat,(∀ (x11 : List S76) (x12 : Int) (x13 : Int) (h65 : List S65),goF Tryz.f23 impl_ScanAll.ctx impl_ScanAll.sp 0 impl_ScanAll.en k (td Tryz.f23 3) (impl_ScanAll.s3 x11 x12 x13 h65) = (impl_ScanAll.c3 k x11 x12 x13 h65).map impl_ScanAll.e) ∧ (∀ (x4 : Int) (x11 : List S76) (x12 : Int) (x13 : Int) (x19 : List S92) (x20 : Int) (x21 : Int) (h65 : List S65),goF Tryz.f23 impl_ScanAll.ctx impl_ScanAll.sp 0 impl_ScanAll.en k (td Tryz.f23 6) (impl_ScanAll.s6 x4 x11 x12 x13 x19 x20 x21 h65) = (impl_ScanAll.c6 k x4 x11 x12 x13 x19 x20 x21 h65).map impl_ScanAll.e)
 | 0=>⟨fun _ _ _ _=>rfl,fun _ _ _ _ _ _ _ _=>rfl⟩
 | k + 1=>by
  have ih:=impl_ScanAll.ok k;obtain ⟨i3,i6⟩:=ih;refine ⟨?_,?_⟩
  ·intro x11 x12 x13 h65;rw [impl_ScanAll.c3];exact (impl_ScanAll.t3 _ k x11 x12 x13 h65).trans (cd (cd (cd (i6 _ _ _ _ _ _ _ _) rfl) rfl) (cd rfl rfl))
  intro x4 x11 x12 x13 x19 x20 x21 h65;rw [impl_ScanAll.c6];exact (impl_ScanAll.t6 _ k x4 x11 x12 x13 x19 x20 x21 h65).trans (cd (cd (cd (bn (fun t1=>(cb (cd (cd (i6 _ _ _ _ _ _ _ _) rfl) (i6 _ _ _ _ _ _ _ _)) (i6 _ _ _ _ _ _ _ _)))) rfl) rfl) (i3 _ _ _ _))
theorem impl_ScanAll.oke (k : Nat) (a0_0 : List S76) : goF Tryz.f23 impl_ScanAll.ctx impl_ScanAll.sp 0 impl_ScanAll.en (k + 1) [.code (body Tryz.f23)] (startSt [.ag [.row 0 .t76 a0_0]] []) = (impl_ScanAll.f k a0_0).map impl_ScanAll.e:=by
 obtain ⟨i3,i6⟩:=impl_ScanAll.ok k;rw [impl_ScanAll.f];exact (impl_ScanAll.te _ k a0_0).trans (i3 _ _ _ _)
theorem impl_ScanAll.con (k : Nat) (a0_0 : List S76) (r) (h : impl_ScanAll.f k a0_0 = some r) : Contract Tryz.prog kit 23 [.ag [.row 0 .t76 a0_0]] [] (impl_ScanAll.e r).1 (impl_ScanAll.e r).2.1 (impl_ScanAll.e r).2.2 :=
 con_okG kitOk mix (fun k=>(CtxOk.cons (impl_ReadPage.xok k) CtxOk.nil)) (impl_ScanAll.oke k a0_0) h (by kernel_rfl) (by kernel_rfl) (by kernel_rfl) rfl (by kernel_rfl) rfl rfl
def impl_ScanAll.x (k : Nat) : X:=fun ins bs κ=>match ins,bs with
 | [.ag [.row 0 .t76 a0_0]],[]=>(impl_ScanAll.f k a0_0).bind fun r=>κ (impl_ScanAll.e r).1 (impl_ScanAll.e r).2.1 (impl_ScanAll.e r).2.2
 | _,_=>none
theorem impl_ScanAll.xok (k : Nat) : XOk 23 (impl_ScanAll.x k):=by
 intro ins bs κ res h;unfold impl_ScanAll.x at h
 split at h
 ·obtain ⟨r,hr,h⟩:=Option.bind_eq_some_iff.1 h;exact ⟨_,_,_,impl_ScanAll.con k _ r hr,h⟩
 cases h
def impl_dataOf.sp : Nat → Option (Spec Ty):=fun r=>bif Nat.beq r 4 then some ⟨[(1,.keep),(4,.box [.keep,.keep,.keep,.keep,.keep,.keep,.keep,.keep]),(6,.box [.keep,.keep,.keep,.keep,.keep,.keep,.keep,.keep]),(7,.keep),(11,.own .t65),(12,.keep),(13,.keep)],[]⟩ else none
def impl_dataOf.en : Option (Spec Ty):=none
def impl_dataOf.s4 (x1 : Int) (x7 : Bool) (x12 : Int) (x13 : Int) (h64_0 : Int) (h64_1 : Int) (h64_2 : Int) (h64_3 : Int) (h64_4 : Int) (h64_5 : Int) (h64_6 : Int) (h64_7 : ByteArray) (h65_0 : Int) (h65_1 : Int) (h65_2 : Int) (h65_3 : Int) (h65_4 : Int) (h65_5 : Int) (h65_6 : Int) (h65_7 : ByteArray) (h66 : List S65) : St Ty D:=⟨(Env.put (Env.put (Env.put (Env.put (Env.put (Env.put (Env.put E (some 1) (.sc (.int .i64 x1))) (some 4) (.pt 64 0 0)) (some 6) (.pt 65 0 0)) (some 7) (.sc (.bool x7))) (some 11) (.sl 66 none)) (some 12) (.sc (.int .i64 x12))) (some 13) (.sc (.int .i64 x13))),Heap.put H0 [(64,some (.box [.sc (.int .i64 h64_0),.sc (.int .i64 h64_1),.sc (.int .i64 h64_2),.sc (.int .i64 h64_3),.sc (.int .i64 h64_4),.sc (.int .i64 h64_5),.sc (.int .i64 h64_6),.sc (.string h64_7)])),(65,some (.box [.sc (.int .i64 h65_0),.sc (.int .i64 h65_1),.sc (.int .i64 h65_2),.sc (.int .i64 h65_3),.sc (.int .i64 h65_4),.sc (.int .i64 h65_5),.sc (.int .i64 h65_6),.sc (.string h65_7)])),(66,some (.rowb .t65 h66 0))],1000⟩
def impl_dataOf.ctx (k : Nat) : Ctx Ty D:=(cons 23 (impl_ScanAll.x k) (fun _ _ _ _=>none))
def impl_dataOf.c4 : Nat → Int → Bool → Int → Int → Int → Int → Int → Int → Int → Int → Int → ByteArray → Int → Int → Int → Int → Int → Int → Int → ByteArray → (List S65) → Option (Int × Int × Int × Int × Int × Int × Int × ByteArray × Bool)
 | 0,_,_,_,_,_,_,_,_,_,_,_,_,_,_,_,_,_,_,_,_,_=>none
 | k + 1,x1,x7,x12,x13,h64_0,h64_1,h64_2,h64_3,h64_4,h64_5,h64_6,h64_7,h65_0,h65_1,h65_2,h65_3,h65_4,h65_5,h65_6,h65_7,h66=>(if x13 < x12 then (if 0 ≤ x13 then (if x13 < (h66.length : Int) then (if ((rd_T65 h66 x13).f2.f0) = 1 then (if ((rd_T65 h66 x13).f2.f2) = x1 then (if x7 = true then (if ((rd_T65 h66 x13).f2.f1) ≥ h65_3 then (impl_dataOf.c4 k x1 true x12 (w64 (x13 + 1)) h64_0 h64_1 h64_2 h64_3 h64_4 h64_5 h64_6 h64_7 ((rd_T65 h66 x13).f0) ((rd_T65 h66 x13).f1) ((rd_T65 h66 x13).f2.f0) ((rd_T65 h66 x13).f2.f1) ((rd_T65 h66 x13).f2.f2) ((rd_T65 h66 x13).f2.f3) ((rd_T65 h66 x13).f2.f4) ((rd_T65 h66 x13).f2.f5) h66) else (impl_dataOf.c4 k x1 x7 x12 (w64 (x13 + 1)) h64_0 h64_1 h64_2 h64_3 h64_4 h64_5 h64_6 h64_7 h65_0 h65_1 h65_2 h65_3 h65_4 h65_5 h65_6 h65_7 h66)) else (impl_dataOf.c4 k x1 true x12 (w64 (x13 + 1)) h64_0 h64_1 h64_2 h64_3 h64_4 h64_5 h64_6 h64_7 ((rd_T65 h66 x13).f0) ((rd_T65 h66 x13).f1) ((rd_T65 h66 x13).f2.f0) ((rd_T65 h66 x13).f2.f1) ((rd_T65 h66 x13).f2.f2) ((rd_T65 h66 x13).f2.f3) ((rd_T65 h66 x13).f2.f4) ((rd_T65 h66 x13).f2.f5) h66)) else (impl_dataOf.c4 k x1 x7 x12 (w64 (x13 + 1)) h64_0 h64_1 h64_2 h64_3 h64_4 h64_5 h64_6 h64_7 h65_0 h65_1 h65_2 h65_3 h65_4 h65_5 h65_6 h65_7 h66)) else (impl_dataOf.c4 k x1 x7 x12 (w64 (x13 + 1)) h64_0 h64_1 h64_2 h64_3 h64_4 h64_5 h64_6 h64_7 h65_0 h65_1 h65_2 h65_3 h65_4 h65_5 h65_6 h65_7 h66)) else none) else none) else (some (h65_0,h65_1,h65_2,h65_3,h65_4,h65_5,h65_6,h65_7,x7)))
def impl_dataOf.f (k : Nat) (a0_0 : List S76) (a1 : Int) : Option (Int × Int × Int × Int × Int × Int × Int × ByteArray × Bool):=((impl_ScanAll.f k a0_0).bind fun t1=>(impl_dataOf.c4 k a1 false (t1.length : Int) 0 0 0 0 0 0 0 0 (⟨#[]⟩ : ByteArray) 0 0 0 0 0 0 0 (⟨#[]⟩ : ByteArray) t1))
def impl_dataOf.e (r : Int × Int × Int × Int × Int × Int × Int × ByteArray × Bool) : Res Ty D:=(.tu [.ag [.sc (.int .i64 r.1),.sc (.int .i64 r.2.1),.sc (.int .i64 r.2.2.1),.sc (.int .i64 r.2.2.2.1),.sc (.int .i64 r.2.2.2.2.1),.sc (.int .i64 r.2.2.2.2.2.1),.sc (.int .i64 r.2.2.2.2.2.2.1),.sc (.string r.2.2.2.2.2.2.2.1)],.sc (.bool r.2.2.2.2.2.2.2.2)],[],[])
abbrev impl_dataOf.g (rec : List Item → St Ty D → R) (k : Nat):=go1 Tryz.f37 (impl_dataOf.ctx k) impl_dataOf.sp 0 impl_dataOf.en rec
theorem impl_dataOf.t4 (rec : List Item → St Ty D → R) (k : Nat) (x1 : Int) (x7 : Bool) (x12 : Int) (x13 : Int) (h64_0 : Int) (h64_1 : Int) (h64_2 : Int) (h64_3 : Int) (h64_4 : Int) (h64_5 : Int) (h64_6 : Int) (h64_7 : ByteArray) (h65_0 : Int) (h65_1 : Int) (h65_2 : Int) (h65_3 : Int) (h65_4 : Int) (h65_5 : Int) (h65_6 : Int) (h65_7 : ByteArray) (h66 : List S65) : impl_dataOf.g rec k (td Tryz.f37 4) (impl_dataOf.s4 x1 x7 x12 x13 h64_0 h64_1 h64_2 h64_3 h64_4 h64_5 h64_6 h64_7 h65_0 h65_1 h65_2 h65_3 h65_4 h65_5 h65_6 h65_7 h66) =
 bif decide (x13 < x12) then bif decide (0 ≤ x13) then bif decide (x13 < (h66.length : Int)) then bif decide (((rd_T65 h66 x13).f2.f0) = 1) then bif decide (((rd_T65 h66 x13).f2.f2) = x1) then bif !x7 then rec (td Tryz.f37 4) (impl_dataOf.s4 x1 true x12 (w64 (x13 + 1)) h64_0 h64_1 h64_2 h64_3 h64_4 h64_5 h64_6 h64_7 ((rd_T65 h66 x13).f0) ((rd_T65 h66 x13).f1) ((rd_T65 h66 x13).f2.f0) ((rd_T65 h66 x13).f2.f1) ((rd_T65 h66 x13).f2.f2) ((rd_T65 h66 x13).f2.f3) ((rd_T65 h66 x13).f2.f4) ((rd_T65 h66 x13).f2.f5) h66) else bif decide (((rd_T65 h66 x13).f2.f1) ≥ h65_3) then rec (td Tryz.f37 4) (impl_dataOf.s4 x1 true x12 (w64 (x13 + 1)) h64_0 h64_1 h64_2 h64_3 h64_4 h64_5 h64_6 h64_7 ((rd_T65 h66 x13).f0) ((rd_T65 h66 x13).f1) ((rd_T65 h66 x13).f2.f0) ((rd_T65 h66 x13).f2.f1) ((rd_T65 h66 x13).f2.f2) ((rd_T65 h66 x13).f2.f3) ((rd_T65 h66 x13).f2.f4) ((rd_T65 h66 x13).f2.f5) h66) else rec (td Tryz.f37 4) (impl_dataOf.s4 x1 x7 x12 (w64 (x13 + 1)) h64_0 h64_1 h64_2 h64_3 h64_4 h64_5 h64_6 h64_7 h65_0 h65_1 h65_2 h65_3 h65_4 h65_5 h65_6 h65_7 h66) else rec (td Tryz.f37 4) (impl_dataOf.s4 x1 x7 x12 (w64 (x13 + 1)) h64_0 h64_1 h64_2 h64_3 h64_4 h64_5 h64_6 h64_7 h65_0 h65_1 h65_2 h65_3 h65_4 h65_5 h65_6 h65_7 h66) else rec (td Tryz.f37 4) (impl_dataOf.s4 x1 x7 x12 (w64 (x13 + 1)) h64_0 h64_1 h64_2 h64_3 h64_4 h64_5 h64_6 h64_7 h65_0 h65_1 h65_2 h65_3 h65_4 h65_5 h65_6 h65_7 h66) else none else none else some (impl_dataOf.e (h65_0,h65_1,h65_2,h65_3,h65_4,h65_5,h65_6,h65_7,x7)):=by kernel_rfl
theorem impl_dataOf.te (rec : List Item → St Ty D → R) (k : Nat) (a0_0 : List S76) (a1 : Int) : impl_dataOf.g rec k [.code (body Tryz.f37)] (startSt [.ag [.row 0 .t76 a0_0],.sc (.int .i64 a1)] []) =
 (impl_ScanAll.f k a0_0).bind fun t1=>rec (td Tryz.f37 4) (impl_dataOf.s4 a1 false (t1.length : Int) 0 0 0 0 0 0 0 0 (⟨#[]⟩ : ByteArray) 0 0 0 0 0 0 0 (⟨#[]⟩ : ByteArray) t1):=by kernel_rfl
theorem impl_dataOf.ok : ∀ k : Nat,(∀ (x1 : Int) (x7 : Bool) (x12 : Int) (x13 : Int) (h64_0 : Int) (h64_1 : Int) (h64_2 : Int) (h64_3 : Int) (h64_4 : Int) (h64_5 : Int) (h64_6 : Int) (h64_7 : ByteArray) (h65_0 : Int) (h65_1 : Int) (h65_2 : Int) (h65_3 : Int) (h65_4 : Int) (h65_5 : Int) (h65_6 : Int) (h65_7 : ByteArray) (h66 : List S65),goF Tryz.f37 impl_dataOf.ctx impl_dataOf.sp 0 impl_dataOf.en k (td Tryz.f37 4) (impl_dataOf.s4 x1 x7 x12 x13 h64_0 h64_1 h64_2 h64_3 h64_4 h64_5 h64_6 h64_7 h65_0 h65_1 h65_2 h65_3 h65_4 h65_5 h65_6 h65_7 h66) = (impl_dataOf.c4 k x1 x7 x12 x13 h64_0 h64_1 h64_2 h64_3 h64_4 h64_5 h64_6 h64_7 h65_0 h65_1 h65_2 h65_3 h65_4 h65_5 h65_6 h65_7 h66).map impl_dataOf.e)
 | 0=>fun _ _ _ _ _ _ _ _ _ _ _ _ _ _ _ _ _ _ _ _ _=>rfl
 | k + 1=>by
  have ih:=impl_dataOf.ok k;have i4:=ih;intro x1 x7 x12 x13 h64_0 h64_1 h64_2 h64_3 h64_4 h64_5 h64_6 h64_7 h65_0 h65_1 h65_2 h65_3 h65_4 h65_5 h65_6 h65_7 h66;rw [impl_dataOf.c4];exact (impl_dataOf.t4 _ k x1 x7 x12 x13 h64_0 h64_1 h64_2 h64_3 h64_4 h64_5 h64_6 h64_7 h65_0 h65_1 h65_2 h65_3 h65_4 h65_5 h65_6 h65_7 h66).trans (cd (cd (cd (cd (cd (nb (i4 _ _ _ _ _ _ _ _ _ _ _ _ _ _ _ _ _ _ _ _ _) (cd (i4 _ _ _ _ _ _ _ _ _ _ _ _ _ _ _ _ _ _ _ _ _) (i4 _ _ _ _ _ _ _ _ _ _ _ _ _ _ _ _ _ _ _ _ _))) (i4 _ _ _ _ _ _ _ _ _ _ _ _ _ _ _ _ _ _ _ _ _)) (i4 _ _ _ _ _ _ _ _ _ _ _ _ _ _ _ _ _ _ _ _ _)) rfl) rfl) rfl)
theorem impl_dataOf.oke (k : Nat) (a0_0 : List S76) (a1 : Int) : goF Tryz.f37 impl_dataOf.ctx impl_dataOf.sp 0 impl_dataOf.en (k + 1) [.code (body Tryz.f37)] (startSt [.ag [.row 0 .t76 a0_0],.sc (.int .i64 a1)] []) = (impl_dataOf.f k a0_0 a1).map impl_dataOf.e:=by
 have i4:=impl_dataOf.ok k;rw [impl_dataOf.f];exact (impl_dataOf.te _ k a0_0 a1).trans (bn (fun t1=>(i4 _ _ _ _ _ _ _ _ _ _ _ _ _ _ _ _ _ _ _ _ _)))
theorem impl_dataOf.con (k : Nat) (a0_0 : List S76) (a1 : Int) (r) (h : impl_dataOf.f k a0_0 a1 = some r) : Contract Tryz.prog kit 37 [.ag [.row 0 .t76 a0_0],.sc (.int .i64 a1)] [] (impl_dataOf.e r).1 (impl_dataOf.e r).2.1 (impl_dataOf.e r).2.2 :=
 con_okG kitOk mix (fun k=>(CtxOk.cons (impl_ScanAll.xok k) CtxOk.nil)) (impl_dataOf.oke k a0_0 a1) h (by kernel_rfl) (by kernel_rfl) (by kernel_rfl) rfl (by kernel_rfl) rfl rfl
def impl_dataOf.x (k : Nat) : X:=fun ins bs κ=>match ins,bs with
 | [.ag [.row 0 .t76 a0_0],.sc (.int .i64 a1)],[]=>(impl_dataOf.f k a0_0 a1).bind fun r=>κ (impl_dataOf.e r).1 (impl_dataOf.e r).2.1 (impl_dataOf.e r).2.2
 | _,_=>none
theorem impl_dataOf.xok (k : Nat) : XOk 37 (impl_dataOf.x k):=by
 intro ins bs κ res h;unfold impl_dataOf.x at h
 split at h
 ·obtain ⟨r,hr,h⟩:=Option.bind_eq_some_iff.1 h;exact ⟨_,_,_,impl_dataOf.con k _ _ r hr,h⟩
 cases h
def impl_spots.sp : Nat → Option (Spec Ty):=fun r=>bif Nat.beq r 3 then some ⟨[(2,.keep),(3,.box [.keep]),(7,.own .t65),(13,.own .t3),(14,.keep),(15,.keep)],[]⟩ else none
def impl_spots.en : Option (Spec Ty):=some ⟨[(6,.own .t65)],[]⟩
def impl_spots.s3 (x2 : Int) (x14 : Int) (x15 : Int) (h64_0 : List S76) (h65 : List S65) (h66 : List Int) : St Ty D:=⟨(Env.put (Env.put (Env.put (Env.put (Env.put (Env.put E (some 2) (.sc (.int .i64 x2))) (some 3) (.pt 64 0 0)) (some 7) (.sl 65 none)) (some 13) (.sl 66 none)) (some 14) (.sc (.int .i64 x14))) (some 15) (.sc (.int .i64 x15))),Heap.put H0 [(64,some (.box [.row 0 .t76 h64_0])),(65,some (.rowb .t65 h65 0)),(66,some (.rowb .t3 h66 0))],1000⟩
def impl_spots.ctx (k : Nat) : Ctx Ty D:=(cons 36 (impl_LiveOf.x k) (cons 37 (impl_dataOf.x k) (fun _ _ _ _=>none)))
def impl_spots.c3 : Nat → Int → Int → Int → (List S76) → (List S65) → (List Int) → Option ((List S65))
 | 0,_,_,_,_,_,_=>none
 | k + 1,x2,x14,x15,h64_0,h65,h66=>(if x15 < x14 then (if 0 ≤ x15 then (if x15 < (h66.length : Int) then ((impl_dataOf.f k h64_0 (rd_T3 h66 x15)).bind fun t2=>(if t2.2.2.2.2.2.2.2.2 = true then (if t2.1 = x2 then (if h65.length + ([(S65.mk t2.1 t2.2.1 (S63.mk t2.2.2.1 t2.2.2.2.1 t2.2.2.2.2.1 t2.2.2.2.2.2.1 t2.2.2.2.2.2.2.1 t2.2.2.2.2.2.2.2.1))] : List S65).length ≤ 1954687338268 then (impl_spots.c3 k x2 x14 (w64 (x15 + 1)) h64_0 (h65 ++ ([(S65.mk t2.1 t2.2.1 (S63.mk t2.2.2.1 t2.2.2.2.1 t2.2.2.2.2.1 t2.2.2.2.2.2.1 t2.2.2.2.2.2.2.1 t2.2.2.2.2.2.2.2.1))] : List S65)) h66) else none) else (impl_spots.c3 k x2 x14 (w64 (x15 + 1)) h64_0 h65 h66)) else (impl_spots.c3 k x2 x14 (w64 (x15 + 1)) h64_0 h65 h66))) else none) else none) else (some (h65)))
def impl_spots.f (k : Nat) (a0_0 : List S76) (a1_0 : List S83) (a1_1 : List S111) (a1_2 : Int) (a2 : Int) : Option ((List S65)):=((impl_LiveOf.f k a1_0 a1_1 a1_2).bind fun t1=>(impl_spots.c3 k a2 (t1.length : Int) 0 a0_0 ([] : List S65) t1))
def impl_spots.e (r : (List S65)) : Res Ty D:=(.sl 0 none,[],[.rowb .t65 r 0])
abbrev impl_spots.g (rec : List Item → St Ty D → R) (k : Nat):=go1 Tryz.f22 (impl_spots.ctx k) impl_spots.sp 0 impl_spots.en rec
theorem impl_spots.t3 (rec : List Item → St Ty D → R) (k : Nat) (x2 : Int) (x14 : Int) (x15 : Int) (h64_0 : List S76) (h65 : List S65) (h66 : List Int) : impl_spots.g rec k (td Tryz.f22 3) (impl_spots.s3 x2 x14 x15 h64_0 h65 h66) =
 bif decide (x15 < x14) then bif decide (0 ≤ x15) then bif decide (x15 < (h66.length : Int)) then (impl_dataOf.f k h64_0 (rd_T3 h66 x15)).bind fun t2=>bif t2.2.2.2.2.2.2.2.2 then bif decide (t2.1 = x2) then bif decide (h65.length + ([(S65.mk t2.1 t2.2.1 (S63.mk t2.2.2.1 t2.2.2.2.1 t2.2.2.2.2.1 t2.2.2.2.2.2.1 t2.2.2.2.2.2.2.1 t2.2.2.2.2.2.2.2.1))] : List S65).length ≤ 1954687338268) then rec (td Tryz.f22 3) (impl_spots.s3 x2 x14 (w64 (x15 + 1)) h64_0 (h65 ++ ([(S65.mk t2.1 t2.2.1 (S63.mk t2.2.2.1 t2.2.2.2.1 t2.2.2.2.2.1 t2.2.2.2.2.2.1 t2.2.2.2.2.2.2.1 t2.2.2.2.2.2.2.2.1))] : List S65)) h66) else none else rec (td Tryz.f22 3) (impl_spots.s3 x2 x14 (w64 (x15 + 1)) h64_0 h65 h66) else rec (td Tryz.f22 3) (impl_spots.s3 x2 x14 (w64 (x15 + 1)) h64_0 h65 h66) else none else none else some (impl_spots.e (h65)):=by kernel_rfl
theorem impl_spots.te (rec : List Item → St Ty D → R) (k : Nat) (a0_0 : List S76) (a1_0 : List S83) (a1_1 : List S111) (a1_2 : Int) (a2 : Int) : impl_spots.g rec k [.code (body Tryz.f22)] (startSt [.ag [.row 0 .t76 a0_0],.ag [.row 0 .t83 a1_0,.row 0 .t111 a1_1,.sc (.int .i64 a1_2)],.sc (.int .i64 a2)] []) =
 (impl_LiveOf.f k a1_0 a1_1 a1_2).bind fun t1=>rec (td Tryz.f22 3) (impl_spots.s3 a2 (t1.length : Int) 0 a0_0 ([] : List S65) t1):=by kernel_rfl
theorem impl_spots.ok : ∀ k : Nat,(∀ (x2 : Int) (x14 : Int) (x15 : Int) (h64_0 : List S76) (h65 : List S65) (h66 : List Int),goF Tryz.f22 impl_spots.ctx impl_spots.sp 0 impl_spots.en k (td Tryz.f22 3) (impl_spots.s3 x2 x14 x15 h64_0 h65 h66) = (impl_spots.c3 k x2 x14 x15 h64_0 h65 h66).map impl_spots.e)
 | 0=>fun _ _ _ _ _ _=>rfl
 | k + 1=>by
  have ih:=impl_spots.ok k;have i3:=ih;intro x2 x14 x15 h64_0 h65 h66;rw [impl_spots.c3];exact (impl_spots.t3 _ k x2 x14 x15 h64_0 h65 h66).trans (cd (cd (cd (bn (fun t2=>(cb (cd (cd (i3 _ _ _ _ _ _) rfl) (i3 _ _ _ _ _ _)) (i3 _ _ _ _ _ _)))) rfl) rfl) rfl)
theorem impl_spots.oke (k : Nat) (a0_0 : List S76) (a1_0 : List S83) (a1_1 : List S111) (a1_2 : Int) (a2 : Int) : goF Tryz.f22 impl_spots.ctx impl_spots.sp 0 impl_spots.en (k + 1) [.code (body Tryz.f22)] (startSt [.ag [.row 0 .t76 a0_0],.ag [.row 0 .t83 a1_0,.row 0 .t111 a1_1,.sc (.int .i64 a1_2)],.sc (.int .i64 a2)] []) = (impl_spots.f k a0_0 a1_0 a1_1 a1_2 a2).map impl_spots.e:=by
 have i3:=impl_spots.ok k;rw [impl_spots.f];exact (impl_spots.te _ k a0_0 a1_0 a1_1 a1_2 a2).trans (bn (fun t1=>(i3 _ _ _ _ _ _)))
theorem impl_spots.con (k : Nat) (a0_0 : List S76) (a1_0 : List S83) (a1_1 : List S111) (a1_2 : Int) (a2 : Int) (r) (h : impl_spots.f k a0_0 a1_0 a1_1 a1_2 a2 = some r) : Contract Tryz.prog kit 22 [.ag [.row 0 .t76 a0_0],.ag [.row 0 .t83 a1_0,.row 0 .t111 a1_1,.sc (.int .i64 a1_2)],.sc (.int .i64 a2)] [] (impl_spots.e r).1 (impl_spots.e r).2.1 (impl_spots.e r).2.2 :=
 con_okG kitOk mix (fun k=>(CtxOk.cons (impl_LiveOf.xok k) (CtxOk.cons (impl_dataOf.xok k) CtxOk.nil))) (impl_spots.oke k a0_0 a1_0 a1_1 a1_2 a2) h (by kernel_rfl) (by kernel_rfl) (by kernel_rfl) rfl (by kernel_rfl) rfl rfl
def impl_spots.x (k : Nat) : X:=fun ins bs κ=>match ins,bs with
 | [.ag [.row 0 .t76 a0_0],.ag [.row 0 .t83 a1_0,.row 0 .t111 a1_1,.sc (.int .i64 a1_2)],.sc (.int .i64 a2)],[]=>(impl_spots.f k a0_0 a1_0 a1_1 a1_2 a2).bind fun r=>κ (impl_spots.e r).1 (impl_spots.e r).2.1 (impl_spots.e r).2.2
 | _,_=>none
theorem impl_spots.xok (k : Nat) : XOk 22 (impl_spots.x k):=by
 intro ins bs κ res h;unfold impl_spots.x at h
 split at h
 ·obtain ⟨r,hr,h⟩:=Option.bind_eq_some_iff.1 h;exact ⟨_,_,_,impl_spots.con k _ _ _ _ _ r hr,h⟩
 cases h
def impl_NeededOn.sp : Nat → Option (Spec Ty):=fun r=>bif Nat.beq r 3 then some ⟨[(2,.keep),(3,.keep),(9,.keep),(18,.own .t65),(19,.keep),(20,.keep)],[]⟩ else none
def impl_NeededOn.en : Option (Spec Ty):=none
def impl_NeededOn.s3 (x2 : Int) (x3 : Int) (x9 : Int) (x19 : Int) (x20 : Int) (h64 : List S65) : St Ty D:=⟨(Env.put (Env.put (Env.put (Env.put (Env.put (Env.put E (some 2) (.sc (.int .i64 x2))) (some 3) (.sc (.int .i64 x3))) (some 9) (.sc (.int .i64 x9))) (some 18) (.sl 64 none)) (some 19) (.sc (.int .i64 x19))) (some 20) (.sc (.int .i64 x20))),Heap.put H0 [(64,some (.rowb .t65 h64 0))],1000⟩
def impl_NeededOn.ctx (k : Nat) : Ctx Ty D:=(cons 22 (impl_spots.x k) (cons 23 (impl_ScanAll.x k) (fun _ _ _ _=>none)))
def impl_NeededOn.c3 : Nat → Int → Int → Int → Int → Int → (List S65) → Option (Int)
 | 0,_,_,_,_,_,_=>none
 | k + 1,x2,x3,x9,x19,x20,h64=>(if x20 < x19 then (if 0 ≤ x20 then (if x20 < (h64.length : Int) then (if ((rd_T65 h64 x20).f0) = x3 then (if ((rd_T65 h64 x20).f2.f0) = 2 then (if ((rd_T65 h64 x20).f2.f2) ≥ x2 then (impl_NeededOn.c3 k x2 x3 (w64 (x9 + 1)) x19 (w64 (x20 + 1)) h64) else (impl_NeededOn.c3 k x2 x3 x9 x19 (w64 (x20 + 1)) h64)) else (impl_NeededOn.c3 k x2 x3 x9 x19 (w64 (x20 + 1)) h64)) else (impl_NeededOn.c3 k x2 x3 x9 x19 (w64 (x20 + 1)) h64)) else none) else none) else (some (x9)))
def impl_NeededOn.f (k : Nat) (a0_0 : List S76) (a1_0 : List S83) (a1_1 : List S111) (a1_2 : Int) (a2 : Int) (a3 : Int) : Option (Int):=((impl_spots.f k a0_0 a1_0 a1_1 a1_2 a3).bind fun t1=>((impl_ScanAll.f k a0_0).bind fun t2=>(impl_NeededOn.c3 k a2 a3 (t1.length : Int) (t2.length : Int) 0 t2)))
def impl_NeededOn.e (r : Int) : Res Ty D:=(.sc (.int .i64 r),[],[])
abbrev impl_NeededOn.g (rec : List Item → St Ty D → R) (k : Nat):=go1 Tryz.f9 (impl_NeededOn.ctx k) impl_NeededOn.sp 0 impl_NeededOn.en rec
theorem impl_NeededOn.t3 (rec : List Item → St Ty D → R) (k : Nat) (x2 : Int) (x3 : Int) (x9 : Int) (x19 : Int) (x20 : Int) (h64 : List S65) : impl_NeededOn.g rec k (td Tryz.f9 3) (impl_NeededOn.s3 x2 x3 x9 x19 x20 h64) =
 bif decide (x20 < x19) then bif decide (0 ≤ x20) then bif decide (x20 < (h64.length : Int)) then bif decide (((rd_T65 h64 x20).f0) = x3) then bif decide (((rd_T65 h64 x20).f2.f0) = 2) then bif decide (((rd_T65 h64 x20).f2.f2) ≥ x2) then rec (td Tryz.f9 3) (impl_NeededOn.s3 x2 x3 (w64 (x9 + 1)) x19 (w64 (x20 + 1)) h64) else rec (td Tryz.f9 3) (impl_NeededOn.s3 x2 x3 x9 x19 (w64 (x20 + 1)) h64) else rec (td Tryz.f9 3) (impl_NeededOn.s3 x2 x3 x9 x19 (w64 (x20 + 1)) h64) else rec (td Tryz.f9 3) (impl_NeededOn.s3 x2 x3 x9 x19 (w64 (x20 + 1)) h64) else none else none else some (impl_NeededOn.e (x9)):=by kernel_rfl
theorem impl_NeededOn.te (rec : List Item → St Ty D → R) (k : Nat) (a0_0 : List S76) (a1_0 : List S83) (a1_1 : List S111) (a1_2 : Int) (a2 : Int) (a3 : Int) : impl_NeededOn.g rec k [.code (body Tryz.f9)] (startSt [.ag [.row 0 .t76 a0_0],.ag [.row 0 .t83 a1_0,.row 0 .t111 a1_1,.sc (.int .i64 a1_2)],.sc (.int .i64 a2),.sc (.int .i64 a3)] []) =
 (impl_spots.f k a0_0 a1_0 a1_1 a1_2 a3).bind fun t1=>(impl_ScanAll.f k a0_0).bind fun t2=>rec (td Tryz.f9 3) (impl_NeededOn.s3 a2 a3 (t1.length : Int) (t2.length : Int) 0 t2):=by kernel_rfl
theorem impl_NeededOn.ok : ∀ k : Nat,(∀ (x2 : Int) (x3 : Int) (x9 : Int) (x19 : Int) (x20 : Int) (h64 : List S65),goF Tryz.f9 impl_NeededOn.ctx impl_NeededOn.sp 0 impl_NeededOn.en k (td Tryz.f9 3) (impl_NeededOn.s3 x2 x3 x9 x19 x20 h64) = (impl_NeededOn.c3 k x2 x3 x9 x19 x20 h64).map impl_NeededOn.e)
 | 0=>fun _ _ _ _ _ _=>rfl
 | k + 1=>by
  have ih:=impl_NeededOn.ok k;have i3:=ih;intro x2 x3 x9 x19 x20 h64;rw [impl_NeededOn.c3];exact (impl_NeededOn.t3 _ k x2 x3 x9 x19 x20 h64).trans (cd (cd (cd (cd (cd (cd (i3 _ _ _ _ _ _) (i3 _ _ _ _ _ _)) (i3 _ _ _ _ _ _)) (i3 _ _ _ _ _ _)) rfl) rfl) rfl)
theorem impl_NeededOn.oke (k : Nat) (a0_0 : List S76) (a1_0 : List S83) (a1_1 : List S111) (a1_2 : Int) (a2 : Int) (a3 : Int) : goF Tryz.f9 impl_NeededOn.ctx impl_NeededOn.sp 0 impl_NeededOn.en (k + 1) [.code (body Tryz.f9)] (startSt [.ag [.row 0 .t76 a0_0],.ag [.row 0 .t83 a1_0,.row 0 .t111 a1_1,.sc (.int .i64 a1_2)],.sc (.int .i64 a2),.sc (.int .i64 a3)] []) = (impl_NeededOn.f k a0_0 a1_0 a1_1 a1_2 a2 a3).map impl_NeededOn.e:=by
 have i3:=impl_NeededOn.ok k;rw [impl_NeededOn.f];exact (impl_NeededOn.te _ k a0_0 a1_0 a1_1 a1_2 a2 a3).trans (bn (fun t1=>(bn (fun t2=>(i3 _ _ _ _ _ _)))))
theorem impl_NeededOn.con (k : Nat) (a0_0 : List S76) (a1_0 : List S83) (a1_1 : List S111) (a1_2 : Int) (a2 : Int) (a3 : Int) (r) (h : impl_NeededOn.f k a0_0 a1_0 a1_1 a1_2 a2 a3 = some r) : Contract Tryz.prog kit 9 [.ag [.row 0 .t76 a0_0],.ag [.row 0 .t83 a1_0,.row 0 .t111 a1_1,.sc (.int .i64 a1_2)],.sc (.int .i64 a2),.sc (.int .i64 a3)] [] (impl_NeededOn.e r).1 (impl_NeededOn.e r).2.1 (impl_NeededOn.e r).2.2 :=
 con_okG kitOk mix (fun k=>(CtxOk.cons (impl_spots.xok k) (CtxOk.cons (impl_ScanAll.xok k) CtxOk.nil))) (impl_NeededOn.oke k a0_0 a1_0 a1_1 a1_2 a2 a3) h (by kernel_rfl) (by kernel_rfl) (by kernel_rfl) rfl (by kernel_rfl) rfl rfl
def impl_NeededOn.x (k : Nat) : X:=fun ins bs κ=>match ins,bs with
 | [.ag [.row 0 .t76 a0_0],.ag [.row 0 .t83 a1_0,.row 0 .t111 a1_1,.sc (.int .i64 a1_2)],.sc (.int .i64 a2),.sc (.int .i64 a3)],[]=>(impl_NeededOn.f k a0_0 a1_0 a1_1 a1_2 a2 a3).bind fun r=>κ (impl_NeededOn.e r).1 (impl_NeededOn.e r).2.1 (impl_NeededOn.e r).2.2
 | _,_=>none
theorem impl_NeededOn.xok (k : Nat) : XOk 9 (impl_NeededOn.x k):=by
 intro ins bs κ res h;unfold impl_NeededOn.x at h
 split at h
 ·obtain ⟨r,hr,h⟩:=Option.bind_eq_some_iff.1 h;exact ⟨_,_,_,impl_NeededOn.con k _ _ _ _ _ _ r hr,h⟩
 cases h
end
end Go.Proofs.YtibhkbljjnlpjaaGreat.M2

namespace Go.Proofs.YtibhkbljjnlpjaaGreat.M2
open Go Go.Proofs.YtibhkbljjnlpjaaGreat.PK
set_option linter.unusedVariables false
set_option linter.unusedSimpArgs false
set_option maxHeartbeats 4000000
set_option maxRecDepth 100000
noncomputable section
def laws_eqLeaf.sp : Nat → Option (Spec Ty):=fun r=>none
def laws_eqLeaf.en : Option (Spec Ty):=none
def laws_eqLeaf.ctx (k : Nat) : Ctx Ty D:=(fun _ _ _ _=>none)
def laws_eqLeaf.f (k : Nat) (a0_0 : Int) (a0_1 : ByteArray) (a1_0 : Int) (a1_1 : ByteArray) : Option (Bool):=(if a0_0 = a1_0 then (if (seq a0_1 a1_1) = true then (some (true)) else (some (false))) else (some (false)))
def laws_eqLeaf.e (r : Bool) : Res Ty D:=(.sc (.bool r),[],[])
abbrev laws_eqLeaf.g (rec : List Item → St Ty D → R) (k : Nat):=go1 Tryz.f93 (laws_eqLeaf.ctx k) laws_eqLeaf.sp 0 laws_eqLeaf.en rec
theorem laws_eqLeaf.te (rec : List Item → St Ty D → R) (k : Nat) (a0_0 : Int) (a0_1 : ByteArray) (a1_0 : Int) (a1_1 : ByteArray) : laws_eqLeaf.g rec k [.code (body Tryz.f93)] (startSt [.ag [.sc (.int .i64 a0_0),.sc (.string a0_1)],.ag [.sc (.int .i64 a1_0),.sc (.string a1_1)]] []) =
 bif !decide (a0_0 = a1_0) then some (laws_eqLeaf.e (false)) else bif !(seq a0_1 a1_1) then some (laws_eqLeaf.e (false)) else some (laws_eqLeaf.e (true)):=by kernel_rfl
theorem laws_eqLeaf.oke (k : Nat) (a0_0 : Int) (a0_1 : ByteArray) (a1_0 : Int) (a1_1 : ByteArray) : goF Tryz.f93 laws_eqLeaf.ctx laws_eqLeaf.sp 0 laws_eqLeaf.en (k + 1) [.code (body Tryz.f93)] (startSt [.ag [.sc (.int .i64 a0_0),.sc (.string a0_1)],.ag [.sc (.int .i64 a1_0),.sc (.string a1_1)]] []) = (laws_eqLeaf.f k a0_0 a0_1 a1_0 a1_1).map laws_eqLeaf.e:=by
 rw [laws_eqLeaf.f];exact (laws_eqLeaf.te _ k a0_0 a0_1 a1_0 a1_1).trans (nd rfl (nb rfl rfl))
theorem laws_eqLeaf.con (k : Nat) (a0_0 : Int) (a0_1 : ByteArray) (a1_0 : Int) (a1_1 : ByteArray) (r) (h : laws_eqLeaf.f k a0_0 a0_1 a1_0 a1_1 = some r) : Contract Tryz.prog kit 93 [.ag [.sc (.int .i64 a0_0),.sc (.string a0_1)],.ag [.sc (.int .i64 a1_0),.sc (.string a1_1)]] [] (laws_eqLeaf.e r).1 (laws_eqLeaf.e r).2.1 (laws_eqLeaf.e r).2.2 :=
 con_okG kitOk mix (fun k=>CtxOk.nil) (laws_eqLeaf.oke k a0_0 a0_1 a1_0 a1_1) h (by kernel_rfl) (by kernel_rfl) (by kernel_rfl) rfl (by kernel_rfl) rfl rfl
def laws_eqLeaf.x (k : Nat) : X:=fun ins bs κ=>match ins,bs with
 | [.ag [.sc (.int .i64 a0_0),.sc (.string a0_1)],.ag [.sc (.int .i64 a1_0),.sc (.string a1_1)]],[]=>(laws_eqLeaf.f k a0_0 a0_1 a1_0 a1_1).bind fun r=>κ (laws_eqLeaf.e r).1 (laws_eqLeaf.e r).2.1 (laws_eqLeaf.e r).2.2
 | _,_=>none
theorem laws_eqLeaf.xok (k : Nat) : XOk 93 (laws_eqLeaf.x k):=by
 intro ins bs κ res h;unfold laws_eqLeaf.x at h
 split at h
 ·obtain ⟨r,hr,h⟩:=Option.bind_eq_some_iff.1 h;exact ⟨_,_,_,laws_eqLeaf.con k _ _ _ _ r hr,h⟩
 cases h
def laws_eqLeafS.sp : Nat → Option (Spec Ty):=fun r=>bif Nat.beq r 4 then some ⟨[(0,.keep),(1,.keep),(5,.keep)],[]⟩ else none
def laws_eqLeafS.en : Option (Spec Ty):=none
def laws_eqLeafS.s4 (x0 : List S92) (x1 : List S92) (x5 : Int) : St Ty D:=⟨(Env.put (Env.put (Env.put E (some 0) (.row 0 .t92 x0)) (some 1) (.row 0 .t92 x1)) (some 5) (.sc (.int .i64 x5))),H0,1000⟩
def laws_eqLeafS.ctx (k : Nat) : Ctx Ty D:=(cons 93 (laws_eqLeaf.x k) (fun _ _ _ _=>none))
def laws_eqLeafS.c4 : Nat → (List S92) → (List S92) → Int → Option (Bool)
 | 0,_,_,_=>none
 | k + 1,x0,x1,x5=>(if x5 < (x0.length : Int) then (if 0 ≤ x5 then (if x5 < (x0.length : Int) then (if 0 ≤ x5 then (if x5 < (x1.length : Int) then ((laws_eqLeaf.f k ((rd_T92 x0 x5).f0) ((rd_T92 x0 x5).f1) ((rd_T92 x1 x5).f0) ((rd_T92 x1 x5).f1)).bind fun t1=>(if t1 = true then (laws_eqLeafS.c4 k x0 x1 (w64 (x5 + 1))) else (some (false)))) else none) else none) else none) else none) else (some (true)))
def laws_eqLeafS.f (k : Nat) (a0 : List S92) (a1 : List S92) : Option (Bool):=(if (a0.length : Int) = (a1.length : Int) then (laws_eqLeafS.c4 k a0 a1 0) else (some (false)))
def laws_eqLeafS.e (r : Bool) : Res Ty D:=(.sc (.bool r),[],[])
abbrev laws_eqLeafS.g (rec : List Item → St Ty D → R) (k : Nat):=go1 Tryz.f62 (laws_eqLeafS.ctx k) laws_eqLeafS.sp 0 laws_eqLeafS.en rec
theorem laws_eqLeafS.t4 (rec : List Item → St Ty D → R) (k : Nat) (x0 : List S92) (x1 : List S92) (x5 : Int) : laws_eqLeafS.g rec k (td Tryz.f62 4) (laws_eqLeafS.s4 x0 x1 x5) =
 bif decide (x5 < (x0.length : Int)) then bif decide (0 ≤ x5) then bif decide (x5 < (x0.length : Int)) then bif decide (0 ≤ x5) then bif decide (x5 < (x1.length : Int)) then (laws_eqLeaf.f k ((rd_T92 x0 x5).f0) ((rd_T92 x0 x5).f1) ((rd_T92 x1 x5).f0) ((rd_T92 x1 x5).f1)).bind fun t1=>bif !t1 then some (laws_eqLeafS.e (false)) else rec (td Tryz.f62 4) (laws_eqLeafS.s4 x0 x1 (w64 (x5 + 1))) else none else none else none else none else some (laws_eqLeafS.e (true)):=by kernel_rfl
theorem laws_eqLeafS.te (rec : List Item → St Ty D → R) (k : Nat) (a0 : List S92) (a1 : List S92) : laws_eqLeafS.g rec k [.code (body Tryz.f62)] (startSt [.row 0 .t92 a0,.row 0 .t92 a1] []) =
 bif !decide ((a0.length : Int) = (a1.length : Int)) then some (laws_eqLeafS.e (false)) else rec (td Tryz.f62 4) (laws_eqLeafS.s4 a0 a1 0):=by kernel_rfl
theorem laws_eqLeafS.ok : ∀ k : Nat,(∀ (x0 : List S92) (x1 : List S92) (x5 : Int),goF Tryz.f62 laws_eqLeafS.ctx laws_eqLeafS.sp 0 laws_eqLeafS.en k (td Tryz.f62 4) (laws_eqLeafS.s4 x0 x1 x5) = (laws_eqLeafS.c4 k x0 x1 x5).map laws_eqLeafS.e)
 | 0=>fun _ _ _=>rfl
 | k + 1=>by
  have ih:=laws_eqLeafS.ok k;have i4:=ih;intro x0 x1 x5;rw [laws_eqLeafS.c4];exact (laws_eqLeafS.t4 _ k x0 x1 x5).trans (cd (cd (cd (cd (cd (bn (fun t1=>(nb rfl (i4 _ _ _)))) rfl) rfl) rfl) rfl) rfl)
theorem laws_eqLeafS.oke (k : Nat) (a0 : List S92) (a1 : List S92) : goF Tryz.f62 laws_eqLeafS.ctx laws_eqLeafS.sp 0 laws_eqLeafS.en (k + 1) [.code (body Tryz.f62)] (startSt [.row 0 .t92 a0,.row 0 .t92 a1] []) = (laws_eqLeafS.f k a0 a1).map laws_eqLeafS.e:=by
 have i4:=laws_eqLeafS.ok k;rw [laws_eqLeafS.f];exact (laws_eqLeafS.te _ k a0 a1).trans (nd rfl (i4 _ _ _))
theorem laws_eqLeafS.con (k : Nat) (a0 : List S92) (a1 : List S92) (r) (h : laws_eqLeafS.f k a0 a1 = some r) : Contract Tryz.prog kit 62 [.row 0 .t92 a0,.row 0 .t92 a1] [] (laws_eqLeafS.e r).1 (laws_eqLeafS.e r).2.1 (laws_eqLeafS.e r).2.2 :=
 con_okG kitOk mix (fun k=>(CtxOk.cons (laws_eqLeaf.xok k) CtxOk.nil)) (laws_eqLeafS.oke k a0 a1) h (by kernel_rfl) (by kernel_rfl) (by kernel_rfl) rfl (by kernel_rfl) rfl rfl
def laws_eqLeafS.x (k : Nat) : X:=fun ins bs κ=>match ins,bs with
 | [.row 0 .t92 a0,.row 0 .t92 a1],[]=>(laws_eqLeafS.f k a0 a1).bind fun r=>κ (laws_eqLeafS.e r).1 (laws_eqLeafS.e r).2.1 (laws_eqLeafS.e r).2.2
 | _,_=>none
theorem laws_eqLeafS.xok (k : Nat) : XOk 62 (laws_eqLeafS.x k):=by
 intro ins bs κ res h;unfold laws_eqLeafS.x at h
 split at h
 ·obtain ⟨r,hr,h⟩:=Option.bind_eq_some_iff.1 h;exact ⟨_,_,_,laws_eqLeafS.con k _ _ r hr,h⟩
 cases h
def laws_eqBlock.sp : Nat → Option (Spec Ty):=fun r=>none
def laws_eqBlock.en : Option (Spec Ty):=none
def laws_eqBlock.ctx (k : Nat) : Ctx Ty D:=(cons 62 (laws_eqLeafS.x k) (fun _ _ _ _=>none))
def laws_eqBlock.f (k : Nat) (a0_0 : Bool) (a0_1 : Int) (a0_2 : List S92) (a1_0 : Bool) (a1_1 : Int) (a1_2 : List S92) : Option (Bool):=(if (a0_0 == a1_0) = true then (if a0_1 = a1_1 then ((laws_eqLeafS.f k a0_2 a1_2).bind fun t1=>(if t1 = true then (some (true)) else (some (false)))) else (some (false))) else (some (false)))
def laws_eqBlock.e (r : Bool) : Res Ty D:=(.sc (.bool r),[],[])
abbrev laws_eqBlock.g (rec : List Item → St Ty D → R) (k : Nat):=go1 Tryz.f41 (laws_eqBlock.ctx k) laws_eqBlock.sp 0 laws_eqBlock.en rec
theorem laws_eqBlock.te (rec : List Item → St Ty D → R) (k : Nat) (a0_0 : Bool) (a0_1 : Int) (a0_2 : List S92) (a1_0 : Bool) (a1_1 : Int) (a1_2 : List S92) : laws_eqBlock.g rec k [.code (body Tryz.f41)] (startSt [.ag [.sc (.bool a0_0),.sc (.int .i64 a0_1),.row 0 .t92 a0_2],.ag [.sc (.bool a1_0),.sc (.int .i64 a1_1),.row 0 .t92 a1_2]] []) =
 bif !(a0_0 == a1_0) then some (laws_eqBlock.e (false)) else bif !decide (a0_1 = a1_1) then some (laws_eqBlock.e (false)) else (laws_eqLeafS.f k a0_2 a1_2).bind fun t1=>bif !t1 then some (laws_eqBlock.e (false)) else some (laws_eqBlock.e (true)):=by kernel_rfl
theorem laws_eqBlock.oke (k : Nat) (a0_0 : Bool) (a0_1 : Int) (a0_2 : List S92) (a1_0 : Bool) (a1_1 : Int) (a1_2 : List S92) : goF Tryz.f41 laws_eqBlock.ctx laws_eqBlock.sp 0 laws_eqBlock.en (k + 1) [.code (body Tryz.f41)] (startSt [.ag [.sc (.bool a0_0),.sc (.int .i64 a0_1),.row 0 .t92 a0_2],.ag [.sc (.bool a1_0),.sc (.int .i64 a1_1),.row 0 .t92 a1_2]] []) = (laws_eqBlock.f k a0_0 a0_1 a0_2 a1_0 a1_1 a1_2).map laws_eqBlock.e:=by
 rw [laws_eqBlock.f];exact (laws_eqBlock.te _ k a0_0 a0_1 a0_2 a1_0 a1_1 a1_2).trans (nb rfl (nd rfl (bn (fun t1=>(nb rfl rfl)))))
theorem laws_eqBlock.con (k : Nat) (a0_0 : Bool) (a0_1 : Int) (a0_2 : List S92) (a1_0 : Bool) (a1_1 : Int) (a1_2 : List S92) (r) (h : laws_eqBlock.f k a0_0 a0_1 a0_2 a1_0 a1_1 a1_2 = some r) : Contract Tryz.prog kit 41 [.ag [.sc (.bool a0_0),.sc (.int .i64 a0_1),.row 0 .t92 a0_2],.ag [.sc (.bool a1_0),.sc (.int .i64 a1_1),.row 0 .t92 a1_2]] [] (laws_eqBlock.e r).1 (laws_eqBlock.e r).2.1 (laws_eqBlock.e r).2.2 :=
 con_okG kitOk mix (fun k=>(CtxOk.cons (laws_eqLeafS.xok k) CtxOk.nil)) (laws_eqBlock.oke k a0_0 a0_1 a0_2 a1_0 a1_1 a1_2) h (by kernel_rfl) (by kernel_rfl) (by kernel_rfl) rfl (by kernel_rfl) rfl rfl
def laws_eqBlock.x (k : Nat) : X:=fun ins bs κ=>match ins,bs with
 | [.ag [.sc (.bool a0_0),.sc (.int .i64 a0_1),.row 0 .t92 a0_2],.ag [.sc (.bool a1_0),.sc (.int .i64 a1_1),.row 0 .t92 a1_2]],[]=>(laws_eqBlock.f k a0_0 a0_1 a0_2 a1_0 a1_1 a1_2).bind fun r=>κ (laws_eqBlock.e r).1 (laws_eqBlock.e r).2.1 (laws_eqBlock.e r).2.2
 | _,_=>none
theorem laws_eqBlock.xok (k : Nat) : XOk 41 (laws_eqBlock.x k):=by
 intro ins bs κ res h;unfold laws_eqBlock.x at h
 split at h
 ·obtain ⟨r,hr,h⟩:=Option.bind_eq_some_iff.1 h;exact ⟨_,_,_,laws_eqBlock.con k _ _ _ _ _ _ r hr,h⟩
 cases h
def laws_eqBlockS.sp : Nat → Option (Spec Ty):=fun r=>bif Nat.beq r 4 then some ⟨[(0,.keep),(1,.keep),(5,.keep)],[]⟩ else none
def laws_eqBlockS.en : Option (Spec Ty):=none
def laws_eqBlockS.s4 (x0 : List S76) (x1 : List S76) (x5 : Int) : St Ty D:=⟨(Env.put (Env.put (Env.put E (some 0) (.row 0 .t76 x0)) (some 1) (.row 0 .t76 x1)) (some 5) (.sc (.int .i64 x5))),H0,1000⟩
def laws_eqBlockS.ctx (k : Nat) : Ctx Ty D:=(cons 41 (laws_eqBlock.x k) (fun _ _ _ _=>none))
def laws_eqBlockS.c4 : Nat → (List S76) → (List S76) → Int → Option (Bool)
 | 0,_,_,_=>none
 | k + 1,x0,x1,x5=>(if x5 < (x0.length : Int) then (if 0 ≤ x5 then (if x5 < (x0.length : Int) then (if 0 ≤ x5 then (if x5 < (x1.length : Int) then ((laws_eqBlock.f k ((rd_T76 x0 x5).f0) ((rd_T76 x0 x5).f1) ((rd_T76 x0 x5).f2) ((rd_T76 x1 x5).f0) ((rd_T76 x1 x5).f1) ((rd_T76 x1 x5).f2)).bind fun t1=>(if t1 = true then (laws_eqBlockS.c4 k x0 x1 (w64 (x5 + 1))) else (some (false)))) else none) else none) else none) else none) else (some (true)))
def laws_eqBlockS.f (k : Nat) (a0 : List S76) (a1 : List S76) : Option (Bool):=(if (a0.length : Int) = (a1.length : Int) then (laws_eqBlockS.c4 k a0 a1 0) else (some (false)))
def laws_eqBlockS.e (r : Bool) : Res Ty D:=(.sc (.bool r),[],[])
abbrev laws_eqBlockS.g (rec : List Item → St Ty D → R) (k : Nat):=go1 Tryz.f24 (laws_eqBlockS.ctx k) laws_eqBlockS.sp 0 laws_eqBlockS.en rec
theorem laws_eqBlockS.t4 (rec : List Item → St Ty D → R) (k : Nat) (x0 : List S76) (x1 : List S76) (x5 : Int) : laws_eqBlockS.g rec k (td Tryz.f24 4) (laws_eqBlockS.s4 x0 x1 x5) =
 bif decide (x5 < (x0.length : Int)) then bif decide (0 ≤ x5) then bif decide (x5 < (x0.length : Int)) then bif decide (0 ≤ x5) then bif decide (x5 < (x1.length : Int)) then (laws_eqBlock.f k ((rd_T76 x0 x5).f0) ((rd_T76 x0 x5).f1) ((rd_T76 x0 x5).f2) ((rd_T76 x1 x5).f0) ((rd_T76 x1 x5).f1) ((rd_T76 x1 x5).f2)).bind fun t1=>bif !t1 then some (laws_eqBlockS.e (false)) else rec (td Tryz.f24 4) (laws_eqBlockS.s4 x0 x1 (w64 (x5 + 1))) else none else none else none else none else some (laws_eqBlockS.e (true)):=by kernel_rfl
theorem laws_eqBlockS.te (rec : List Item → St Ty D → R) (k : Nat) (a0 : List S76) (a1 : List S76) : laws_eqBlockS.g rec k [.code (body Tryz.f24)] (startSt [.row 0 .t76 a0,.row 0 .t76 a1] []) =
 bif !decide ((a0.length : Int) = (a1.length : Int)) then some (laws_eqBlockS.e (false)) else rec (td Tryz.f24 4) (laws_eqBlockS.s4 a0 a1 0):=by kernel_rfl
theorem laws_eqBlockS.ok : ∀ k : Nat,(∀ (x0 : List S76) (x1 : List S76) (x5 : Int),goF Tryz.f24 laws_eqBlockS.ctx laws_eqBlockS.sp 0 laws_eqBlockS.en k (td Tryz.f24 4) (laws_eqBlockS.s4 x0 x1 x5) = (laws_eqBlockS.c4 k x0 x1 x5).map laws_eqBlockS.e)
 | 0=>fun _ _ _=>rfl
 | k + 1=>by
  have ih:=laws_eqBlockS.ok k;have i4:=ih;intro x0 x1 x5;rw [laws_eqBlockS.c4];exact (laws_eqBlockS.t4 _ k x0 x1 x5).trans (cd (cd (cd (cd (cd (bn (fun t1=>(nb rfl (i4 _ _ _)))) rfl) rfl) rfl) rfl) rfl)
theorem laws_eqBlockS.oke (k : Nat) (a0 : List S76) (a1 : List S76) : goF Tryz.f24 laws_eqBlockS.ctx laws_eqBlockS.sp 0 laws_eqBlockS.en (k + 1) [.code (body Tryz.f24)] (startSt [.row 0 .t76 a0,.row 0 .t76 a1] []) = (laws_eqBlockS.f k a0 a1).map laws_eqBlockS.e:=by
 have i4:=laws_eqBlockS.ok k;rw [laws_eqBlockS.f];exact (laws_eqBlockS.te _ k a0 a1).trans (nd rfl (i4 _ _ _))
theorem laws_eqBlockS.con (k : Nat) (a0 : List S76) (a1 : List S76) (r) (h : laws_eqBlockS.f k a0 a1 = some r) : Contract Tryz.prog kit 24 [.row 0 .t76 a0,.row 0 .t76 a1] [] (laws_eqBlockS.e r).1 (laws_eqBlockS.e r).2.1 (laws_eqBlockS.e r).2.2 :=
 con_okG kitOk mix (fun k=>(CtxOk.cons (laws_eqBlock.xok k) CtxOk.nil)) (laws_eqBlockS.oke k a0 a1) h (by kernel_rfl) (by kernel_rfl) (by kernel_rfl) rfl (by kernel_rfl) rfl rfl
def laws_eqBlockS.x (k : Nat) : X:=fun ins bs κ=>match ins,bs with
 | [.row 0 .t76 a0,.row 0 .t76 a1],[]=>(laws_eqBlockS.f k a0 a1).bind fun r=>κ (laws_eqBlockS.e r).1 (laws_eqBlockS.e r).2.1 (laws_eqBlockS.e r).2.2
 | _,_=>none
theorem laws_eqBlockS.xok (k : Nat) : XOk 24 (laws_eqBlockS.x k):=by
 intro ins bs κ res h;unfold laws_eqBlockS.x at h
 split at h
 ·obtain ⟨r,hr,h⟩:=Option.bind_eq_some_iff.1 h;exact ⟨_,_,_,laws_eqBlockS.con k _ _ r hr,h⟩
 cases h
def laws_eqFlash.sp : Nat → Option (Spec Ty):=fun r=>none
def laws_eqFlash.en : Option (Spec Ty):=none
def laws_eqFlash.ctx (k : Nat) : Ctx Ty D:=(cons 24 (laws_eqBlockS.x k) (fun _ _ _ _=>none))
def laws_eqFlash.f (k : Nat) (a0_0 : List S76) (a1_0 : List S76) : Option (Bool):=((laws_eqBlockS.f k a0_0 a1_0).bind fun t1=>(if t1 = true then (some (true)) else (some (false))))
def laws_eqFlash.e (r : Bool) : Res Ty D:=(.sc (.bool r),[],[])
abbrev laws_eqFlash.g (rec : List Item → St Ty D → R) (k : Nat):=go1 Tryz.f10 (laws_eqFlash.ctx k) laws_eqFlash.sp 0 laws_eqFlash.en rec
theorem laws_eqFlash.te (rec : List Item → St Ty D → R) (k : Nat) (a0_0 : List S76) (a1_0 : List S76) : laws_eqFlash.g rec k [.code (body Tryz.f10)] (startSt [.ag [.row 0 .t76 a0_0],.ag [.row 0 .t76 a1_0]] []) =
 (laws_eqBlockS.f k a0_0 a1_0).bind fun t1=>bif !t1 then some (laws_eqFlash.e (false)) else some (laws_eqFlash.e (true)):=by kernel_rfl
theorem laws_eqFlash.oke (k : Nat) (a0_0 : List S76) (a1_0 : List S76) : goF Tryz.f10 laws_eqFlash.ctx laws_eqFlash.sp 0 laws_eqFlash.en (k + 1) [.code (body Tryz.f10)] (startSt [.ag [.row 0 .t76 a0_0],.ag [.row 0 .t76 a1_0]] []) = (laws_eqFlash.f k a0_0 a1_0).map laws_eqFlash.e:=by
 rw [laws_eqFlash.f];exact (laws_eqFlash.te _ k a0_0 a1_0).trans (bn (fun t1=>(nb rfl rfl)))
theorem laws_eqFlash.con (k : Nat) (a0_0 : List S76) (a1_0 : List S76) (r) (h : laws_eqFlash.f k a0_0 a1_0 = some r) : Contract Tryz.prog kit 10 [.ag [.row 0 .t76 a0_0],.ag [.row 0 .t76 a1_0]] [] (laws_eqFlash.e r).1 (laws_eqFlash.e r).2.1 (laws_eqFlash.e r).2.2 :=
 con_okG kitOk mix (fun k=>(CtxOk.cons (laws_eqBlockS.xok k) CtxOk.nil)) (laws_eqFlash.oke k a0_0 a1_0) h (by kernel_rfl) (by kernel_rfl) (by kernel_rfl) rfl (by kernel_rfl) rfl rfl
def laws_eqFlash.x (k : Nat) : X:=fun ins bs κ=>match ins,bs with
 | [.ag [.row 0 .t76 a0_0],.ag [.row 0 .t76 a1_0]],[]=>(laws_eqFlash.f k a0_0 a1_0).bind fun r=>κ (laws_eqFlash.e r).1 (laws_eqFlash.e r).2.1 (laws_eqFlash.e r).2.2
 | _,_=>none
theorem laws_eqFlash.xok (k : Nat) : XOk 10 (laws_eqFlash.x k):=by
 intro ins bs κ res h;unfold laws_eqFlash.x at h
 split at h
 ·obtain ⟨r,hr,h⟩:=Option.bind_eq_some_iff.1 h;exact ⟨_,_,_,laws_eqFlash.con k _ _ r hr,h⟩
 cases h
def laws_eqVol.sp : Nat → Option (Spec Ty):=fun r=>none
def laws_eqVol.en : Option (Spec Ty):=none
def laws_eqVol.ctx (k : Nat) : Ctx Ty D:=(fun _ _ _ _=>none)
def laws_eqVol.f (k : Nat) (a0_0 : Int) (a0_1 : Int) (a1_0 : Int) (a1_1 : Int) : Option (Bool):=(if a0_0 = a1_0 then (if a0_1 = a1_1 then (some (true)) else (some (false))) else (some (false)))
def laws_eqVol.e (r : Bool) : Res Ty D:=(.sc (.bool r),[],[])
abbrev laws_eqVol.g (rec : List Item → St Ty D → R) (k : Nat):=go1 Tryz.f42 (laws_eqVol.ctx k) laws_eqVol.sp 0 laws_eqVol.en rec
theorem laws_eqVol.te (rec : List Item → St Ty D → R) (k : Nat) (a0_0 : Int) (a0_1 : Int) (a1_0 : Int) (a1_1 : Int) : laws_eqVol.g rec k [.code (body Tryz.f42)] (startSt [.ag [.sc (.int .i64 a0_0),.sc (.int .i64 a0_1)],.ag [.sc (.int .i64 a1_0),.sc (.int .i64 a1_1)]] []) =
 bif !decide (a0_0 = a1_0) then some (laws_eqVol.e (false)) else bif !decide (a0_1 = a1_1) then some (laws_eqVol.e (false)) else some (laws_eqVol.e (true)):=by kernel_rfl
theorem laws_eqVol.oke (k : Nat) (a0_0 : Int) (a0_1 : Int) (a1_0 : Int) (a1_1 : Int) : goF Tryz.f42 laws_eqVol.ctx laws_eqVol.sp 0 laws_eqVol.en (k + 1) [.code (body Tryz.f42)] (startSt [.ag [.sc (.int .i64 a0_0),.sc (.int .i64 a0_1)],.ag [.sc (.int .i64 a1_0),.sc (.int .i64 a1_1)]] []) = (laws_eqVol.f k a0_0 a0_1 a1_0 a1_1).map laws_eqVol.e:=by
 rw [laws_eqVol.f];exact (laws_eqVol.te _ k a0_0 a0_1 a1_0 a1_1).trans (nd rfl (nd rfl rfl))
theorem laws_eqVol.con (k : Nat) (a0_0 : Int) (a0_1 : Int) (a1_0 : Int) (a1_1 : Int) (r) (h : laws_eqVol.f k a0_0 a0_1 a1_0 a1_1 = some r) : Contract Tryz.prog kit 42 [.ag [.sc (.int .i64 a0_0),.sc (.int .i64 a0_1)],.ag [.sc (.int .i64 a1_0),.sc (.int .i64 a1_1)]] [] (laws_eqVol.e r).1 (laws_eqVol.e r).2.1 (laws_eqVol.e r).2.2 :=
 con_okG kitOk mix (fun k=>CtxOk.nil) (laws_eqVol.oke k a0_0 a0_1 a1_0 a1_1) h (by kernel_rfl) (by kernel_rfl) (by kernel_rfl) rfl (by kernel_rfl) rfl rfl
def laws_eqVol.x (k : Nat) : X:=fun ins bs κ=>match ins,bs with
 | [.ag [.sc (.int .i64 a0_0),.sc (.int .i64 a0_1)],.ag [.sc (.int .i64 a1_0),.sc (.int .i64 a1_1)]],[]=>(laws_eqVol.f k a0_0 a0_1 a1_0 a1_1).bind fun r=>κ (laws_eqVol.e r).1 (laws_eqVol.e r).2.1 (laws_eqVol.e r).2.2
 | _,_=>none
theorem laws_eqVol.xok (k : Nat) : XOk 42 (laws_eqVol.x k):=by
 intro ins bs κ res h;unfold laws_eqVol.x at h
 split at h
 ·obtain ⟨r,hr,h⟩:=Option.bind_eq_some_iff.1 h;exact ⟨_,_,_,laws_eqVol.con k _ _ _ _ r hr,h⟩
 cases h
def laws_eqVolS.sp : Nat → Option (Spec Ty):=fun r=>bif Nat.beq r 4 then some ⟨[(0,.keep),(1,.keep),(5,.keep)],[]⟩ else none
def laws_eqVolS.en : Option (Spec Ty):=none
def laws_eqVolS.s4 (x0 : List S83) (x1 : List S83) (x5 : Int) : St Ty D:=⟨(Env.put (Env.put (Env.put E (some 0) (.row 0 .t83 x0)) (some 1) (.row 0 .t83 x1)) (some 5) (.sc (.int .i64 x5))),H0,1000⟩
def laws_eqVolS.ctx (k : Nat) : Ctx Ty D:=(cons 42 (laws_eqVol.x k) (fun _ _ _ _=>none))
def laws_eqVolS.c4 : Nat → (List S83) → (List S83) → Int → Option (Bool)
 | 0,_,_,_=>none
 | k + 1,x0,x1,x5=>(if x5 < (x0.length : Int) then (if 0 ≤ x5 then (if x5 < (x0.length : Int) then (if 0 ≤ x5 then (if x5 < (x1.length : Int) then ((laws_eqVol.f k ((rd_T83 x0 x5).f0) ((rd_T83 x0 x5).f1) ((rd_T83 x1 x5).f0) ((rd_T83 x1 x5).f1)).bind fun t1=>(if t1 = true then (laws_eqVolS.c4 k x0 x1 (w64 (x5 + 1))) else (some (false)))) else none) else none) else none) else none) else (some (true)))
def laws_eqVolS.f (k : Nat) (a0 : List S83) (a1 : List S83) : Option (Bool):=(if (a0.length : Int) = (a1.length : Int) then (laws_eqVolS.c4 k a0 a1 0) else (some (false)))
def laws_eqVolS.e (r : Bool) : Res Ty D:=(.sc (.bool r),[],[])
abbrev laws_eqVolS.g (rec : List Item → St Ty D → R) (k : Nat):=go1 Tryz.f25 (laws_eqVolS.ctx k) laws_eqVolS.sp 0 laws_eqVolS.en rec
theorem laws_eqVolS.t4 (rec : List Item → St Ty D → R) (k : Nat) (x0 : List S83) (x1 : List S83) (x5 : Int) : laws_eqVolS.g rec k (td Tryz.f25 4) (laws_eqVolS.s4 x0 x1 x5) =
 bif decide (x5 < (x0.length : Int)) then bif decide (0 ≤ x5) then bif decide (x5 < (x0.length : Int)) then bif decide (0 ≤ x5) then bif decide (x5 < (x1.length : Int)) then (laws_eqVol.f k ((rd_T83 x0 x5).f0) ((rd_T83 x0 x5).f1) ((rd_T83 x1 x5).f0) ((rd_T83 x1 x5).f1)).bind fun t1=>bif !t1 then some (laws_eqVolS.e (false)) else rec (td Tryz.f25 4) (laws_eqVolS.s4 x0 x1 (w64 (x5 + 1))) else none else none else none else none else some (laws_eqVolS.e (true)):=by kernel_rfl
theorem laws_eqVolS.te (rec : List Item → St Ty D → R) (k : Nat) (a0 : List S83) (a1 : List S83) : laws_eqVolS.g rec k [.code (body Tryz.f25)] (startSt [.row 0 .t83 a0,.row 0 .t83 a1] []) =
 bif !decide ((a0.length : Int) = (a1.length : Int)) then some (laws_eqVolS.e (false)) else rec (td Tryz.f25 4) (laws_eqVolS.s4 a0 a1 0):=by kernel_rfl
theorem laws_eqVolS.ok : ∀ k : Nat,(∀ (x0 : List S83) (x1 : List S83) (x5 : Int),goF Tryz.f25 laws_eqVolS.ctx laws_eqVolS.sp 0 laws_eqVolS.en k (td Tryz.f25 4) (laws_eqVolS.s4 x0 x1 x5) = (laws_eqVolS.c4 k x0 x1 x5).map laws_eqVolS.e)
 | 0=>fun _ _ _=>rfl
 | k + 1=>by
  have ih:=laws_eqVolS.ok k;have i4:=ih;intro x0 x1 x5;rw [laws_eqVolS.c4];exact (laws_eqVolS.t4 _ k x0 x1 x5).trans (cd (cd (cd (cd (cd (bn (fun t1=>(nb rfl (i4 _ _ _)))) rfl) rfl) rfl) rfl) rfl)
theorem laws_eqVolS.oke (k : Nat) (a0 : List S83) (a1 : List S83) : goF Tryz.f25 laws_eqVolS.ctx laws_eqVolS.sp 0 laws_eqVolS.en (k + 1) [.code (body Tryz.f25)] (startSt [.row 0 .t83 a0,.row 0 .t83 a1] []) = (laws_eqVolS.f k a0 a1).map laws_eqVolS.e:=by
 have i4:=laws_eqVolS.ok k;rw [laws_eqVolS.f];exact (laws_eqVolS.te _ k a0 a1).trans (nd rfl (i4 _ _ _))
theorem laws_eqVolS.con (k : Nat) (a0 : List S83) (a1 : List S83) (r) (h : laws_eqVolS.f k a0 a1 = some r) : Contract Tryz.prog kit 25 [.row 0 .t83 a0,.row 0 .t83 a1] [] (laws_eqVolS.e r).1 (laws_eqVolS.e r).2.1 (laws_eqVolS.e r).2.2 :=
 con_okG kitOk mix (fun k=>(CtxOk.cons (laws_eqVol.xok k) CtxOk.nil)) (laws_eqVolS.oke k a0 a1) h (by kernel_rfl) (by kernel_rfl) (by kernel_rfl) rfl (by kernel_rfl) rfl rfl
def laws_eqVolS.x (k : Nat) : X:=fun ins bs κ=>match ins,bs with
 | [.row 0 .t83 a0,.row 0 .t83 a1],[]=>(laws_eqVolS.f k a0 a1).bind fun r=>κ (laws_eqVolS.e r).1 (laws_eqVolS.e r).2.1 (laws_eqVolS.e r).2.2
 | _,_=>none
theorem laws_eqVolS.xok (k : Nat) : XOk 25 (laws_eqVolS.x k):=by
 intro ins bs κ res h;unfold laws_eqVolS.x at h
 split at h
 ·obtain ⟨r,hr,h⟩:=Option.bind_eq_some_iff.1 h;exact ⟨_,_,_,laws_eqVolS.con k _ _ r hr,h⟩
 cases h
def laws_eqIntS.sp : Nat → Option (Spec Ty):=fun r=>bif Nat.beq r 4 then some ⟨[(0,.keep),(1,.keep),(5,.keep)],[]⟩ else none
def laws_eqIntS.en : Option (Spec Ty):=none
def laws_eqIntS.s4 (x0 : List Int) (x1 : List Int) (x5 : Int) : St Ty D:=⟨(Env.put (Env.put (Env.put E (some 0) (.row 0 .t3 x0)) (some 1) (.row 0 .t3 x1)) (some 5) (.sc (.int .i64 x5))),H0,1000⟩
def laws_eqIntS.ctx (k : Nat) : Ctx Ty D:=(fun _ _ _ _=>none)
def laws_eqIntS.c4 : Nat → (List Int) → (List Int) → Int → Option (Bool)
 | 0,_,_,_=>none
 | k + 1,x0,x1,x5=>(if x5 < (x0.length : Int) then (if 0 ≤ x5 then (if x5 < (x0.length : Int) then (if 0 ≤ x5 then (if x5 < (x1.length : Int) then (if (rd_T3 x0 x5) = (rd_T3 x1 x5) then (laws_eqIntS.c4 k x0 x1 (w64 (x5 + 1))) else (some (false))) else none) else none) else none) else none) else (some (true)))
def laws_eqIntS.f (k : Nat) (a0 : List Int) (a1 : List Int) : Option (Bool):=(if (a0.length : Int) = (a1.length : Int) then (laws_eqIntS.c4 k a0 a1 0) else (some (false)))
def laws_eqIntS.e (r : Bool) : Res Ty D:=(.sc (.bool r),[],[])
abbrev laws_eqIntS.g (rec : List Item → St Ty D → R) (k : Nat):=go1 Tryz.f94 (laws_eqIntS.ctx k) laws_eqIntS.sp 0 laws_eqIntS.en rec
theorem laws_eqIntS.t4 (rec : List Item → St Ty D → R) (k : Nat) (x0 : List Int) (x1 : List Int) (x5 : Int) : laws_eqIntS.g rec k (td Tryz.f94 4) (laws_eqIntS.s4 x0 x1 x5) =
 bif decide (x5 < (x0.length : Int)) then bif decide (0 ≤ x5) then bif decide (x5 < (x0.length : Int)) then bif decide (0 ≤ x5) then bif decide (x5 < (x1.length : Int)) then bif !decide ((rd_T3 x0 x5) = (rd_T3 x1 x5)) then some (laws_eqIntS.e (false)) else rec (td Tryz.f94 4) (laws_eqIntS.s4 x0 x1 (w64 (x5 + 1))) else none else none else none else none else some (laws_eqIntS.e (true)):=by kernel_rfl
theorem laws_eqIntS.te (rec : List Item → St Ty D → R) (k : Nat) (a0 : List Int) (a1 : List Int) : laws_eqIntS.g rec k [.code (body Tryz.f94)] (startSt [.row 0 .t3 a0,.row 0 .t3 a1] []) =
 bif !decide ((a0.length : Int) = (a1.length : Int)) then some (laws_eqIntS.e (false)) else rec (td Tryz.f94 4) (laws_eqIntS.s4 a0 a1 0):=by kernel_rfl
theorem laws_eqIntS.ok : ∀ k : Nat,(∀ (x0 : List Int) (x1 : List Int) (x5 : Int),goF Tryz.f94 laws_eqIntS.ctx laws_eqIntS.sp 0 laws_eqIntS.en k (td Tryz.f94 4) (laws_eqIntS.s4 x0 x1 x5) = (laws_eqIntS.c4 k x0 x1 x5).map laws_eqIntS.e)
 | 0=>fun _ _ _=>rfl
 | k + 1=>by
  have ih:=laws_eqIntS.ok k;have i4:=ih;intro x0 x1 x5;rw [laws_eqIntS.c4];exact (laws_eqIntS.t4 _ k x0 x1 x5).trans (cd (cd (cd (cd (cd (nd rfl (i4 _ _ _)) rfl) rfl) rfl) rfl) rfl)
theorem laws_eqIntS.oke (k : Nat) (a0 : List Int) (a1 : List Int) : goF Tryz.f94 laws_eqIntS.ctx laws_eqIntS.sp 0 laws_eqIntS.en (k + 1) [.code (body Tryz.f94)] (startSt [.row 0 .t3 a0,.row 0 .t3 a1] []) = (laws_eqIntS.f k a0 a1).map laws_eqIntS.e:=by
 have i4:=laws_eqIntS.ok k;rw [laws_eqIntS.f];exact (laws_eqIntS.te _ k a0 a1).trans (nd rfl (i4 _ _ _))
theorem laws_eqIntS.con (k : Nat) (a0 : List Int) (a1 : List Int) (r) (h : laws_eqIntS.f k a0 a1 = some r) : Contract Tryz.prog kit 94 [.row 0 .t3 a0,.row 0 .t3 a1] [] (laws_eqIntS.e r).1 (laws_eqIntS.e r).2.1 (laws_eqIntS.e r).2.2 :=
 con_okG kitOk mix (fun k=>CtxOk.nil) (laws_eqIntS.oke k a0 a1) h (by kernel_rfl) (by kernel_rfl) (by kernel_rfl) rfl (by kernel_rfl) rfl rfl
def laws_eqIntS.x (k : Nat) : X:=fun ins bs κ=>match ins,bs with
 | [.row 0 .t3 a0,.row 0 .t3 a1],[]=>(laws_eqIntS.f k a0 a1).bind fun r=>κ (laws_eqIntS.e r).1 (laws_eqIntS.e r).2.1 (laws_eqIntS.e r).2.2
 | _,_=>none
theorem laws_eqIntS.xok (k : Nat) : XOk 94 (laws_eqIntS.x k):=by
 intro ins bs κ res h;unfold laws_eqIntS.x at h
 split at h
 ·obtain ⟨r,hr,h⟩:=Option.bind_eq_some_iff.1 h;exact ⟨_,_,_,laws_eqIntS.con k _ _ r hr,h⟩
 cases h
def laws_eqKnot.sp : Nat → Option (Spec Ty):=fun r=>none
def laws_eqKnot.en : Option (Spec Ty):=none
def laws_eqKnot.ctx (k : Nat) : Ctx Ty D:=(cons 94 (laws_eqIntS.x k) (fun _ _ _ _=>none))
def laws_eqKnot.f (k : Nat) (a0_0 : Bool) (a0_1 : List Int) (a1_0 : Bool) (a1_1 : List Int) : Option (Bool):=(if (a0_0 == a1_0) = true then ((laws_eqIntS.f k a0_1 a1_1).bind fun t1=>(if t1 = true then (some (true)) else (some (false)))) else (some (false)))
def laws_eqKnot.e (r : Bool) : Res Ty D:=(.sc (.bool r),[],[])
abbrev laws_eqKnot.g (rec : List Item → St Ty D → R) (k : Nat):=go1 Tryz.f63 (laws_eqKnot.ctx k) laws_eqKnot.sp 0 laws_eqKnot.en rec
theorem laws_eqKnot.te (rec : List Item → St Ty D → R) (k : Nat) (a0_0 : Bool) (a0_1 : List Int) (a1_0 : Bool) (a1_1 : List Int) : laws_eqKnot.g rec k [.code (body Tryz.f63)] (startSt [.ag [.sc (.bool a0_0),.row 0 .t3 a0_1],.ag [.sc (.bool a1_0),.row 0 .t3 a1_1]] []) =
 bif !(a0_0 == a1_0) then some (laws_eqKnot.e (false)) else (laws_eqIntS.f k a0_1 a1_1).bind fun t1=>bif !t1 then some (laws_eqKnot.e (false)) else some (laws_eqKnot.e (true)):=by kernel_rfl
theorem laws_eqKnot.oke (k : Nat) (a0_0 : Bool) (a0_1 : List Int) (a1_0 : Bool) (a1_1 : List Int) : goF Tryz.f63 laws_eqKnot.ctx laws_eqKnot.sp 0 laws_eqKnot.en (k + 1) [.code (body Tryz.f63)] (startSt [.ag [.sc (.bool a0_0),.row 0 .t3 a0_1],.ag [.sc (.bool a1_0),.row 0 .t3 a1_1]] []) = (laws_eqKnot.f k a0_0 a0_1 a1_0 a1_1).map laws_eqKnot.e:=by
 rw [laws_eqKnot.f];exact (laws_eqKnot.te _ k a0_0 a0_1 a1_0 a1_1).trans (nb rfl (bn (fun t1=>(nb rfl rfl))))
theorem laws_eqKnot.con (k : Nat) (a0_0 : Bool) (a0_1 : List Int) (a1_0 : Bool) (a1_1 : List Int) (r) (h : laws_eqKnot.f k a0_0 a0_1 a1_0 a1_1 = some r) : Contract Tryz.prog kit 63 [.ag [.sc (.bool a0_0),.row 0 .t3 a0_1],.ag [.sc (.bool a1_0),.row 0 .t3 a1_1]] [] (laws_eqKnot.e r).1 (laws_eqKnot.e r).2.1 (laws_eqKnot.e r).2.2 :=
 con_okG kitOk mix (fun k=>(CtxOk.cons (laws_eqIntS.xok k) CtxOk.nil)) (laws_eqKnot.oke k a0_0 a0_1 a1_0 a1_1) h (by kernel_rfl) (by kernel_rfl) (by kernel_rfl) rfl (by kernel_rfl) rfl rfl
def laws_eqKnot.x (k : Nat) : X:=fun ins bs κ=>match ins,bs with
 | [.ag [.sc (.bool a0_0),.row 0 .t3 a0_1],.ag [.sc (.bool a1_0),.row 0 .t3 a1_1]],[]=>(laws_eqKnot.f k a0_0 a0_1 a1_0 a1_1).bind fun r=>κ (laws_eqKnot.e r).1 (laws_eqKnot.e r).2.1 (laws_eqKnot.e r).2.2
 | _,_=>none
theorem laws_eqKnot.xok (k : Nat) : XOk 63 (laws_eqKnot.x k):=by
 intro ins bs κ res h;unfold laws_eqKnot.x at h
 split at h
 ·obtain ⟨r,hr,h⟩:=Option.bind_eq_some_iff.1 h;exact ⟨_,_,_,laws_eqKnot.con k _ _ _ _ r hr,h⟩
 cases h
def laws_eqKnotS.sp : Nat → Option (Spec Ty):=fun r=>bif Nat.beq r 4 then some ⟨[(0,.keep),(1,.keep),(5,.keep)],[]⟩ else none
def laws_eqKnotS.en : Option (Spec Ty):=none
def laws_eqKnotS.s4 (x0 : List S111) (x1 : List S111) (x5 : Int) : St Ty D:=⟨(Env.put (Env.put (Env.put E (some 0) (.row 0 .t111 x0)) (some 1) (.row 0 .t111 x1)) (some 5) (.sc (.int .i64 x5))),H0,1000⟩
def laws_eqKnotS.ctx (k : Nat) : Ctx Ty D:=(cons 63 (laws_eqKnot.x k) (fun _ _ _ _=>none))
def laws_eqKnotS.c4 : Nat → (List S111) → (List S111) → Int → Option (Bool)
 | 0,_,_,_=>none
 | k + 1,x0,x1,x5=>(if x5 < (x0.length : Int) then (if 0 ≤ x5 then (if x5 < (x0.length : Int) then (if 0 ≤ x5 then (if x5 < (x1.length : Int) then ((laws_eqKnot.f k ((rd_T111 x0 x5).f0) ((rd_T111 x0 x5).f1) ((rd_T111 x1 x5).f0) ((rd_T111 x1 x5).f1)).bind fun t1=>(if t1 = true then (laws_eqKnotS.c4 k x0 x1 (w64 (x5 + 1))) else (some (false)))) else none) else none) else none) else none) else (some (true)))
def laws_eqKnotS.f (k : Nat) (a0 : List S111) (a1 : List S111) : Option (Bool):=(if (a0.length : Int) = (a1.length : Int) then (laws_eqKnotS.c4 k a0 a1 0) else (some (false)))
def laws_eqKnotS.e (r : Bool) : Res Ty D:=(.sc (.bool r),[],[])
abbrev laws_eqKnotS.g (rec : List Item → St Ty D → R) (k : Nat):=go1 Tryz.f43 (laws_eqKnotS.ctx k) laws_eqKnotS.sp 0 laws_eqKnotS.en rec
theorem laws_eqKnotS.t4 (rec : List Item → St Ty D → R) (k : Nat) (x0 : List S111) (x1 : List S111) (x5 : Int) : laws_eqKnotS.g rec k (td Tryz.f43 4) (laws_eqKnotS.s4 x0 x1 x5) =
 bif decide (x5 < (x0.length : Int)) then bif decide (0 ≤ x5) then bif decide (x5 < (x0.length : Int)) then bif decide (0 ≤ x5) then bif decide (x5 < (x1.length : Int)) then (laws_eqKnot.f k ((rd_T111 x0 x5).f0) ((rd_T111 x0 x5).f1) ((rd_T111 x1 x5).f0) ((rd_T111 x1 x5).f1)).bind fun t1=>bif !t1 then some (laws_eqKnotS.e (false)) else rec (td Tryz.f43 4) (laws_eqKnotS.s4 x0 x1 (w64 (x5 + 1))) else none else none else none else none else some (laws_eqKnotS.e (true)):=by kernel_rfl
theorem laws_eqKnotS.te (rec : List Item → St Ty D → R) (k : Nat) (a0 : List S111) (a1 : List S111) : laws_eqKnotS.g rec k [.code (body Tryz.f43)] (startSt [.row 0 .t111 a0,.row 0 .t111 a1] []) =
 bif !decide ((a0.length : Int) = (a1.length : Int)) then some (laws_eqKnotS.e (false)) else rec (td Tryz.f43 4) (laws_eqKnotS.s4 a0 a1 0):=by kernel_rfl
theorem laws_eqKnotS.ok : ∀ k : Nat,(∀ (x0 : List S111) (x1 : List S111) (x5 : Int),goF Tryz.f43 laws_eqKnotS.ctx laws_eqKnotS.sp 0 laws_eqKnotS.en k (td Tryz.f43 4) (laws_eqKnotS.s4 x0 x1 x5) = (laws_eqKnotS.c4 k x0 x1 x5).map laws_eqKnotS.e)
 | 0=>fun _ _ _=>rfl
 | k + 1=>by
  have ih:=laws_eqKnotS.ok k;have i4:=ih;intro x0 x1 x5;rw [laws_eqKnotS.c4];exact (laws_eqKnotS.t4 _ k x0 x1 x5).trans (cd (cd (cd (cd (cd (bn (fun t1=>(nb rfl (i4 _ _ _)))) rfl) rfl) rfl) rfl) rfl)
theorem laws_eqKnotS.oke (k : Nat) (a0 : List S111) (a1 : List S111) : goF Tryz.f43 laws_eqKnotS.ctx laws_eqKnotS.sp 0 laws_eqKnotS.en (k + 1) [.code (body Tryz.f43)] (startSt [.row 0 .t111 a0,.row 0 .t111 a1] []) = (laws_eqKnotS.f k a0 a1).map laws_eqKnotS.e:=by
 have i4:=laws_eqKnotS.ok k;rw [laws_eqKnotS.f];exact (laws_eqKnotS.te _ k a0 a1).trans (nd rfl (i4 _ _ _))
theorem laws_eqKnotS.con (k : Nat) (a0 : List S111) (a1 : List S111) (r) (h : laws_eqKnotS.f k a0 a1 = some r) : Contract Tryz.prog kit 43 [.row 0 .t111 a0,.row 0 .t111 a1] [] (laws_eqKnotS.e r).1 (laws_eqKnotS.e r).2.1 (laws_eqKnotS.e r).2.2 :=
 con_okG kitOk mix (fun k=>(CtxOk.cons (laws_eqKnot.xok k) CtxOk.nil)) (laws_eqKnotS.oke k a0 a1) h (by kernel_rfl) (by kernel_rfl) (by kernel_rfl) rfl (by kernel_rfl) rfl rfl
def laws_eqKnotS.x (k : Nat) : X:=fun ins bs κ=>match ins,bs with
 | [.row 0 .t111 a0,.row 0 .t111 a1],[]=>(laws_eqKnotS.f k a0 a1).bind fun r=>κ (laws_eqKnotS.e r).1 (laws_eqKnotS.e r).2.1 (laws_eqKnotS.e r).2.2
 | _,_=>none
theorem laws_eqKnotS.xok (k : Nat) : XOk 43 (laws_eqKnotS.x k):=by
 intro ins bs κ res h;unfold laws_eqKnotS.x at h
 split at h
 ·obtain ⟨r,hr,h⟩:=Option.bind_eq_some_iff.1 h;exact ⟨_,_,_,laws_eqKnotS.con k _ _ r hr,h⟩
 cases h
def laws_eqArena.sp : Nat → Option (Spec Ty):=fun r=>none
def laws_eqArena.en : Option (Spec Ty):=none
def laws_eqArena.ctx (k : Nat) : Ctx Ty D:=(cons 43 (laws_eqKnotS.x k) (fun _ _ _ _=>none))
def laws_eqArena.f (k : Nat) (a0_0 : List S111) (a1_0 : List S111) : Option (Bool):=((laws_eqKnotS.f k a0_0 a1_0).bind fun t1=>(if t1 = true then (some (true)) else (some (false))))
def laws_eqArena.e (r : Bool) : Res Ty D:=(.sc (.bool r),[],[])
abbrev laws_eqArena.g (rec : List Item → St Ty D → R) (k : Nat):=go1 Tryz.f26 (laws_eqArena.ctx k) laws_eqArena.sp 0 laws_eqArena.en rec
theorem laws_eqArena.te (rec : List Item → St Ty D → R) (k : Nat) (a0_0 : List S111) (a1_0 : List S111) : laws_eqArena.g rec k [.code (body Tryz.f26)] (startSt [.ag [.row 0 .t111 a0_0],.ag [.row 0 .t111 a1_0]] []) =
 (laws_eqKnotS.f k a0_0 a1_0).bind fun t1=>bif !t1 then some (laws_eqArena.e (false)) else some (laws_eqArena.e (true)):=by kernel_rfl
theorem laws_eqArena.oke (k : Nat) (a0_0 : List S111) (a1_0 : List S111) : goF Tryz.f26 laws_eqArena.ctx laws_eqArena.sp 0 laws_eqArena.en (k + 1) [.code (body Tryz.f26)] (startSt [.ag [.row 0 .t111 a0_0],.ag [.row 0 .t111 a1_0]] []) = (laws_eqArena.f k a0_0 a1_0).map laws_eqArena.e:=by
 rw [laws_eqArena.f];exact (laws_eqArena.te _ k a0_0 a1_0).trans (bn (fun t1=>(nb rfl rfl)))
theorem laws_eqArena.con (k : Nat) (a0_0 : List S111) (a1_0 : List S111) (r) (h : laws_eqArena.f k a0_0 a1_0 = some r) : Contract Tryz.prog kit 26 [.ag [.row 0 .t111 a0_0],.ag [.row 0 .t111 a1_0]] [] (laws_eqArena.e r).1 (laws_eqArena.e r).2.1 (laws_eqArena.e r).2.2 :=
 con_okG kitOk mix (fun k=>(CtxOk.cons (laws_eqKnotS.xok k) CtxOk.nil)) (laws_eqArena.oke k a0_0 a1_0) h (by kernel_rfl) (by kernel_rfl) (by kernel_rfl) rfl (by kernel_rfl) rfl rfl
def laws_eqArena.x (k : Nat) : X:=fun ins bs κ=>match ins,bs with
 | [.ag [.row 0 .t111 a0_0],.ag [.row 0 .t111 a1_0]],[]=>(laws_eqArena.f k a0_0 a1_0).bind fun r=>κ (laws_eqArena.e r).1 (laws_eqArena.e r).2.1 (laws_eqArena.e r).2.2
 | _,_=>none
theorem laws_eqArena.xok (k : Nat) : XOk 26 (laws_eqArena.x k):=by
 intro ins bs κ res h;unfold laws_eqArena.x at h
 split at h
 ·obtain ⟨r,hr,h⟩:=Option.bind_eq_some_iff.1 h;exact ⟨_,_,_,laws_eqArena.con k _ _ r hr,h⟩
 cases h
def laws_eqStore.sp : Nat → Option (Spec Ty):=fun r=>none
def laws_eqStore.en : Option (Spec Ty):=none
def laws_eqStore.ctx (k : Nat) : Ctx Ty D:=(cons 25 (laws_eqVolS.x k) (cons 26 (laws_eqArena.x k) (fun _ _ _ _=>none)))
def laws_eqStore.f (k : Nat) (a0_0 : List S83) (a0_1 : List S111) (a0_2 : Int) (a1_0 : List S83) (a1_1 : List S111) (a1_2 : Int) : Option (Bool):=((laws_eqVolS.f k a0_0 a1_0).bind fun t1=>(if t1 = true then ((laws_eqArena.f k a0_1 a1_1).bind fun t2=>(if t2 = true then (if a0_2 = a1_2 then (some (true)) else (some (false))) else (some (false)))) else (some (false))))
def laws_eqStore.e (r : Bool) : Res Ty D:=(.sc (.bool r),[],[])
abbrev laws_eqStore.g (rec : List Item → St Ty D → R) (k : Nat):=go1 Tryz.f11 (laws_eqStore.ctx k) laws_eqStore.sp 0 laws_eqStore.en rec
theorem laws_eqStore.te (rec : List Item → St Ty D → R) (k : Nat) (a0_0 : List S83) (a0_1 : List S111) (a0_2 : Int) (a1_0 : List S83) (a1_1 : List S111) (a1_2 : Int) : laws_eqStore.g rec k [.code (body Tryz.f11)] (startSt [.ag [.row 0 .t83 a0_0,.row 0 .t111 a0_1,.sc (.int .i64 a0_2)],.ag [.row 0 .t83 a1_0,.row 0 .t111 a1_1,.sc (.int .i64 a1_2)]] []) =
 (laws_eqVolS.f k a0_0 a1_0).bind fun t1=>bif !t1 then some (laws_eqStore.e (false)) else (laws_eqArena.f k a0_1 a1_1).bind fun t2=>bif !t2 then some (laws_eqStore.e (false)) else bif !decide (a0_2 = a1_2) then some (laws_eqStore.e (false)) else some (laws_eqStore.e (true)):=by kernel_rfl
theorem laws_eqStore.oke (k : Nat) (a0_0 : List S83) (a0_1 : List S111) (a0_2 : Int) (a1_0 : List S83) (a1_1 : List S111) (a1_2 : Int) : goF Tryz.f11 laws_eqStore.ctx laws_eqStore.sp 0 laws_eqStore.en (k + 1) [.code (body Tryz.f11)] (startSt [.ag [.row 0 .t83 a0_0,.row 0 .t111 a0_1,.sc (.int .i64 a0_2)],.ag [.row 0 .t83 a1_0,.row 0 .t111 a1_1,.sc (.int .i64 a1_2)]] []) = (laws_eqStore.f k a0_0 a0_1 a0_2 a1_0 a1_1 a1_2).map laws_eqStore.e:=by
 rw [laws_eqStore.f];exact (laws_eqStore.te _ k a0_0 a0_1 a0_2 a1_0 a1_1 a1_2).trans (bn (fun t1=>(nb rfl (bn (fun t2=>(nb rfl (nd rfl rfl)))))))
theorem laws_eqStore.con (k : Nat) (a0_0 : List S83) (a0_1 : List S111) (a0_2 : Int) (a1_0 : List S83) (a1_1 : List S111) (a1_2 : Int) (r) (h : laws_eqStore.f k a0_0 a0_1 a0_2 a1_0 a1_1 a1_2 = some r) : Contract Tryz.prog kit 11 [.ag [.row 0 .t83 a0_0,.row 0 .t111 a0_1,.sc (.int .i64 a0_2)],.ag [.row 0 .t83 a1_0,.row 0 .t111 a1_1,.sc (.int .i64 a1_2)]] [] (laws_eqStore.e r).1 (laws_eqStore.e r).2.1 (laws_eqStore.e r).2.2 :=
 con_okG kitOk mix (fun k=>(CtxOk.cons (laws_eqVolS.xok k) (CtxOk.cons (laws_eqArena.xok k) CtxOk.nil))) (laws_eqStore.oke k a0_0 a0_1 a0_2 a1_0 a1_1 a1_2) h (by kernel_rfl) (by kernel_rfl) (by kernel_rfl) rfl (by kernel_rfl) rfl rfl
def laws_eqStore.x (k : Nat) : X:=fun ins bs κ=>match ins,bs with
 | [.ag [.row 0 .t83 a0_0,.row 0 .t111 a0_1,.sc (.int .i64 a0_2)],.ag [.row 0 .t83 a1_0,.row 0 .t111 a1_1,.sc (.int .i64 a1_2)]],[]=>(laws_eqStore.f k a0_0 a0_1 a0_2 a1_0 a1_1 a1_2).bind fun r=>κ (laws_eqStore.e r).1 (laws_eqStore.e r).2.1 (laws_eqStore.e r).2.2
 | _,_=>none
theorem laws_eqStore.xok (k : Nat) : XOk 11 (laws_eqStore.x k):=by
 intro ins bs κ res h;unfold laws_eqStore.x at h
 split at h
 ·obtain ⟨r,hr,h⟩:=Option.bind_eq_some_iff.1 h;exact ⟨_,_,_,laws_eqStore.con k _ _ _ _ _ _ r hr,h⟩
 cases h
end
end Go.Proofs.YtibhkbljjnlpjaaGreat.M2

namespace Go.Proofs.YtibhkbljjnlpjaaGreat.M2
open Go Go.Proofs.YtibhkbljjnlpjaaGreat.PK
set_option linter.unusedVariables false
set_option linter.unusedSimpArgs false
set_option maxHeartbeats 4000000
set_option maxRecDepth 100000
noncomputable section
def laws_FnExactNeededOn.sp : Nat → Option (Spec Ty):=fun r=>none
def laws_FnExactNeededOn.en : Option (Spec Ty):=none
def laws_FnExactNeededOn.ctx (k : Nat) : Ctx Ty D:=(cons 4 (laws_szFlash.x k) (cons 5 (laws_szStore.x k) (cons 6 (spec_NeededOn.x k) (cons 7 (laws_toFlash.x k) (cons 8 (laws_toStore.x k) (cons 9 (impl_NeededOn.x k) (cons 10 (laws_eqFlash.x k) (cons 11 (laws_eqStore.x k) (fun _ _ _ _=>none)))))))))
def laws_FnExactNeededOn.f (k : Nat) (a0_0 : List S72) (a1_0 : List S87) (a1_1 : List S101) (a1_2 : Int) (a2 : Int) (a3 : Int) : Option (Bool):=((laws_szFlash.f k a0_0 1048576).bind fun t1=>(if t1 < 0 then (some (true)) else ((laws_szStore.f k a1_0 a1_1 a1_2 t1).bind fun t2=>(if t2 < 0 then (some (true)) else ((laws_toFlash.f k a0_0).bind fun t3=>((laws_toStore.f k a1_0 a1_1 a1_2).bind fun t4=>((spec_NeededOn.f k t3 t4.1 t4.2.1 t4.2.2 a2 a3).bind fun t5=>((laws_toFlash.f k a0_0).bind fun t6=>((laws_toStore.f k a1_0 a1_1 a1_2).bind fun t7=>((impl_NeededOn.f k t6 t7.1 t7.2.1 t7.2.2 a2 a3).bind fun t8=>(if t8 = t5 then ((laws_toFlash.f k a0_0).bind fun t9=>((laws_eqFlash.f k t6 t9).bind fun t10=>(if t10 = true then ((laws_toStore.f k a1_0 a1_1 a1_2).bind fun t11=>((laws_eqStore.f k t7.1 t7.2.1 t7.2.2 t11.1 t11.2.1 t11.2.2).bind fun t12=>(if t12 = true then (some (true)) else (some (false))))) else (some (false))))) else (some (false)))))))))))))
def laws_FnExactNeededOn.e (r : Bool) : Res Ty D:=(.sc (.bool r),[],[])
abbrev laws_FnExactNeededOn.g (rec : List Item → St Ty D → R) (k : Nat):=go1 Tryz.f3 (laws_FnExactNeededOn.ctx k) laws_FnExactNeededOn.sp 0 laws_FnExactNeededOn.en rec
theorem laws_FnExactNeededOn.te (rec : List Item → St Ty D → R) (k : Nat) (a0_0 : List S72) (a1_0 : List S87) (a1_1 : List S101) (a1_2 : Int) (a2 : Int) (a3 : Int) : laws_FnExactNeededOn.g rec k [.code (body Tryz.f3)] (startSt [.ag [.row 0 .t72 a0_0],.ag [.row 0 .t87 a1_0,.row 0 .t101 a1_1,.sc (.int .i64 a1_2)],.sc (.int .i64 a2),.sc (.int .i64 a3)] []) =
 (laws_szFlash.f k a0_0 1048576).bind fun t1=>bif decide (t1 < 0) then some (laws_FnExactNeededOn.e (true)) else (laws_szStore.f k a1_0 a1_1 a1_2 t1).bind fun t2=>bif decide (t2 < 0) then some (laws_FnExactNeededOn.e (true)) else (laws_toFlash.f k a0_0).bind fun t3=>(laws_toStore.f k a1_0 a1_1 a1_2).bind fun t4=>(spec_NeededOn.f k t3 t4.1 t4.2.1 t4.2.2 a2 a3).bind fun t5=>(laws_toFlash.f k a0_0).bind fun t6=>(laws_toStore.f k a1_0 a1_1 a1_2).bind fun t7=>(impl_NeededOn.f k t6 t7.1 t7.2.1 t7.2.2 a2 a3).bind fun t8=>bif !decide (t8 = t5) then some (laws_FnExactNeededOn.e (false)) else (laws_toFlash.f k a0_0).bind fun t9=>(laws_eqFlash.f k t6 t9).bind fun t10=>bif !t10 then some (laws_FnExactNeededOn.e (false)) else (laws_toStore.f k a1_0 a1_1 a1_2).bind fun t11=>(laws_eqStore.f k t7.1 t7.2.1 t7.2.2 t11.1 t11.2.1 t11.2.2).bind fun t12=>bif !t12 then some (laws_FnExactNeededOn.e (false)) else some (laws_FnExactNeededOn.e (true)):=by kernel_rfl
theorem laws_FnExactNeededOn.oke (k : Nat) (a0_0 : List S72) (a1_0 : List S87) (a1_1 : List S101) (a1_2 : Int) (a2 : Int) (a3 : Int) : goF Tryz.f3 laws_FnExactNeededOn.ctx laws_FnExactNeededOn.sp 0 laws_FnExactNeededOn.en (k + 1) [.code (body Tryz.f3)] (startSt [.ag [.row 0 .t72 a0_0],.ag [.row 0 .t87 a1_0,.row 0 .t101 a1_1,.sc (.int .i64 a1_2)],.sc (.int .i64 a2),.sc (.int .i64 a3)] []) = (laws_FnExactNeededOn.f k a0_0 a1_0 a1_1 a1_2 a2 a3).map laws_FnExactNeededOn.e:=by
 rw [laws_FnExactNeededOn.f];exact (laws_FnExactNeededOn.te _ k a0_0 a1_0 a1_1 a1_2 a2 a3).trans (bn (fun t1=>(cd rfl (bn (fun t2=>(cd rfl (bn (fun t3=>(bn (fun t4=>(bn (fun t5=>(bn (fun t6=>(bn (fun t7=>(bn (fun t8=>(nd rfl (bn (fun t9=>(bn (fun t10=>(nb rfl (bn (fun t11=>(bn (fun t12=>(nb rfl rfl)))))))))))))))))))))))))))))
theorem laws_FnExactNeededOn.con (k : Nat) (a0_0 : List S72) (a1_0 : List S87) (a1_1 : List S101) (a1_2 : Int) (a2 : Int) (a3 : Int) (r) (h : laws_FnExactNeededOn.f k a0_0 a1_0 a1_1 a1_2 a2 a3 = some r) : Contract Tryz.prog kit 3 [.ag [.row 0 .t72 a0_0],.ag [.row 0 .t87 a1_0,.row 0 .t101 a1_1,.sc (.int .i64 a1_2)],.sc (.int .i64 a2),.sc (.int .i64 a3)] [] (laws_FnExactNeededOn.e r).1 (laws_FnExactNeededOn.e r).2.1 (laws_FnExactNeededOn.e r).2.2 :=
 con_okG kitOk mix (fun k=>(CtxOk.cons (laws_szFlash.xok k) (CtxOk.cons (laws_szStore.xok k) (CtxOk.cons (spec_NeededOn.xok k) (CtxOk.cons (laws_toFlash.xok k) (CtxOk.cons (laws_toStore.xok k) (CtxOk.cons (impl_NeededOn.xok k) (CtxOk.cons (laws_eqFlash.xok k) (CtxOk.cons (laws_eqStore.xok k) CtxOk.nil))))))))) (laws_FnExactNeededOn.oke k a0_0 a1_0 a1_1 a1_2 a2 a3) h (by kernel_rfl) (by kernel_rfl) (by kernel_rfl) rfl (by kernel_rfl) rfl rfl
def laws_FnExactNeededOn.x (k : Nat) : X:=fun ins bs κ=>match ins,bs with
 | [.ag [.row 0 .t72 a0_0],.ag [.row 0 .t87 a1_0,.row 0 .t101 a1_1,.sc (.int .i64 a1_2)],.sc (.int .i64 a2),.sc (.int .i64 a3)],[]=>(laws_FnExactNeededOn.f k a0_0 a1_0 a1_1 a1_2 a2 a3).bind fun r=>κ (laws_FnExactNeededOn.e r).1 (laws_FnExactNeededOn.e r).2.1 (laws_FnExactNeededOn.e r).2.2
 | _,_=>none
theorem laws_FnExactNeededOn.xok (k : Nat) : XOk 3 (laws_FnExactNeededOn.x k):=by
 intro ins bs κ res h;unfold laws_FnExactNeededOn.x at h
 split at h
 ·obtain ⟨r,hr,h⟩:=Option.bind_eq_some_iff.1 h;exact ⟨_,_,_,laws_FnExactNeededOn.con k _ _ _ _ _ _ r hr,h⟩
 cases h
end
end Go.Proofs.YtibhkbljjnlpjaaGreat.M2

namespace Go.Proofs.YtibhkbljjnlpjaaGreat.PK
open Go Go.RowKit Go.Proofs.YtibhkbljjnlpjaaGreatW.PrintWords Go.Proofs.YtibhkbljjnlpjaaGreatW.PrintLast Go.Proofs.YtibhkbljjnlpjaaGreatW.PrintMore
set_option linter.unusedVariables false
def sort_Ints.f (_ : Nat) (l0 : List Int) : Option (List Int):=if l0.length < 4611686018427387904 then some (l0.mergeSort fun x y=>decide (x ≤ y)) else none
def spec_l01Var.l0 : Nat → Int → List Int → Option (ByteArray)
 | 0,_,_=>none
 | k + 1,x0,x3=>if x0 > 127 then (if x3.length < 140737488355328 then (spec_l01Var.l0 k (wrap64 (Int.tdiv x0 128)) (x3 ++ [(wrap64 ((Int.tmod x0 128) + 128)) % 256])) else (none)) else (if x3.length < 140737488355328 then (some (strOfNums (x3 ++ [(x0) % 256]))) else (none))
def spec_l01Var.f (k : Nat) (a0 : Int) : Option (ByteArray):=spec_l01Var.l0 k a0 (([] : List Int))
def spec_l01In.f (a0 : Int) (a1 : Int) (a2 : Int) : Option (Bool):=if a0 ≥ a1 then (some (decide (a0 ≤ a2))) else (some false)
mutual
def spec_ReadVar.l0 : Nat → ByteArray → Int → Int → Int → Int → Option (Int × Int × Bool)
 | 0,_,_,_,_,_=>none
 | k + 1,x0,x1,x7,x8,x9=>if x9 < (x0.size : Int) then (spec_ReadVar.j1 k x0 x1 x7 x8 x9 (decide (x9 < (wrap64 (x1 + 5))))) else (spec_ReadVar.j1 k x0 x1 x7 x8 x9 false)
def spec_ReadVar.j1 : Nat → ByteArray → Int → Int → Int → Int → Bool → Option (Int × Int × Bool)
 | 0,_,_,_,_,_,_=>none
 | k + 1,x0,x1,x7,x8,x9,x25=>if x25 = true then (if 0 ≤ x9 then (if x9 < (x0.size : Int) then (if (bt x0 x9) < 128 then (if (wrap64 (x7 + (wrap64 ((Int.tmod (wrap64 (bt x0 x9)) 128) * x8)))) > 1000000000 then (some (0,0,false)) else ((spec_l01Var.f k (wrap64 (x7 + (wrap64 ((Int.tmod (wrap64 (bt x0 x9)) 128) * x8))))).bind fun t143=>(if 0 ≤ x1 then (if x1 ≤ (wrap64 (x9 + 1)) then (if (wrap64 (x9 + 1)) ≤ (x0.size : Int) then (if t143.toList = (x0.extract (x1 : Int).toNat ((wrap64 (x9 + 1)) : Int).toNat).toList then (some (wrap64 (x7 + (wrap64 ((Int.tmod (wrap64 (bt x0 x9)) 128) * x8))),wrap64 (x9 + 1),true)) else (some (0,0,false))) else (none)) else (none)) else (none)))) else (spec_ReadVar.l0 k x0 x1 (wrap64 (x7 + (wrap64 ((Int.tmod (wrap64 (bt x0 x9)) 128) * x8)))) (wrap64 (x8 * 128)) (wrap64 (x9 + 1)))) else (none)) else (none)) else (some (0,0,false))
end
def spec_ReadVar.f (k : Nat) (a0 : ByteArray) (a1 : Int) : Option (Int × Int × Bool):=(spec_l01In.f a1 0 (a0.size : Int)).bind fun t142=>(if t142 = true then (spec_ReadVar.l0 k a0 a1 0 1 a1) else (some (0,0,false)))
mutual
def impl_ReadVar.l0 : Nat → ByteArray → Int → Int → Int → Option (Int × Int × Bool)
 | 0,_,_,_,_=>none
 | k + 1,x0,x1,x7,x8=>if x8 < 5 then (if x1 ≥ 0 then (impl_ReadVar.j1 k x0 x1 x7 x8 (decide (x1 < (wrap64 ((x0.size : Int) - x8))))) else (impl_ReadVar.j1 k x0 x1 x7 x8 false)) else (impl_ReadVar.j1 k x0 x1 x7 x8 false)
def impl_ReadVar.j1 : Nat → ByteArray → Int → Int → Int → Bool → Option (Int × Int × Bool)
 | 0,_,_,_,_,_=>none
 | k + 1,x0,x1,x7,x8,x23=>if x23 = true then (if 0 ≤ (wrap64 (x1 + x8)) then (if (wrap64 (x1 + x8)) < (x0.size : Int) then (if 0 ≤ (wrap64 (7 * x8)) then (if (wrap64 (bt x0 (wrap64 (x1 + x8)))) ≥ 128 then (impl_ReadVar.l0 k x0 x1 (wrap64 (x7 + (shl .i64 (Int.tmod (wrap64 (bt x0 (wrap64 (x1 + x8)))) 128) (wrap64 (7 * x8))))) (wrap64 (x8 + 1))) else (if (wrap64 (bt x0 (wrap64 (x1 + x8)))) = 0 then (if x8 > 0 then (some (0,0,false)) else (if (wrap64 (x7 + (shl .i64 (Int.tmod (wrap64 (bt x0 (wrap64 (x1 + x8)))) 128) (wrap64 (7 * x8))))) > 1000000000 then (some (0,0,false)) else (some (wrap64 (x7 + (shl .i64 (Int.tmod (wrap64 (bt x0 (wrap64 (x1 + x8)))) 128) (wrap64 (7 * x8)))),wrap64 ((wrap64 (x1 + x8)) + 1),true)))) else (if (wrap64 (x7 + (shl .i64 (Int.tmod (wrap64 (bt x0 (wrap64 (x1 + x8)))) 128) (wrap64 (7 * x8))))) > 1000000000 then (some (0,0,false)) else (some (wrap64 (x7 + (shl .i64 (Int.tmod (wrap64 (bt x0 (wrap64 (x1 + x8)))) 128) (wrap64 (7 * x8)))),wrap64 ((wrap64 (x1 + x8)) + 1),true))))) else (none)) else (none)) else (none)) else (some (0,0,false))
end
def impl_ReadVar.f (k : Nat) (a0 : ByteArray) (a1 : Int) : Option (Int × Int × Bool):=impl_ReadVar.l0 k a0 a1 0 0
def laws_szLeaf.f (a0_0 : Int) (a0_1 : ByteArray) (a1 : Int) : Option (Int):=if (wrap64 (a1 - (a0_1.size : Int))) < 0 then (some (-1)) else (some (wrap64 (a1 - (a0_1.size : Int))))
def laws_szLeafS.l0 : Nat → List (S132) → Int → Int → Option (Int)
 | 0,_,_,_=>none
 | k + 1,x0,x1,x5=>if x5 < (x0.length : Int) then (if 0 ≤ x5 then ((laws_szLeaf.f ((rd_T132 x0 x5).f0) ((rd_T132 x0 x5).f1) x1).bind fun t103=>(if t103 < 0 then (some (-1)) else (laws_szLeafS.l0 k x0 t103 (wrap64 (x5 + 1))))) else (none)) else (some x1)
def laws_szLeafS.f (k : Nat) (l0 : List (S132)) (a1 : Int) : Option (Int):=if (wrap64 (a1 - (l0.length : Int))) < 0 then (some (-1)) else (laws_szLeafS.l0 k l0 (wrap64 (a1 - (l0.length : Int))) 0)
def laws_szBlock.f (k : Nat) (a0_0 : Bool) (a0_1 : Int) (l0_2 : List (S132)) (a1 : Int) : Option (Int):=(laws_szLeafS.f k l0_2 a1).bind fun t105=>(if t105 < 0 then (some (-1)) else (some t105))
def laws_szBlockS.l0 : Nat → List (S72) → Int → Int → Option (Int)
 | 0,_,_,_=>none
 | k + 1,x0,x1,x5=>if x5 < (x0.length : Int) then (if 0 ≤ x5 then ((laws_szBlock.f k ((rd_T72 x0 x5).f0) ((rd_T72 x0 x5).f1) ((rd_T72 x0 x5).f2) x1).bind fun t107=>(if t107 < 0 then (some (-1)) else (laws_szBlockS.l0 k x0 t107 (wrap64 (x5 + 1))))) else (none)) else (some x1)
def laws_szBlockS.f (k : Nat) (l0 : List (S72)) (a1 : Int) : Option (Int):=if (wrap64 (a1 - (l0.length : Int))) < 0 then (some (-1)) else (laws_szBlockS.l0 k l0 (wrap64 (a1 - (l0.length : Int))) 0)
def laws_szFlash.f (k : Nat) (l0_0 : List (S72)) (a1 : Int) : Option (Int):=(laws_szBlockS.f k l0_0 a1).bind fun t109=>(if t109 < 0 then (some (-1)) else (some t109))
def laws_toLeaf.f (a0_0 : Int) (a0_1 : ByteArray) : Option (Int × ByteArray):=some (a0_0,a0_1)
def laws_toLeafS.l0 : Nat → List (S132) → List (S92) → Int → Option ((List (S92)))
 | 0,_,_,_=>none
 | k + 1,x0,x3,x4=>if x4 < (x0.length : Int) then (if 0 ≤ x4 then ((laws_toLeaf.f ((rd_T132 x0 x4).f0) ((rd_T132 x0 x4).f1)).bind fun bt256=>(if x4 < (x3.length : Int) then (laws_toLeafS.l0 k x0 (x3.set (x4 : Int).toNat (⟨bt256.1,bt256.2⟩ : S92)) (wrap64 (x4 + 1))) else (none))) else (none)) else (some x3)
def laws_toLeafS.f (k : Nat) (l0 : List (S132)) : Option ((List (S92))):=if 0 ≤ (l0.length : Int) then (if ((l0.length : Int) : Int).toNat ≤ 11728124029610 then (laws_toLeafS.l0 k l0 (List.replicate ((l0.length : Int) : Int).toNat z92) 0) else (none)) else (none)
def laws_toBlock.f (k : Nat) (a0_0 : Bool) (a0_1 : Int) (l0_2 : List (S132)) : Option (Bool × Int × (List (S92))):=(laws_toLeafS.f k l0_2).bind fun t262=>(some (a0_0,a0_1,t262))
def laws_toBlockS.l0 : Nat → List (S72) → List (S76) → Int → Option ((List (S76)))
 | 0,_,_,_=>none
 | k + 1,x0,x3,x4=>if x4 < (x0.length : Int) then (if 0 ≤ x4 then ((laws_toBlock.f k ((rd_T72 x0 x4).f0) ((rd_T72 x0 x4).f1) ((rd_T72 x0 x4).f2)).bind fun bt269=>(if x4 < (x3.length : Int) then (laws_toBlockS.l0 k x0 (x3.set (x4 : Int).toNat (⟨bt269.1,bt269.2.1,bt269.2.2⟩ : S76)) (wrap64 (x4 + 1))) else (none))) else (none)) else (some x3)
def laws_toBlockS.f (k : Nat) (l0 : List (S72)) : Option ((List (S76))):=if 0 ≤ (l0.length : Int) then (if ((l0.length : Int) : Int).toNat ≤ 7036874417766 then (laws_toBlockS.l0 k l0 (List.replicate ((l0.length : Int) : Int).toNat z76) 0) else (none)) else (none)
def laws_toFlash.f (k : Nat) (l0_0 : List (S72)) : Option ((List (S76))):=(laws_toBlockS.f k l0_0).bind fun t278=>(some t278)
def laws_eqLeaf.f (a0_0 : Int) (a0_1 : ByteArray) (a1_0 : Int) (a1_1 : ByteArray) : Option (Bool):=if a0_0 = a1_0 then (if a0_1.toList = a1_1.toList then (some true) else (some false)) else (some false)
def laws_eqLeafS.l0 : Nat → List (S92) → List (S92) → Int → Option (Bool)
 | 0,_,_,_=>none
 | k + 1,x0,x1,x5=>if x5 < (x0.length : Int) then (if 0 ≤ x5 then (if x5 < (x1.length : Int) then ((laws_eqLeaf.f ((rd_T92 x0 x5).f0) ((rd_T92 x0 x5).f1) ((rd_T92 x1 x5).f0) ((rd_T92 x1 x5).f1)).bind fun t524=>(if t524 = true then (laws_eqLeafS.l0 k x0 x1 (wrap64 (x5 + 1))) else (some false))) else (none)) else (none)) else (some true)
def laws_eqLeafS.f (k : Nat) (l0 : List (S92)) (l1 : List (S92)) : Option (Bool):=if (l0.length : Int) = (l1.length : Int) then (laws_eqLeafS.l0 k l0 l1 0) else (some false)
def laws_eqBlock.f (k : Nat) (a0_0 : Bool) (a0_1 : Int) (l0_2 : List (S92)) (a1_0 : Bool) (a1_1 : Int) (l1_2 : List (S92)) : Option (Bool):=if (a0_0 != a1_0) = true then (some false) else (if a0_1 = a1_1 then ((laws_eqLeafS.f k l0_2 l1_2).bind fun t527=>(if t527 = true then (some true) else (some false))) else (some false))
def laws_eqBlockS.l0 : Nat → List (S76) → List (S76) → Int → Option (Bool)
 | 0,_,_,_=>none
 | k + 1,x0,x1,x5=>if x5 < (x0.length : Int) then (if 0 ≤ x5 then (if x5 < (x1.length : Int) then ((laws_eqBlock.f k ((rd_T76 x0 x5).f0) ((rd_T76 x0 x5).f1) ((rd_T76 x0 x5).f2) ((rd_T76 x1 x5).f0) ((rd_T76 x1 x5).f1) ((rd_T76 x1 x5).f2)).bind fun t530=>(if t530 = true then (laws_eqBlockS.l0 k x0 x1 (wrap64 (x5 + 1))) else (some false))) else (none)) else (none)) else (some true)
def laws_eqBlockS.f (k : Nat) (l0 : List (S76)) (l1 : List (S76)) : Option (Bool):=if (l0.length : Int) = (l1.length : Int) then (laws_eqBlockS.l0 k l0 l1 0) else (some false)
def laws_eqFlash.f (k : Nat) (l0_0 : List (S76)) (l1_0 : List (S76)) : Option (Bool):=(laws_eqBlockS.f k l0_0 l1_0).bind fun t533=>(if t533 = true then (some true) else (some false))
def laws_szVolS.f (l0 : List (S87)) (a1 : Int) : Option (Int):=if (wrap64 (a1 - (l0.length : Int))) < 0 then (some (-1)) else (some (wrap64 (a1 - (l0.length : Int))))
def laws_szIntS.f (l0 : List Int) (a1 : Int) : Option (Int):=if (wrap64 (a1 - (l0.length : Int))) < 0 then (some (-1)) else (some (wrap64 (a1 - (l0.length : Int))))
def laws_szKnot.f (a0_0 : Bool) (l0_1 : List Int) (a1 : Int) : Option (Int):=(laws_szIntS.f l0_1 a1).bind fun t111=>(if t111 < 0 then (some (-1)) else (some t111))
def laws_szKnotS.l0 : Nat → List (S101) → Int → Int → Option (Int)
 | 0,_,_,_=>none
 | k + 1,x0,x1,x5=>if x5 < (x0.length : Int) then (if 0 ≤ x5 then ((laws_szKnot.f ((rd_T101 x0 x5).f0) ((rd_T101 x0 x5).f1) x1).bind fun t113=>(if t113 < 0 then (some (-1)) else (laws_szKnotS.l0 k x0 t113 (wrap64 (x5 + 1))))) else (none)) else (some x1)
def laws_szKnotS.f (k : Nat) (l0 : List (S101)) (a1 : Int) : Option (Int):=if (wrap64 (a1 - (l0.length : Int))) < 0 then (some (-1)) else (laws_szKnotS.l0 k l0 (wrap64 (a1 - (l0.length : Int))) 0)
def laws_szArena.f (k : Nat) (l0_0 : List (S101)) (a1 : Int) : Option (Int):=(laws_szKnotS.f k l0_0 a1).bind fun t115=>(if t115 < 0 then (some (-1)) else (some t115))
def laws_szStore.f (k : Nat) (l0_0 : List (S87)) (l0_1 : List (S101)) (a0_2 : Int) (a1 : Int) : Option (Int):=(laws_szVolS.f l0_0 a1).bind fun t117=>(if t117 < 0 then (some (-1)) else ((laws_szArena.f k l0_1 t117).bind fun t118=>(if t118 < 0 then (some (-1)) else (some t118))))
def laws_toVol.f (a0_0 : Int) (a0_1 : Int) : Option (Int × Int):=some (a0_0,a0_1)
def laws_toVolS.l0 : Nat → List (S87) → List (S83) → Int → Option ((List (S83)))
 | 0,_,_,_=>none
 | k + 1,x0,x3,x4=>if x4 < (x0.length : Int) then (if 0 ≤ x4 then ((laws_toVol.f ((rd_T87 x0 x4).f0) ((rd_T87 x0 x4).f1)).bind fun bt288=>(if x4 < (x3.length : Int) then (laws_toVolS.l0 k x0 (x3.set (x4 : Int).toNat (⟨bt288.1,bt288.2⟩ : S83)) (wrap64 (x4 + 1))) else (none))) else (none)) else (some x3)
def laws_toVolS.f (k : Nat) (l0 : List (S87)) : Option ((List (S83))):=if 0 ≤ (l0.length : Int) then (if ((l0.length : Int) : Int).toNat ≤ 17592186044416 then (laws_toVolS.l0 k l0 (List.replicate ((l0.length : Int) : Int).toNat z83) 0) else (none)) else (none)
def laws_toIntS.l0 : Nat → List Int → List Int → Int → Option (List Int)
 | 0,_,_,_=>none
 | k + 1,x0,x3,x4=>if x4 < (x0.length : Int) then (if 0 ≤ x4 then (if x4 < (x3.length : Int) then (laws_toIntS.l0 k x0 (x3.set (x4 : Int).toNat (rd x0 x4)) (wrap64 (x4 + 1))) else (none)) else (none)) else (some x3)
def laws_toIntS.f (k : Nat) (l0 : List Int) : Option (List Int):=if 0 ≤ (l0.length : Int) then (if ((l0.length : Int) : Int).toNat ≤ 35184372088832 then (laws_toIntS.l0 k l0 (List.replicate ((l0.length : Int) : Int).toNat 0) 0) else (none)) else (none)
def laws_toKnot.f (k : Nat) (a0_0 : Bool) (l0_1 : List Int) : Option (Bool × List Int):=(laws_toIntS.f k l0_1).bind fun t299=>(some (a0_0,t299))
def laws_toKnotS.l0 : Nat → List (S101) → List (S111) → Int → Option ((List (S111)))
 | 0,_,_,_=>none
 | k + 1,x0,x3,x4=>if x4 < (x0.length : Int) then (if 0 ≤ x4 then ((laws_toKnot.f k ((rd_T101 x0 x4).f0) ((rd_T101 x0 x4).f1)).bind fun bt306=>(if x4 < (x3.length : Int) then (laws_toKnotS.l0 k x0 (x3.set (x4 : Int).toNat (⟨bt306.1,bt306.2⟩ : S111)) (wrap64 (x4 + 1))) else (none))) else (none)) else (some x3)
def laws_toKnotS.f (k : Nat) (l0 : List (S101)) : Option ((List (S111))):=if 0 ≤ (l0.length : Int) then (if ((l0.length : Int) : Int).toNat ≤ 8796093022208 then (laws_toKnotS.l0 k l0 (List.replicate ((l0.length : Int) : Int).toNat z111) 0) else (none)) else (none)
def laws_toArena.f (k : Nat) (l0_0 : List (S101)) : Option ((List (S111))):=(laws_toKnotS.f k l0_0).bind fun t314=>(some t314)
def laws_toStore.f (k : Nat) (l0_0 : List (S87)) (l0_1 : List (S101)) (a0_2 : Int) : Option ((List (S83)) × (List (S111)) × Int):=(laws_toVolS.f k l0_0).bind fun t320=>((laws_toArena.f k l0_1).bind fun t323=>(some (t320,t323,a0_2)))
def laws_eqVol.f (a0_0 : Int) (a0_1 : Int) (a1_0 : Int) (a1_1 : Int) : Option (Bool):=if a0_0 = a1_0 then (if a0_1 = a1_1 then (some true) else (some false)) else (some false)
def laws_eqVolS.l0 : Nat → List (S83) → List (S83) → Int → Option (Bool)
 | 0,_,_,_=>none
 | k + 1,x0,x1,x5=>if x5 < (x0.length : Int) then (if 0 ≤ x5 then (if x5 < (x1.length : Int) then ((laws_eqVol.f ((rd_T83 x0 x5).f0) ((rd_T83 x0 x5).f1) ((rd_T83 x1 x5).f0) ((rd_T83 x1 x5).f1)).bind fun t538=>(if t538 = true then (laws_eqVolS.l0 k x0 x1 (wrap64 (x5 + 1))) else (some false))) else (none)) else (none)) else (some true)
def laws_eqVolS.f (k : Nat) (l0 : List (S83)) (l1 : List (S83)) : Option (Bool):=if (l0.length : Int) = (l1.length : Int) then (laws_eqVolS.l0 k l0 l1 0) else (some false)
def laws_eqIntS.l0 : Nat → List Int → List Int → Int → Option (Bool)
 | 0,_,_,_=>none
 | k + 1,x0,x1,x5=>if x5 < (x0.length : Int) then (if 0 ≤ x5 then (if x5 < (x1.length : Int) then (if (rd x0 x5) = (rd x1 x5) then (laws_eqIntS.l0 k x0 x1 (wrap64 (x5 + 1))) else (some false)) else (none)) else (none)) else (some true)
def laws_eqIntS.f (k : Nat) (l0 : List Int) (l1 : List Int) : Option (Bool):=if (l0.length : Int) = (l1.length : Int) then (laws_eqIntS.l0 k l0 l1 0) else (some false)
def laws_eqKnot.f (k : Nat) (a0_0 : Bool) (l0_1 : List Int) (a1_0 : Bool) (l1_1 : List Int) : Option (Bool):=if (a0_0 != a1_0) = true then (some false) else ((laws_eqIntS.f k l0_1 l1_1).bind fun t543=>(if t543 = true then (some true) else (some false)))
def laws_eqKnotS.l0 : Nat → List (S111) → List (S111) → Int → Option (Bool)
 | 0,_,_,_=>none
 | k + 1,x0,x1,x5=>if x5 < (x0.length : Int) then (if 0 ≤ x5 then (if x5 < (x1.length : Int) then ((laws_eqKnot.f k ((rd_T111 x0 x5).f0) ((rd_T111 x0 x5).f1) ((rd_T111 x1 x5).f0) ((rd_T111 x1 x5).f1)).bind fun t546=>(if t546 = true then (laws_eqKnotS.l0 k x0 x1 (wrap64 (x5 + 1))) else (some false))) else (none)) else (none)) else (some true)
def laws_eqKnotS.f (k : Nat) (l0 : List (S111)) (l1 : List (S111)) : Option (Bool):=if (l0.length : Int) = (l1.length : Int) then (laws_eqKnotS.l0 k l0 l1 0) else (some false)
def laws_eqArena.f (k : Nat) (l0_0 : List (S111)) (l1_0 : List (S111)) : Option (Bool):=(laws_eqKnotS.f k l0_0 l1_0).bind fun t549=>(if t549 = true then (some true) else (some false))
def laws_eqStore.f (k : Nat) (l0_0 : List (S83)) (l0_1 : List (S111)) (a0_2 : Int) (l1_0 : List (S83)) (l1_1 : List (S111)) (a1_2 : Int) : Option (Bool):=(laws_eqVolS.f k l0_0 l1_0).bind fun t552=>(if t552 = true then ((laws_eqArena.f k l0_1 l1_1).bind fun t553=>(if t553 = true then (if a0_2 = a1_2 then (some true) else (some false)) else (some false))) else (some false))
mutual
def spec_ArenaOk.l0 : Nat → Int → List (S111) → Option (Bool)
 | 0,_,_=>none
 | k + 1,x3,x193000=>if x3 < (x193000.length : Int) then (if 0 ≤ x3 then (if (((rd_T111 x193000 x3).f1).length : Int) = 4 then (spec_ArenaOk.l1 k x3 0 x193000 ((rd_T111 x193000 x3).f0) ((rd_T111 x193000 x3).f1)) else (some false)) else (none)) else (some true)
def spec_ArenaOk.l1 : Nat → Int → Int → List (S111) → Bool → List Int → Option (Bool)
 | 0,_,_,_,_,_=>none
 | k + 1,x3,x5,x193000,x195000,x195001=>if x5 < 4 then (if 0 ≤ x5 then (if x5 < (x195001.length : Int) then (if x195000 = true then (if (rd x195001 x5) < 0 then (some false) else (spec_ArenaOk.l1 k x3 (wrap64 (x5 + 1)) x193000 x195000 x195001)) else (if (rd x195001 x5) = (-1) then (spec_ArenaOk.l1 k x3 (wrap64 (x5 + 1)) x193000 x195000 x195001) else ((spec_l01In.f (rd x195001 x5) 0 (wrap64 (x3 - 1))).bind fun t196=>(if t196 = true then (if 0 ≤ (rd x195001 x5) then (if (rd x195001 x5) < (x193000.length : Int) then (if ((rd_T111 x193000 (rd x195001 x5)).f0 = true) then (spec_ArenaOk.l1 k x3 (wrap64 (x5 + 1)) x193000 x195000 x195001) else (some false)) else (none)) else (none)) else (some false))))) else (none)) else (none)) else (spec_ArenaOk.l0 k (wrap64 (x3 + 1)) x193000)
end
def spec_ArenaOk.f (k : Nat) (l0_0 : List (S111)) : Option (Bool):=spec_ArenaOk.l0 k 0 l0_0
def spec_l11Root.f (l0_0 : List (S111)) (a1 : Int) : Option (Bool):=if a1 = (-1) then (some true) else ((spec_l01In.f a1 0 (wrap64 ((l0_0.length : Int) - 1))).bind fun t199=>(if t199 = true then (if 0 ≤ a1 then (if a1 < (l0_0.length : Int) then (some (!((rd_T111 l0_0 a1).f0))) else (none)) else (none)) else (some false)))
def spec_l11Get.f (l0_0 : List (S111)) (a1 : Int) (a2 : Int) : Option (Int):=if a1 < 0 then (some 0) else (if 0 ≤ a1 then (if a1 < (l0_0.length : Int) then (if 0 ≤ (wrap64 (Int.tdiv a2 4)) then (if (wrap64 (Int.tdiv a2 4)) < (((rd_T111 l0_0 a1).f1).length : Int) then (if (rd ((rd_T111 l0_0 a1).f1) (wrap64 (Int.tdiv a2 4))) < 0 then (some 0) else (if 0 ≤ (rd ((rd_T111 l0_0 a1).f1) (wrap64 (Int.tdiv a2 4))) then (if (rd ((rd_T111 l0_0 a1).f1) (wrap64 (Int.tdiv a2 4))) < (l0_0.length : Int) then (if 0 ≤ (Int.tmod a2 4) then (if (Int.tmod a2 4) < (((rd_T111 l0_0 (rd ((rd_T111 l0_0 a1).f1) (wrap64 (Int.tdiv a2 4)))).f1).length : Int) then (some (rd ((rd_T111 l0_0 (rd ((rd_T111 l0_0 a1).f1) (wrap64 (Int.tdiv a2 4)))).f1) (Int.tmod a2 4))) else (none)) else (none)) else (none)) else (none))) else (none)) else (none)) else (none)) else (none))
def spec_GetAt.f (k : Nat) (l0_0 : List (S111)) (a1 : Int) (a2 : Int) : Option (Int):=(spec_ArenaOk.f k l0_0).bind fun t207=>(if t207 = true then ((spec_l11Root.f l0_0 a1).bind fun t208=>(if t208 = true then ((spec_l01In.f a2 0 15).bind fun t209=>(if t209 = true then ((spec_l11Get.f l0_0 a1 a2).bind fun t210=>(some t210)) else (some 0))) else (some 0))) else (some 0))
def spec_AllAt.l0 : Nat → Int → List Int → Int → List (S111) → Option (List Int)
 | 0,_,_,_,_=>none
 | k + 1,x1,x5,x6,x212000=>if x6 < 16 then ((spec_GetAt.f k x212000 x1 x6).bind fun t215=>(if x5.length < 17592186044416 then (spec_AllAt.l0 k x1 (x5 ++ [t215]) (wrap64 (x6 + 1)) x212000) else (none))) else (some x5)
def spec_AllAt.f (k : Nat) (l0_0 : List (S111)) (a1 : Int) : Option (List Int):=spec_AllAt.l0 k a1 (([] : List Int)) 0 l0_0
mutual
def spec_l12Insert.l0 : Nat → List Int → Int → List Int → Int → Option (List Int)
 | 0,_,_,_,_=>none
 | k + 1,x0,x1,x5,x6=>if x6 < (x0.length : Int) then (if 0 ≤ x6 then (if (rd x0 x6) < x1 then (if x5.length < 17592186044416 then (spec_l12Insert.l0 k x0 x1 (x5 ++ [rd x0 x6]) (wrap64 (x6 + 1))) else (none)) else (spec_l12Insert.l0 k x0 x1 x5 (wrap64 (x6 + 1)))) else (none)) else (if x1 > 0 then (if x5.length < 17592186044416 then (spec_l12Insert.j1 k x0 x1 (x5 ++ [x1])) else (none)) else (spec_l12Insert.j1 k x0 x1 x5))
def spec_l12Insert.j1 : Nat → List Int → Int → List Int → Option (List Int)
 | 0,_,_,_=>none
 | k + 1,x0,x1,x5=>spec_l12Insert.l1 k x0 x1 x5 0
def spec_l12Insert.l1 : Nat → List Int → Int → List Int → Int → Option (List Int)
 | 0,_,_,_,_=>none
 | k + 1,x0,x1,x5,x7=>if x7 < (x0.length : Int) then (if 0 ≤ x7 then (if (rd x0 x7) > x1 then (if x5.length < 17592186044416 then (spec_l12Insert.l1 k x0 x1 (x5 ++ [rd x0 x7]) (wrap64 (x7 + 1))) else (none)) else (spec_l12Insert.l1 k x0 x1 x5 (wrap64 (x7 + 1)))) else (none)) else (some x5)
end
def spec_l12Insert.f (k : Nat) (l0 : List Int) (a1 : Int) : Option (List Int):=spec_l12Insert.l0 k l0 a1 (([] : List Int)) 0
mutual
def spec_LiveOf.l0 : Nat → List Int → Int → List (S83) → List (S111) → Int → Option (List Int)
 | 0,_,_,_,_,_=>none
 | k + 1,x3,x4,x236000,x236001,x236002=>if x4 < (x236000.length : Int) then (if 0 ≤ x4 then ((spec_AllAt.f k x236001 ((rd_T83 x236000 x4).f1)).bind fun t240=>(spec_LiveOf.l1 k x3 x4 t240 0 x236000 x236001 x236002)) else (none)) else (some x3)
def spec_LiveOf.l1 : Nat → List Int → Int → List Int → Int → List (S83) → List (S111) → Int → Option (List Int)
 | 0,_,_,_,_,_,_,_=>none
 | k + 1,x3,x4,x5,x6,x236000,x236001,x236002=>if x6 < (x5.length : Int) then (if 0 ≤ x6 then ((spec_l12Insert.f k x3 (rd x5 x6)).bind fun t244=>(spec_LiveOf.l1 k t244 x4 x5 (wrap64 (x6 + 1)) x236000 x236001 x236002)) else (none)) else (spec_LiveOf.l0 k x3 (wrap64 (x4 + 1)) x236000 x236001 x236002)
end
def spec_LiveOf.f (k : Nat) (l0_0 : List (S83)) (l0_1 : List (S111)) (a0_2 : Int) : Option (List Int):=spec_LiveOf.l0 k (([] : List Int)) 0 l0_0 l0_1 a0_2
def impl_in.f (a0 : Int) (a1 : Int) (a2 : Int) : Option (Bool):=if a0 ≥ a1 then (some (decide (a0 ≤ a2))) else (some false)
def impl_isRoot.f (l0_0 : List (S111)) (a1 : Int) : Option (Bool):=(impl_in.f a1 0 (wrap64 ((l0_0.length : Int) - 1))).bind fun t327=>(if t327 = true then (if 0 ≤ a1 then (if a1 < (l0_0.length : Int) then (some (!((rd_T111 l0_0 a1).f0))) else (none)) else (none)) else (some false))
mutual
def impl_ArenaOk.l0 : Nat → List (S111) → Int → Int → List (S111) → Option (Bool)
 | 0,_,_,_,_=>none
 | k + 1,x8,x9,x10,x330000=>if x10 < x9 then (if 0 ≤ x10 then (if x10 < (x8.length : Int) then (if (((rd_T111 x8 x10).f1).length : Int) = 4 then (impl_ArenaOk.l1 k x10 x8 x9 x10 ((rd_T111 x8 x10).f1) (((rd_T111 x8 x10).f1).length : Int) 0 x330000 ((rd_T111 x8 x10).f0) ((rd_T111 x8 x10).f1)) else (some false)) else (none)) else (none)) else (some true)
def impl_ArenaOk.l1 : Nat → Int → List (S111) → Int → Int → List Int → Int → Int → List (S111) → Bool → List Int → Option (Bool)
 | 0,_,_,_,_,_,_,_,_,_,_=>none
 | k + 1,x3,x8,x9,x10,x20,x21,x22,x330000,x332000,x332001=>if x22 < x21 then (if 0 ≤ x22 then (if x22 < (x20.length : Int) then (if x332000 = true then (if (rd x20 x22) < 0 then (some false) else (impl_ArenaOk.l1 k x3 x8 x9 x10 x20 x21 (wrap64 (x22 + 1)) x330000 x332000 x332001)) else (if (rd x20 x22) = (-1) then (impl_ArenaOk.l1 k x3 x8 x9 x10 x20 x21 (wrap64 (x22 + 1)) x330000 x332000 x332001) else ((impl_in.f (rd x20 x22) 0 (wrap64 (x3 - 1))).bind fun t333=>(if t333 = true then (if 0 ≤ (rd x20 x22) then (if (rd x20 x22) < (x330000.length : Int) then (if ((rd_T111 x330000 (rd x20 x22)).f0 = true) then (impl_ArenaOk.l1 k x3 x8 x9 x10 x20 x21 (wrap64 (x22 + 1)) x330000 x332000 x332001) else (some false)) else (none)) else (none)) else (some false))))) else (none)) else (none)) else (impl_ArenaOk.l0 k x8 x9 (wrap64 (x10 + 1)) x330000)
end
def impl_ArenaOk.f (k : Nat) (l0_0 : List (S111)) : Option (Bool):=impl_ArenaOk.l0 k l0_0 (l0_0.length : Int) 0 l0_0
def impl_numberAt.f (l0_0 : List (S111)) (a1 : Int) (a2 : Int) : Option (Int):=if 0 ≤ a1 then (if a1 < (l0_0.length : Int) then (if 0 ≤ (wrap64 (Int.tdiv a2 4)) then (if (wrap64 (Int.tdiv a2 4)) < (((rd_T111 l0_0 a1).f1).length : Int) then (if (rd ((rd_T111 l0_0 a1).f1) (wrap64 (Int.tdiv a2 4))) < 0 then (some 0) else (if 0 ≤ (rd ((rd_T111 l0_0 a1).f1) (wrap64 (Int.tdiv a2 4))) then (if (rd ((rd_T111 l0_0 a1).f1) (wrap64 (Int.tdiv a2 4))) < (l0_0.length : Int) then (if 0 ≤ (Int.tmod a2 4) then (if (Int.tmod a2 4) < (((rd_T111 l0_0 (rd ((rd_T111 l0_0 a1).f1) (wrap64 (Int.tdiv a2 4)))).f1).length : Int) then (some (rd ((rd_T111 l0_0 (rd ((rd_T111 l0_0 a1).f1) (wrap64 (Int.tdiv a2 4)))).f1) (Int.tmod a2 4))) else (none)) else (none)) else (none)) else (none))) else (none)) else (none)) else (none)) else (none)
def impl_GetAt.f (k : Nat) (l0_0 : List (S111)) (a1 : Int) (a2 : Int) : Option (Int):=(impl_in.f a2 0 15).bind fun t341=>(if t341 = true then ((impl_isRoot.f l0_0 a1).bind fun t342=>(if t342 = true then ((impl_ArenaOk.f k l0_0).bind fun t343=>(if t343 = true then ((impl_numberAt.f l0_0 a1 a2).bind fun t344=>(some t344)) else (some 0))) else (some 0))) else (some 0))
def impl_AllAt.l0 : Nat → Int → List Int → Int → List (S111) → Option (List Int)
 | 0,_,_,_,_=>none
 | k + 1,x1,x5,x7,x346000=>if x7 < 16 then ((impl_GetAt.f k x346000 x1 x7).bind fun t346=>(if x5.length < 17592186044416 then (impl_AllAt.l0 k x1 (x5 ++ [t346]) (wrap64 (x7 + 1)) x346000) else (none))) else (some x5)
def impl_AllAt.f (k : Nat) (l0_0 : List (S111)) (a1 : Int) : Option (List Int):=impl_AllAt.l0 k a1 ([] : List Int) 0 l0_0
mutual
def impl_chunksOf.l0 : Nat → List Int → List (S83) → Int → Int → List (S83) → List (S111) → Int → Option (List Int)
 | 0,_,_,_,_,_,_,_=>none
 | k + 1,x3,x9,x10,x11,x351000,x351001,x351002=>if x11 < x10 then (if 0 ≤ x11 then (if x11 < (x9.length : Int) then ((impl_AllAt.f k x351001 ((rd_T83 x9 x11).f1)).bind fun t353=>(impl_chunksOf.l1 k x3 x9 x10 x11 t353 (t353.length : Int) 0 x351000 x351001 x351002)) else (none)) else (none)) else (some x3)
def impl_chunksOf.l1 : Nat → List Int → List (S83) → Int → Int → List Int → Int → Int → List (S83) → List (S111) → Int → Option (List Int)
 | 0,_,_,_,_,_,_,_,_,_,_=>none
 | k + 1,x3,x9,x10,x11,x19,x20,x21,x351000,x351001,x351002=>if x21 < x20 then (if 0 ≤ x21 then (if x21 < (x19.length : Int) then (if (rd x19 x21) > 0 then (if x3.length < 17592186044416 then (impl_chunksOf.l1 k (x3 ++ [rd x19 x21]) x9 x10 x11 x19 x20 (wrap64 (x21 + 1)) x351000 x351001 x351002) else (none)) else (impl_chunksOf.l1 k x3 x9 x10 x11 x19 x20 (wrap64 (x21 + 1)) x351000 x351001 x351002)) else (none)) else (none)) else (impl_chunksOf.l0 k x3 x9 x10 (wrap64 (x11 + 1)) x351000 x351001 x351002)
end
def impl_chunksOf.f (k : Nat) (l0_0 : List (S83)) (l0_1 : List (S111)) (a0_2 : Int) : Option (List Int):=impl_chunksOf.l0 k ([] : List Int) l0_0 (l0_0.length : Int) 0 l0_0 l0_1 a0_2
def impl_LiveOf.l0 : Nat → List Int → List Int → List Int → Int → Int → Option (List Int)
 | 0,_,_,_,_,_=>none
 | k + 1,x3,x4,x11,x12,x13=>if x13 < x12 then (if 0 ≤ x13 then (if x13 < (x11.length : Int) then (if x13 = 0 then (if x4.length < 17592186044416 then (impl_LiveOf.l0 k x3 (x4 ++ [rd x11 x13]) x11 x12 (wrap64 (x13 + 1))) else (none)) else (if 0 ≤ (wrap64 (x13 - 1)) then (if (wrap64 (x13 - 1)) < (x3.length : Int) then (if (rd x3 (wrap64 (x13 - 1))) = (rd x11 x13) then (impl_LiveOf.l0 k x3 x4 x11 x12 (wrap64 (x13 + 1))) else (if x4.length < 17592186044416 then (impl_LiveOf.l0 k x3 (x4 ++ [rd x11 x13]) x11 x12 (wrap64 (x13 + 1))) else (none))) else (none)) else (none))) else (none)) else (none)) else (some x4)
def impl_LiveOf.f (k : Nat) (l0_0 : List (S83)) (l0_1 : List (S111)) (a0_2 : Int) : Option (List Int):=(impl_chunksOf.f k l0_0 l0_1 a0_2).bind fun t481=>((sort_Ints.f k t481).bind fun t484=>(impl_LiveOf.l0 k t484 ([] : List Int) t484 (t481.length : Int) 0))
end Go.Proofs.YtibhkbljjnlpjaaGreat.PK

namespace Go.Proofs.YtibhkbljjnlpjaaGreat.M2
open Go Go.RowKit Go.Proofs.YtibhkbljjnlpjaaGreatW.PrintWords Go.Proofs.YtibhkbljjnlpjaaGreat.PK
theorem w64_eq (n : Int) : w64 n = wrap64 n:=IntWalk.i64_left n
theorem wu8_eq (n : Int) : Go.IntKind.wrap .u8 n = n % 256:=by simp [IntKind.wrap,IntKind.signed,IntKind.bits]
theorem int_beq (a b : Int) : (a == b) = decide (a = b):=rfl
theorem emp_eq : (⟨#[]⟩ : ByteArray).toList = []:=by kernel_rfl
theorem itE {α : Type} {c : Prop} [Decidable c] {a b : Option α} {r : α} {G : Prop} (h : (if c then a else b) = some r) (x : c → a = some r → G) (y : ¬ c → b = some r → G) : G:=by
 by_cases hc : c
 ·rw [if_pos hc] at h;exact x hc h
 rw [if_neg hc] at h;exact y hc h
theorem bnE {α β : Type} {o : Option α} {f : α → Option β} {r : β} {G : Prop} (h : o.bind f = some r) (x : ∀ t,o = some t → f t = some r → G) : G:=by
 obtain ⟨t,h1,h2⟩:=Option.bind_eq_some_iff.1 h;exact x t h1 h2
theorem noE {α : Type} {r : α} {G : Prop} (h : none = some r) : G:=by cases h
theorem sort_Ints.rel (k : Nat) (l : List Int) (r : List Int) (h : PK.sort_Ints.f k l = some r) (m : Nat) (_ : k ≤ m) : sort_Ints.f m l = some r:=h
theorem sort_Ints.len {k : Nat} {l r : List Int} (h : sort_Ints.f k l = some r) : r.length = l.length:=by
 unfold sort_Ints.f at h;split at h
 ·injection h with h;rw [← h];exact List.length_mergeSort l
 cases h
theorem fdiv33 (a : Int) : Int.fdiv a 8589934592 = a / 8589934592:=Int.fdiv_eq_ediv_of_nonneg a (by decide)
theorem fdiv45 (a : Int) : Int.fdiv a 35184372088832 = a / 35184372088832:=Int.fdiv_eq_ediv_of_nonneg a (by decide)
theorem shlR (x y : Int) : w64 (x * 2 ^ (min y.toNat 64)) = Go.Proofs.YtibhkbljjnlpjaaGreatW.PrintWords.shl .i64 x y:=rfl
theorem bt_eq (s : ByteArray) (i : Int) : bt s i = Go.Proofs.YtibhkbljjnlpjaaGreatW.PrintWords.bt s i:=rfl
theorem tmodN (n : Nat) (k : Int) : Int.tmod (n : Int) k = (n : Int) % k:=Int.tmod_eq_emod_of_nonneg (Int.natCast_nonneg n)
theorem rdOfB (a b : Int) : (a - b < 0) = (a < b):=by simp only [eq_iff_iff];omega
theorem rdOfL (l : List Bool) (i : Int) : rdOf false l i = rd_T4 l i:=rfl
theorem rdT3_eq (l : List Int) (i : Int) : rd_T3 l i = rd l i:=rfl
theorem rdT5_eq (l : List Int) (i : Int) : rd_T5 l i = rd l i:=rfl
theorem rdn3 (l : List Int) (i : Int) : rd_T3 l ((i.toNat : Nat) : Int) = rd_T3 l i:=rfl
theorem rdset3 (l : List Int) (i : Int) (y : Int) (h : i < (l.length : Int)) (h0 : 0 ≤ i) : rd_T3 (l.set i.toNat y) i = y:=by
 unfold rd_T3;rw [List.getD_eq_getElem?_getD,List.getElem?_set_self (by omega)];rfl
theorem rdn132 (l : List S132) (i : Int) : rd_T132 l ((i.toNat : Nat) : Int) = rd_T132 l i:=rfl
theorem rdset132 (l : List S132) (i : Int) (y : S132) (h : i < (l.length : Int)) (h0 : 0 ≤ i) : rd_T132 (l.set i.toNat y) i = y:=by
 unfold rd_T132;rw [List.getD_eq_getElem?_getD,List.getElem?_set_self (by omega)];rfl
theorem rdn72 (l : List S72) (i : Int) : rd_T72 l ((i.toNat : Nat) : Int) = rd_T72 l i:=rfl
theorem rdset72 (l : List S72) (i : Int) (y : S72) (h : i < (l.length : Int)) (h0 : 0 ≤ i) : rd_T72 (l.set i.toNat y) i = y:=by
 unfold rd_T72;rw [List.getD_eq_getElem?_getD,List.getElem?_set_self (by omega)];rfl
theorem rdn87 (l : List S87) (i : Int) : rd_T87 l ((i.toNat : Nat) : Int) = rd_T87 l i:=rfl
theorem rdset87 (l : List S87) (i : Int) (y : S87) (h : i < (l.length : Int)) (h0 : 0 ≤ i) : rd_T87 (l.set i.toNat y) i = y:=by
 unfold rd_T87;rw [List.getD_eq_getElem?_getD,List.getElem?_set_self (by omega)];rfl
theorem rdn101 (l : List S101) (i : Int) : rd_T101 l ((i.toNat : Nat) : Int) = rd_T101 l i:=rfl
theorem rdset101 (l : List S101) (i : Int) (y : S101) (h : i < (l.length : Int)) (h0 : 0 ≤ i) : rd_T101 (l.set i.toNat y) i = y:=by
 unfold rd_T101;rw [List.getD_eq_getElem?_getD,List.getElem?_set_self (by omega)];rfl
theorem rdn92 (l : List S92) (i : Int) : rd_T92 l ((i.toNat : Nat) : Int) = rd_T92 l i:=rfl
theorem rdset92 (l : List S92) (i : Int) (y : S92) (h : i < (l.length : Int)) (h0 : 0 ≤ i) : rd_T92 (l.set i.toNat y) i = y:=by
 unfold rd_T92;rw [List.getD_eq_getElem?_getD,List.getElem?_set_self (by omega)];rfl
theorem rdn76 (l : List S76) (i : Int) : rd_T76 l ((i.toNat : Nat) : Int) = rd_T76 l i:=rfl
theorem rdset76 (l : List S76) (i : Int) (y : S76) (h : i < (l.length : Int)) (h0 : 0 ≤ i) : rd_T76 (l.set i.toNat y) i = y:=by
 unfold rd_T76;rw [List.getD_eq_getElem?_getD,List.getElem?_set_self (by omega)];rfl
theorem rdn5 (l : List Int) (i : Int) : rd_T5 l ((i.toNat : Nat) : Int) = rd_T5 l i:=rfl
theorem rdset5 (l : List Int) (i : Int) (y : Int) (h : i < (l.length : Int)) (h0 : 0 ≤ i) : rd_T5 (l.set i.toNat y) i = y:=by
 unfold rd_T5;rw [List.getD_eq_getElem?_getD,List.getElem?_set_self (by omega)];rfl
theorem rdn63 (l : List S63) (i : Int) : rd_T63 l ((i.toNat : Nat) : Int) = rd_T63 l i:=rfl
theorem rdset63 (l : List S63) (i : Int) (y : S63) (h : i < (l.length : Int)) (h0 : 0 ≤ i) : rd_T63 (l.set i.toNat y) i = y:=by
 unfold rd_T63;rw [List.getD_eq_getElem?_getD,List.getElem?_set_self (by omega)];rfl
theorem rdn65 (l : List S65) (i : Int) : rd_T65 l ((i.toNat : Nat) : Int) = rd_T65 l i:=rfl
theorem rdset65 (l : List S65) (i : Int) (y : S65) (h : i < (l.length : Int)) (h0 : 0 ≤ i) : rd_T65 (l.set i.toNat y) i = y:=by
 unfold rd_T65;rw [List.getD_eq_getElem?_getD,List.getElem?_set_self (by omega)];rfl
theorem rdn4 (l : List Bool) (i : Int) : rd_T4 l ((i.toNat : Nat) : Int) = rd_T4 l i:=rfl
theorem rdset4 (l : List Bool) (i : Int) (y : Bool) (h : i < (l.length : Int)) (h0 : 0 ≤ i) : rd_T4 (l.set i.toNat y) i = y:=by
 unfold rd_T4;rw [List.getD_eq_getElem?_getD,List.getElem?_set_self (by omega)];rfl
theorem rdn111 (l : List S111) (i : Int) : rd_T111 l ((i.toNat : Nat) : Int) = rd_T111 l i:=rfl
theorem rdset111 (l : List S111) (i : Int) (y : S111) (h : i < (l.length : Int)) (h0 : 0 ≤ i) : rd_T111 (l.set i.toNat y) i = y:=by
 unfold rd_T111;rw [List.getD_eq_getElem?_getD,List.getElem?_set_self (by omega)];rfl
theorem rdn83 (l : List S83) (i : Int) : rd_T83 l ((i.toNat : Nat) : Int) = rd_T83 l i:=rfl
theorem rdset83 (l : List S83) (i : Int) (y : S83) (h : i < (l.length : Int)) (h0 : 0 ≤ i) : rd_T83 (l.set i.toNat y) i = y:=by
 unfold rd_T83;rw [List.getD_eq_getElem?_getD,List.getElem?_set_self (by omega)];rfl
end Go.Proofs.YtibhkbljjnlpjaaGreat.M2

namespace Go.Proofs.YtibhkbljjnlpjaaGreat.M2
open Go Go.RowKit Go.Proofs.YtibhkbljjnlpjaaGreatW.PrintWords Go.Proofs.YtibhkbljjnlpjaaGreat.PK
set_option linter.unusedVariables false
set_option linter.unusedSimpArgs false
set_option maxHeartbeats 1600000
theorem spec_l01Var.rel_l (k : Nat) : (∀ x0 x3 r,PK.spec_l01Var.l0 k x0 x3 = some r → ∀ m,k ≤ m → spec_l01Var.c2 m x0 x3 = some r):=by
 induction k using Nat.strongRecOn with
 | _ k ih =>
 have il0:=fun k' hk'=>(ih k' hk');clear ih;intro x0 x3 r h m hm;cases k with
 | zero=>simp only [PK.spec_l01Var.l0] at h;cases h
 | succ k =>
  obtain ⟨m,rfl⟩ : ∃ m',m = m' + 1:=⟨m - 1,by omega⟩;rw [PK.spec_l01Var.l0] at h;rw [spec_l01Var.c2]
  try simp only [w64_eq,wu8_eq,gt_iff_lt,ge_iff_le,int_beq,fdiv33,fdiv45,bt_eq,tmodN,rdOfB,rdOfL] at h
  try simp only [shlR]
  try simp only [w64_eq,wu8_eq,gt_iff_lt,ge_iff_le,int_beq,fdiv33,fdiv45,bt_eq,tmodN,rdOfB,rdOfL,rdT3_eq,rdT5_eq,seq,maxI,minI,emp_eq,rdn3,rdn132,rdn72,rdn87,rdn101,rdn92,rdn76,rdn5,rdn63,rdn65,rdn4,rdn111,rdn83]
  refine (itE h (fun q h=>(itE h (fun q h=>((fun h=>?_) (il0 _ (by omega) _ _ _ h m (by omega)))) (fun q h=>(noE h)))) (fun q h=>(itE h (fun q h=>?_) (fun q h=>(noE h)))))
  all_goals clear il0
  all_goals (try cases h)
  all_goals (try simp only [*,if_true,if_false,↓reduceIte,Option.bind_some,List.length_cons,List.length_nil,List.length_append,Bool.not_true,Bool.not_false,Bool.true_eq_false,Bool.false_eq_true])
  all_goals (repeat first | rw [if_pos (by omega)] | rw [if_neg (by omega)])
  all_goals first | exact h | apply h | rfl | (simp_all [-Bool.forall_bool];done) | (simp_all [-Bool.forall_bool];first | exact h | apply h) | (simp_all [-Bool.forall_bool,emp_eq,int_beq];done) | (simp_all [-Bool.forall_bool];(intros;simp_all;done)) | (simp_all [-Bool.forall_bool,rdset3,rdset132,rdset72,rdset87,rdset101,rdset92,rdset76,rdset5,rdset63,rdset65,rdset4,rdset111,rdset83];done) | grind
theorem spec_l01Var.rel (k : Nat) (a0 : Int) (r) (h : PK.spec_l01Var.f k a0 = some r) (m : Nat) (hm : k ≤ m) : spec_l01Var.f m a0 = some r:=by
 have il0:=fun k' (_ : k' < k + 1)=>(spec_l01Var.rel_l k');rw [PK.spec_l01Var.f] at h;rw [spec_l01Var.f]
 try simp only [w64_eq,wu8_eq,gt_iff_lt,ge_iff_le,int_beq,fdiv33,fdiv45,bt_eq,tmodN,rdOfB,rdOfL] at h
 try simp only [shlR]
 try simp only [w64_eq,wu8_eq,gt_iff_lt,ge_iff_le,int_beq,fdiv33,fdiv45,bt_eq,tmodN,rdOfB,rdOfL,rdT3_eq,rdT5_eq,seq,maxI,minI,emp_eq,rdn3,rdn132,rdn72,rdn87,rdn101,rdn92,rdn76,rdn5,rdn63,rdn65,rdn4,rdn111,rdn83]
 refine ((fun h=>?_) (il0 _ (by omega) _ _ _ h m (by omega)))
 all_goals clear il0
 all_goals (try cases h)
 all_goals (try simp only [*,if_true,if_false,↓reduceIte,Option.bind_some,List.length_cons,List.length_nil,List.length_append,Bool.not_true,Bool.not_false,Bool.true_eq_false,Bool.false_eq_true])
 all_goals (repeat first | rw [if_pos (by omega)] | rw [if_neg (by omega)])
 all_goals first | exact h | apply h | rfl | (simp_all [-Bool.forall_bool];done) | (simp_all [-Bool.forall_bool];first | exact h | apply h) | (simp_all [-Bool.forall_bool,emp_eq,int_beq];done) | (simp_all [-Bool.forall_bool];(intros;simp_all;done)) | (simp_all [-Bool.forall_bool,rdset3,rdset132,rdset72,rdset87,rdset101,rdset92,rdset76,rdset5,rdset63,rdset65,rdset4,rdset111,rdset83];done) | grind
theorem spec_l01In.rel (k : Nat) (a0 : Int) (a1 : Int) (a2 : Int) (r) (h : PK.spec_l01In.f a0 a1 a2 = some r) (m : Nat) (hm : k ≤ m) : spec_l01In.f m a0 a1 a2 = some r:=by
 rw [PK.spec_l01In.f] at h;rw [spec_l01In.f]
 try simp only [w64_eq,wu8_eq,gt_iff_lt,ge_iff_le,int_beq,fdiv33,fdiv45,bt_eq,tmodN,rdOfB,rdOfL] at h
 try simp only [shlR]
 try simp only [w64_eq,wu8_eq,gt_iff_lt,ge_iff_le,int_beq,fdiv33,fdiv45,bt_eq,tmodN,rdOfB,rdOfL,rdT3_eq,rdT5_eq,seq,maxI,minI,emp_eq,rdn3,rdn132,rdn72,rdn87,rdn101,rdn92,rdn76,rdn5,rdn63,rdn65,rdn4,rdn111,rdn83]
 refine (itE h (fun q h=>?_) (fun q h=>?_))
 all_goals (try cases h)
 all_goals (try simp only [*,if_true,if_false,↓reduceIte,Option.bind_some,List.length_cons,List.length_nil,List.length_append,Bool.not_true,Bool.not_false,Bool.true_eq_false,Bool.false_eq_true])
 all_goals (repeat first | rw [if_pos (by omega)] | rw [if_neg (by omega)])
 all_goals first | exact h | apply h | rfl | (simp_all [-Bool.forall_bool];done) | (simp_all [-Bool.forall_bool];first | exact h | apply h) | (simp_all [-Bool.forall_bool,emp_eq,int_beq];done) | (simp_all [-Bool.forall_bool];(intros;simp_all;done)) | (simp_all [-Bool.forall_bool,rdset3,rdset132,rdset72,rdset87,rdset101,rdset92,rdset76,rdset5,rdset63,rdset65,rdset4,rdset111,rdset83];done) | grind
theorem spec_ReadVar.rel_l (k : Nat) : (∀ x0 x1 x7 x8 x9 r,PK.spec_ReadVar.l0 k x0 x1 x7 x8 x9 = some r → ∀ m,k ≤ m → spec_ReadVar.c6 m x0 x1 x7 x8 x9 = some (r.1,r.2.1,r.2.2)):=by
 induction k using Nat.strongRecOn with
 | _ k ih =>
 have il0:=fun k' hk'=>(ih k' hk');clear ih;intro x0 x1 x7 x8 x9 r h m hm;cases k with
 | zero=>simp only [PK.spec_ReadVar.l0] at h;cases h
 | succ k =>
  obtain ⟨m,rfl⟩ : ∃ m',m = m' + 1:=⟨m - 1,by omega⟩;rw [PK.spec_ReadVar.l0] at h;rw [spec_ReadVar.c6]
  try simp only [w64_eq,wu8_eq,gt_iff_lt,ge_iff_le,int_beq,fdiv33,fdiv45,bt_eq,tmodN,rdOfB,rdOfL] at h
  try simp only [shlR]
  try simp only [w64_eq,wu8_eq,gt_iff_lt,ge_iff_le,int_beq,fdiv33,fdiv45,bt_eq,tmodN,rdOfB,rdOfL,rdT3_eq,rdT5_eq,seq,maxI,minI,emp_eq,rdn3,rdn132,rdn72,rdn87,rdn101,rdn92,rdn76,rdn5,rdn63,rdn65,rdn4,rdn111,rdn83]
  refine (itE h (fun q h=>(by cases k with | zero=>(simp only [PK.spec_ReadVar.j1] at h;cases h) | succ k=>(rw [PK.spec_ReadVar.j1] at h;(try simp only [w64_eq,wu8_eq,gt_iff_lt,ge_iff_le,int_beq,fdiv33,fdiv45,bt_eq,tmodN,rdOfB,rdOfL] at h);refine (itE h (fun q h=>(itE h (fun q h=>(itE h (fun q h=>(itE h (fun q h=>(itE h (fun q h=>?_) (fun q h=>(bnE h (fun _ g h=>(fun g=>(itE h (fun q h=>(itE h (fun q h=>(itE h (fun q h=>(itE h (fun q h=>?_) (fun q h=>?_))) (fun q h=>(noE h)))) (fun q h=>(noE h)))) (fun q h=>(noE h)))) (spec_l01Var.rel _ _ _ g m (by omega))))))) (fun q h=>((fun h=>?_) (il0 _ (by omega) _ _ _ _ _ _ h m (by omega)))))) (fun q h=>(noE h)))) (fun q h=>(noE h)))) (fun q h=>?_)) <;> ((try cases h);(try simp only [*,if_true,if_false,↓reduceIte,Option.bind_some,List.length_cons,List.length_nil,List.length_append,Bool.not_true,Bool.not_false,Bool.true_eq_false,Bool.false_eq_true]);all_goals (repeat first | rw [if_pos (by omega)] | rw [if_neg (by omega)]);all_goals (first | exact h | apply h | rfl | (simp_all [-Bool.forall_bool];done) | (simp_all [-Bool.forall_bool];first | exact h | apply h) | (simp_all [-Bool.forall_bool,emp_eq,int_beq];done) | (simp_all [-Bool.forall_bool];(intros;simp_all;done)) | (simp_all [-Bool.forall_bool,rdset3,rdset132,rdset72,rdset87,rdset101,rdset92,rdset76,rdset5,rdset63,rdset65,rdset4,rdset111,rdset83];done) | grind))))) (fun q h=>(by cases k with | zero=>(simp only [PK.spec_ReadVar.j1] at h;cases h) | succ k=>(rw [PK.spec_ReadVar.j1] at h;(try simp only [w64_eq,wu8_eq,gt_iff_lt,ge_iff_le,int_beq,fdiv33,fdiv45,bt_eq,tmodN,rdOfB,rdOfL] at h);refine (itE h (fun q h=>(itE h (fun q h=>(itE h (fun q h=>(itE h (fun q h=>(itE h (fun q h=>?_) (fun q h=>(bnE h (fun _ g h=>(fun g=>(itE h (fun q h=>(itE h (fun q h=>(itE h (fun q h=>(itE h (fun q h=>?_) (fun q h=>?_))) (fun q h=>(noE h)))) (fun q h=>(noE h)))) (fun q h=>(noE h)))) (spec_l01Var.rel _ _ _ g m (by omega))))))) (fun q h=>((fun h=>?_) (il0 _ (by omega) _ _ _ _ _ _ h m (by omega)))))) (fun q h=>(noE h)))) (fun q h=>(noE h)))) (fun q h=>?_)) <;> ((try cases h);(try simp only [*,if_true,if_false,↓reduceIte,Option.bind_some,List.length_cons,List.length_nil,List.length_append,Bool.not_true,Bool.not_false,Bool.true_eq_false,Bool.false_eq_true]);all_goals (repeat first | rw [if_pos (by omega)] | rw [if_neg (by omega)]);all_goals (first | exact h | apply h | rfl | (simp_all [-Bool.forall_bool];done) | (simp_all [-Bool.forall_bool];first | exact h | apply h) | (simp_all [-Bool.forall_bool,emp_eq,int_beq];done) | (simp_all [-Bool.forall_bool];(intros;simp_all;done)) | (simp_all [-Bool.forall_bool,rdset3,rdset132,rdset72,rdset87,rdset101,rdset92,rdset76,rdset5,rdset63,rdset65,rdset4,rdset111,rdset83];done) | grind))))))
  all_goals clear il0
  all_goals (try cases h)
  all_goals (try simp only [*,if_true,if_false,↓reduceIte,Option.bind_some,List.length_cons,List.length_nil,List.length_append,Bool.not_true,Bool.not_false,Bool.true_eq_false,Bool.false_eq_true])
  all_goals (repeat first | rw [if_pos (by omega)] | rw [if_neg (by omega)])
  all_goals first | exact h | apply h | rfl | (simp_all [-Bool.forall_bool];done) | (simp_all [-Bool.forall_bool];first | exact h | apply h) | (simp_all [-Bool.forall_bool,emp_eq,int_beq];done) | (simp_all [-Bool.forall_bool];(intros;simp_all;done)) | (simp_all [-Bool.forall_bool,rdset3,rdset132,rdset72,rdset87,rdset101,rdset92,rdset76,rdset5,rdset63,rdset65,rdset4,rdset111,rdset83];done) | grind
theorem spec_ReadVar.rel (k : Nat) (a0 : ByteArray) (a1 : Int) (r) (h : PK.spec_ReadVar.f k a0 a1 = some r) (m : Nat) (hm : k ≤ m) : spec_ReadVar.f m a0 a1 = some (r.1,r.2.1,r.2.2):=by
 have il0:=fun k' (_ : k' < k + 1)=>(spec_ReadVar.rel_l k');rw [PK.spec_ReadVar.f] at h;rw [spec_ReadVar.f]
 try simp only [w64_eq,wu8_eq,gt_iff_lt,ge_iff_le,int_beq,fdiv33,fdiv45,bt_eq,tmodN,rdOfB,rdOfL] at h
 try simp only [shlR]
 try simp only [w64_eq,wu8_eq,gt_iff_lt,ge_iff_le,int_beq,fdiv33,fdiv45,bt_eq,tmodN,rdOfB,rdOfL,rdT3_eq,rdT5_eq,seq,maxI,minI,emp_eq,rdn3,rdn132,rdn72,rdn87,rdn101,rdn92,rdn76,rdn5,rdn63,rdn65,rdn4,rdn111,rdn83]
 refine (bnE h (fun _ g h=>(fun g=>(itE h (fun q h=>((fun h=>?_) (il0 _ (by omega) _ _ _ _ _ _ h m (by omega)))) (fun q h=>?_))) (spec_l01In.rel m _ _ _ _ g m (by omega))))
 all_goals clear il0
 all_goals (try cases h)
 all_goals (try simp only [*,if_true,if_false,↓reduceIte,Option.bind_some,List.length_cons,List.length_nil,List.length_append,Bool.not_true,Bool.not_false,Bool.true_eq_false,Bool.false_eq_true])
 all_goals (repeat first | rw [if_pos (by omega)] | rw [if_neg (by omega)])
 all_goals first | exact h | apply h | rfl | (simp_all [-Bool.forall_bool];done) | (simp_all [-Bool.forall_bool];first | exact h | apply h) | (simp_all [-Bool.forall_bool,emp_eq,int_beq];done) | (simp_all [-Bool.forall_bool];(intros;simp_all;done)) | (simp_all [-Bool.forall_bool,rdset3,rdset132,rdset72,rdset87,rdset101,rdset92,rdset76,rdset5,rdset63,rdset65,rdset4,rdset111,rdset83];done) | grind
end Go.Proofs.YtibhkbljjnlpjaaGreat.M2

namespace Go.Proofs.YtibhkbljjnlpjaaGreat.M2
open Go Go.RowKit Go.Proofs.YtibhkbljjnlpjaaGreatW.PrintWords Go.Proofs.YtibhkbljjnlpjaaGreat.PK
set_option linter.unusedVariables false
set_option linter.unusedSimpArgs false
set_option maxHeartbeats 1600000
theorem impl_ReadVar.rel_l (k : Nat) : (∀ x0 x1 x7 x8 r,PK.impl_ReadVar.l0 k x0 x1 x7 x8 = some r → ∀ m,k ≤ m → impl_ReadVar.c3 m x0 x1 x7 x8 = some (r.1,r.2.1,r.2.2)):=by
 induction k using Nat.strongRecOn with
 | _ k ih =>
 have il0:=fun k' hk'=>(ih k' hk');clear ih;intro x0 x1 x7 x8 r h m hm;cases k with
 | zero=>simp only [PK.impl_ReadVar.l0] at h;cases h
 | succ k =>
  obtain ⟨m,rfl⟩ : ∃ m',m = m' + 1:=⟨m - 1,by omega⟩;rw [PK.impl_ReadVar.l0] at h;rw [impl_ReadVar.c3]
  try simp only [w64_eq,wu8_eq,gt_iff_lt,ge_iff_le,int_beq,fdiv33,fdiv45,bt_eq,tmodN,rdOfB,rdOfL] at h
  try simp only [shlR]
  try simp only [w64_eq,wu8_eq,gt_iff_lt,ge_iff_le,int_beq,fdiv33,fdiv45,bt_eq,tmodN,rdOfB,rdOfL,rdT3_eq,rdT5_eq,seq,maxI,minI,emp_eq,rdn3,rdn132,rdn72,rdn87,rdn101,rdn92,rdn76,rdn5,rdn63,rdn65,rdn4,rdn111,rdn83]
  refine (itE h (fun q h=>(itE h (fun q h=>(by cases k with | zero=>(simp only [PK.impl_ReadVar.j1] at h;cases h) | succ k=>(rw [PK.impl_ReadVar.j1] at h;(try simp only [w64_eq,wu8_eq,gt_iff_lt,ge_iff_le,int_beq,fdiv33,fdiv45,bt_eq,tmodN,rdOfB,rdOfL] at h);refine (itE h (fun q h=>(itE h (fun q h=>(itE h (fun q h=>(itE h (fun q h=>(itE h (fun q h=>((fun h=>?_) (il0 _ (by omega) _ _ _ _ _ h m (by omega)))) (fun q h=>(itE h (fun q h=>(itE h (fun q h=>?_) (fun q h=>(itE h (fun q h=>?_) (fun q h=>?_))))) (fun q h=>(itE h (fun q h=>?_) (fun q h=>?_))))))) (fun q h=>(noE h)))) (fun q h=>(noE h)))) (fun q h=>(noE h)))) (fun q h=>?_)) <;> ((try cases h);(try simp only [*,if_true,if_false,↓reduceIte,Option.bind_some,List.length_cons,List.length_nil,List.length_append,Bool.not_true,Bool.not_false,Bool.true_eq_false,Bool.false_eq_true]);all_goals (repeat first | rw [if_pos (by omega)] | rw [if_neg (by omega)]);all_goals (first | exact h | apply h | rfl | (simp_all [-Bool.forall_bool];done) | (simp_all [-Bool.forall_bool];first | exact h | apply h) | (simp_all [-Bool.forall_bool,emp_eq,int_beq];done) | (simp_all [-Bool.forall_bool];(intros;simp_all;done)) | (simp_all [-Bool.forall_bool,rdset3,rdset132,rdset72,rdset87,rdset101,rdset92,rdset76,rdset5,rdset63,rdset65,rdset4,rdset111,rdset83];done) | grind))))) (fun q h=>(by cases k with | zero=>(simp only [PK.impl_ReadVar.j1] at h;cases h) | succ k=>(rw [PK.impl_ReadVar.j1] at h;(try simp only [w64_eq,wu8_eq,gt_iff_lt,ge_iff_le,int_beq,fdiv33,fdiv45,bt_eq,tmodN,rdOfB,rdOfL] at h);refine (itE h (fun q h=>(itE h (fun q h=>(itE h (fun q h=>(itE h (fun q h=>(itE h (fun q h=>((fun h=>?_) (il0 _ (by omega) _ _ _ _ _ h m (by omega)))) (fun q h=>(itE h (fun q h=>(itE h (fun q h=>?_) (fun q h=>(itE h (fun q h=>?_) (fun q h=>?_))))) (fun q h=>(itE h (fun q h=>?_) (fun q h=>?_))))))) (fun q h=>(noE h)))) (fun q h=>(noE h)))) (fun q h=>(noE h)))) (fun q h=>?_)) <;> ((try cases h);(try simp only [*,if_true,if_false,↓reduceIte,Option.bind_some,List.length_cons,List.length_nil,List.length_append,Bool.not_true,Bool.not_false,Bool.true_eq_false,Bool.false_eq_true]);all_goals (repeat first | rw [if_pos (by omega)] | rw [if_neg (by omega)]);all_goals (first | exact h | apply h | rfl | (simp_all [-Bool.forall_bool];done) | (simp_all [-Bool.forall_bool];first | exact h | apply h) | (simp_all [-Bool.forall_bool,emp_eq,int_beq];done) | (simp_all [-Bool.forall_bool];(intros;simp_all;done)) | (simp_all [-Bool.forall_bool,rdset3,rdset132,rdset72,rdset87,rdset101,rdset92,rdset76,rdset5,rdset63,rdset65,rdset4,rdset111,rdset83];done) | grind))))))) (fun q h=>(by cases k with | zero=>(simp only [PK.impl_ReadVar.j1] at h;cases h) | succ k=>(rw [PK.impl_ReadVar.j1] at h;(try simp only [w64_eq,wu8_eq,gt_iff_lt,ge_iff_le,int_beq,fdiv33,fdiv45,bt_eq,tmodN,rdOfB,rdOfL] at h);refine (itE h (fun q h=>(itE h (fun q h=>(itE h (fun q h=>(itE h (fun q h=>(itE h (fun q h=>((fun h=>?_) (il0 _ (by omega) _ _ _ _ _ h m (by omega)))) (fun q h=>(itE h (fun q h=>(itE h (fun q h=>?_) (fun q h=>(itE h (fun q h=>?_) (fun q h=>?_))))) (fun q h=>(itE h (fun q h=>?_) (fun q h=>?_))))))) (fun q h=>(noE h)))) (fun q h=>(noE h)))) (fun q h=>(noE h)))) (fun q h=>?_)) <;> ((try cases h);(try simp only [*,if_true,if_false,↓reduceIte,Option.bind_some,List.length_cons,List.length_nil,List.length_append,Bool.not_true,Bool.not_false,Bool.true_eq_false,Bool.false_eq_true]);all_goals (repeat first | rw [if_pos (by omega)] | rw [if_neg (by omega)]);all_goals (first | exact h | apply h | rfl | (simp_all [-Bool.forall_bool];done) | (simp_all [-Bool.forall_bool];first | exact h | apply h) | (simp_all [-Bool.forall_bool,emp_eq,int_beq];done) | (simp_all [-Bool.forall_bool];(intros;simp_all;done)) | (simp_all [-Bool.forall_bool,rdset3,rdset132,rdset72,rdset87,rdset101,rdset92,rdset76,rdset5,rdset63,rdset65,rdset4,rdset111,rdset83];done) | grind))))))
  all_goals clear il0
  all_goals (try cases h)
  all_goals (try simp only [*,if_true,if_false,↓reduceIte,Option.bind_some,List.length_cons,List.length_nil,List.length_append,Bool.not_true,Bool.not_false,Bool.true_eq_false,Bool.false_eq_true])
  all_goals (repeat first | rw [if_pos (by omega)] | rw [if_neg (by omega)])
  all_goals first | exact h | apply h | rfl | (simp_all [-Bool.forall_bool];done) | (simp_all [-Bool.forall_bool];first | exact h | apply h) | (simp_all [-Bool.forall_bool,emp_eq,int_beq];done) | (simp_all [-Bool.forall_bool];(intros;simp_all;done)) | (simp_all [-Bool.forall_bool,rdset3,rdset132,rdset72,rdset87,rdset101,rdset92,rdset76,rdset5,rdset63,rdset65,rdset4,rdset111,rdset83];done) | grind
theorem impl_ReadVar.rel (k : Nat) (a0 : ByteArray) (a1 : Int) (r) (h : PK.impl_ReadVar.f k a0 a1 = some r) (m : Nat) (hm : k ≤ m) : impl_ReadVar.f m a0 a1 = some (r.1,r.2.1,r.2.2):=by
 have il0:=fun k' (_ : k' < k + 1)=>(impl_ReadVar.rel_l k');rw [PK.impl_ReadVar.f] at h;rw [impl_ReadVar.f]
 try simp only [w64_eq,wu8_eq,gt_iff_lt,ge_iff_le,int_beq,fdiv33,fdiv45,bt_eq,tmodN,rdOfB,rdOfL] at h
 try simp only [shlR]
 try simp only [w64_eq,wu8_eq,gt_iff_lt,ge_iff_le,int_beq,fdiv33,fdiv45,bt_eq,tmodN,rdOfB,rdOfL,rdT3_eq,rdT5_eq,seq,maxI,minI,emp_eq,rdn3,rdn132,rdn72,rdn87,rdn101,rdn92,rdn76,rdn5,rdn63,rdn65,rdn4,rdn111,rdn83]
 refine ((fun h=>?_) (il0 _ (by omega) _ _ _ _ _ h m (by omega)))
 all_goals clear il0
 all_goals (try cases h)
 all_goals (try simp only [*,if_true,if_false,↓reduceIte,Option.bind_some,List.length_cons,List.length_nil,List.length_append,Bool.not_true,Bool.not_false,Bool.true_eq_false,Bool.false_eq_true])
 all_goals (repeat first | rw [if_pos (by omega)] | rw [if_neg (by omega)])
 all_goals first | exact h | apply h | rfl | (simp_all [-Bool.forall_bool];done) | (simp_all [-Bool.forall_bool];first | exact h | apply h) | (simp_all [-Bool.forall_bool,emp_eq,int_beq];done) | (simp_all [-Bool.forall_bool];(intros;simp_all;done)) | (simp_all [-Bool.forall_bool,rdset3,rdset132,rdset72,rdset87,rdset101,rdset92,rdset76,rdset5,rdset63,rdset65,rdset4,rdset111,rdset83];done) | grind
end Go.Proofs.YtibhkbljjnlpjaaGreat.M2

namespace Go.Proofs.YtibhkbljjnlpjaaGreat.M2
open Go Go.RowKit Go.Proofs.YtibhkbljjnlpjaaGreatW.PrintWords Go.Proofs.YtibhkbljjnlpjaaGreat.PK
set_option linter.unusedVariables false
set_option linter.unusedSimpArgs false
set_option maxHeartbeats 1600000
theorem laws_szVolS.rel (k : Nat) (l0 : List (S87)) (a1 : Int) (r) (h : PK.laws_szVolS.f l0 a1 = some r) (m : Nat) (hm : k ≤ m) : laws_szVolS.f m l0 a1 = some r:=by
 rw [PK.laws_szVolS.f] at h;rw [laws_szVolS.f]
 try simp only [w64_eq,wu8_eq,gt_iff_lt,ge_iff_le,int_beq,fdiv33,fdiv45,bt_eq,tmodN,rdOfB,rdOfL] at h
 try simp only [shlR]
 try simp only [w64_eq,wu8_eq,gt_iff_lt,ge_iff_le,int_beq,fdiv33,fdiv45,bt_eq,tmodN,rdOfB,rdOfL,rdT3_eq,rdT5_eq,seq,maxI,minI,emp_eq,rdn3,rdn132,rdn72,rdn87,rdn101,rdn92,rdn76,rdn5,rdn63,rdn65,rdn4,rdn111,rdn83]
 refine (itE h (fun q h=>?_) (fun q h=>?_))
 all_goals (try cases h)
 all_goals (try simp only [*,if_true,if_false,↓reduceIte,Option.bind_some,List.length_cons,List.length_nil,List.length_append,Bool.not_true,Bool.not_false,Bool.true_eq_false,Bool.false_eq_true])
 all_goals (repeat first | rw [if_pos (by omega)] | rw [if_neg (by omega)])
 all_goals first | exact h | apply h | rfl | (simp_all [-Bool.forall_bool];done) | (simp_all [-Bool.forall_bool];first | exact h | apply h) | (simp_all [-Bool.forall_bool,emp_eq,int_beq];done) | (simp_all [-Bool.forall_bool];(intros;simp_all;done)) | (simp_all [-Bool.forall_bool,rdset3,rdset132,rdset72,rdset87,rdset101,rdset92,rdset76,rdset5,rdset63,rdset65,rdset4,rdset111,rdset83];done) | grind
theorem laws_szIntS.rel (k : Nat) (l0 : List Int) (a1 : Int) (r) (h : PK.laws_szIntS.f l0 a1 = some r) (m : Nat) (hm : k ≤ m) : laws_szIntS.f m l0 a1 = some r:=by
 rw [PK.laws_szIntS.f] at h;rw [laws_szIntS.f]
 try simp only [w64_eq,wu8_eq,gt_iff_lt,ge_iff_le,int_beq,fdiv33,fdiv45,bt_eq,tmodN,rdOfB,rdOfL] at h
 try simp only [shlR]
 try simp only [w64_eq,wu8_eq,gt_iff_lt,ge_iff_le,int_beq,fdiv33,fdiv45,bt_eq,tmodN,rdOfB,rdOfL,rdT3_eq,rdT5_eq,seq,maxI,minI,emp_eq,rdn3,rdn132,rdn72,rdn87,rdn101,rdn92,rdn76,rdn5,rdn63,rdn65,rdn4,rdn111,rdn83]
 refine (itE h (fun q h=>?_) (fun q h=>?_))
 all_goals (try cases h)
 all_goals (try simp only [*,if_true,if_false,↓reduceIte,Option.bind_some,List.length_cons,List.length_nil,List.length_append,Bool.not_true,Bool.not_false,Bool.true_eq_false,Bool.false_eq_true])
 all_goals (repeat first | rw [if_pos (by omega)] | rw [if_neg (by omega)])
 all_goals first | exact h | apply h | rfl | (simp_all [-Bool.forall_bool];done) | (simp_all [-Bool.forall_bool];first | exact h | apply h) | (simp_all [-Bool.forall_bool,emp_eq,int_beq];done) | (simp_all [-Bool.forall_bool];(intros;simp_all;done)) | (simp_all [-Bool.forall_bool,rdset3,rdset132,rdset72,rdset87,rdset101,rdset92,rdset76,rdset5,rdset63,rdset65,rdset4,rdset111,rdset83];done) | grind
theorem laws_szKnot.rel (k : Nat) (a0_0 : Bool) (l0_1 : List Int) (a1 : Int) (r) (h : PK.laws_szKnot.f a0_0 l0_1 a1 = some r) (m : Nat) (hm : k ≤ m) : laws_szKnot.f m a0_0 l0_1 a1 = some r:=by
 rw [PK.laws_szKnot.f] at h;rw [laws_szKnot.f]
 try simp only [w64_eq,wu8_eq,gt_iff_lt,ge_iff_le,int_beq,fdiv33,fdiv45,bt_eq,tmodN,rdOfB,rdOfL] at h
 try simp only [shlR]
 try simp only [w64_eq,wu8_eq,gt_iff_lt,ge_iff_le,int_beq,fdiv33,fdiv45,bt_eq,tmodN,rdOfB,rdOfL,rdT3_eq,rdT5_eq,seq,maxI,minI,emp_eq,rdn3,rdn132,rdn72,rdn87,rdn101,rdn92,rdn76,rdn5,rdn63,rdn65,rdn4,rdn111,rdn83]
 refine (bnE h (fun _ g h=>(fun g=>(itE h (fun q h=>?_) (fun q h=>?_))) (laws_szIntS.rel m _ _ _ g m (by omega))))
 all_goals (try cases h)
 all_goals (try simp only [*,if_true,if_false,↓reduceIte,Option.bind_some,List.length_cons,List.length_nil,List.length_append,Bool.not_true,Bool.not_false,Bool.true_eq_false,Bool.false_eq_true])
 all_goals (repeat first | rw [if_pos (by omega)] | rw [if_neg (by omega)])
 all_goals first | exact h | apply h | rfl | (simp_all [-Bool.forall_bool];done) | (simp_all [-Bool.forall_bool];first | exact h | apply h) | (simp_all [-Bool.forall_bool,emp_eq,int_beq];done) | (simp_all [-Bool.forall_bool];(intros;simp_all;done)) | (simp_all [-Bool.forall_bool,rdset3,rdset132,rdset72,rdset87,rdset101,rdset92,rdset76,rdset5,rdset63,rdset65,rdset4,rdset111,rdset83];done) | grind
theorem laws_szKnotS.rel_l (k : Nat) : (∀ x0 x1 x5 r,PK.laws_szKnotS.l0 k x0 x1 x5 = some r → ∀ m,k ≤ m → laws_szKnotS.c5 m x0 x1 x5 = some r):=by
 induction k using Nat.strongRecOn with
 | _ k ih =>
 have il0:=fun k' hk'=>(ih k' hk');clear ih;intro x0 x1 x5 r h m hm;cases k with
 | zero=>simp only [PK.laws_szKnotS.l0] at h;cases h
 | succ k =>
  obtain ⟨m,rfl⟩ : ∃ m',m = m' + 1:=⟨m - 1,by omega⟩;rw [PK.laws_szKnotS.l0] at h;rw [laws_szKnotS.c5]
  try simp only [w64_eq,wu8_eq,gt_iff_lt,ge_iff_le,int_beq,fdiv33,fdiv45,bt_eq,tmodN,rdOfB,rdOfL] at h
  try simp only [shlR]
  try simp only [w64_eq,wu8_eq,gt_iff_lt,ge_iff_le,int_beq,fdiv33,fdiv45,bt_eq,tmodN,rdOfB,rdOfL,rdT3_eq,rdT5_eq,seq,maxI,minI,emp_eq,rdn3,rdn132,rdn72,rdn87,rdn101,rdn92,rdn76,rdn5,rdn63,rdn65,rdn4,rdn111,rdn83]
  refine (itE h (fun q h=>(itE h (fun q h=>(bnE h (fun _ g h=>(fun g=>(itE h (fun q h=>?_) (fun q h=>((fun h=>?_) (il0 _ (by omega) _ _ _ _ h m (by omega)))))) (laws_szKnot.rel m _ _ _ _ g m (by omega))))) (fun q h=>(noE h)))) (fun q h=>?_))
  all_goals clear il0
  all_goals (try cases h)
  all_goals (try simp only [*,if_true,if_false,↓reduceIte,Option.bind_some,List.length_cons,List.length_nil,List.length_append,Bool.not_true,Bool.not_false,Bool.true_eq_false,Bool.false_eq_true])
  all_goals (repeat first | rw [if_pos (by omega)] | rw [if_neg (by omega)])
  all_goals first | exact h | apply h | rfl | (simp_all [-Bool.forall_bool];done) | (simp_all [-Bool.forall_bool];first | exact h | apply h) | (simp_all [-Bool.forall_bool,emp_eq,int_beq];done) | (simp_all [-Bool.forall_bool];(intros;simp_all;done)) | (simp_all [-Bool.forall_bool,rdset3,rdset132,rdset72,rdset87,rdset101,rdset92,rdset76,rdset5,rdset63,rdset65,rdset4,rdset111,rdset83];done) | grind
theorem laws_szKnotS.rel (k : Nat) (l0 : List (S101)) (a1 : Int) (r) (h : PK.laws_szKnotS.f k l0 a1 = some r) (m : Nat) (hm : k ≤ m) : laws_szKnotS.f m l0 a1 = some r:=by
 have il0:=fun k' (_ : k' < k + 1)=>(laws_szKnotS.rel_l k');rw [PK.laws_szKnotS.f] at h;rw [laws_szKnotS.f]
 try simp only [w64_eq,wu8_eq,gt_iff_lt,ge_iff_le,int_beq,fdiv33,fdiv45,bt_eq,tmodN,rdOfB,rdOfL] at h
 try simp only [shlR]
 try simp only [w64_eq,wu8_eq,gt_iff_lt,ge_iff_le,int_beq,fdiv33,fdiv45,bt_eq,tmodN,rdOfB,rdOfL,rdT3_eq,rdT5_eq,seq,maxI,minI,emp_eq,rdn3,rdn132,rdn72,rdn87,rdn101,rdn92,rdn76,rdn5,rdn63,rdn65,rdn4,rdn111,rdn83]
 refine (itE h (fun q h=>?_) (fun q h=>((fun h=>?_) (il0 _ (by omega) _ _ _ _ h m (by omega)))))
 all_goals clear il0
 all_goals (try cases h)
 all_goals (try simp only [*,if_true,if_false,↓reduceIte,Option.bind_some,List.length_cons,List.length_nil,List.length_append,Bool.not_true,Bool.not_false,Bool.true_eq_false,Bool.false_eq_true])
 all_goals (repeat first | rw [if_pos (by omega)] | rw [if_neg (by omega)])
 all_goals first | exact h | apply h | rfl | (simp_all [-Bool.forall_bool];done) | (simp_all [-Bool.forall_bool];first | exact h | apply h) | (simp_all [-Bool.forall_bool,emp_eq,int_beq];done) | (simp_all [-Bool.forall_bool];(intros;simp_all;done)) | (simp_all [-Bool.forall_bool,rdset3,rdset132,rdset72,rdset87,rdset101,rdset92,rdset76,rdset5,rdset63,rdset65,rdset4,rdset111,rdset83];done) | grind
end Go.Proofs.YtibhkbljjnlpjaaGreat.M2

namespace Go.Proofs.YtibhkbljjnlpjaaGreat.M2
open Go Go.RowKit Go.Proofs.YtibhkbljjnlpjaaGreatW.PrintWords Go.Proofs.YtibhkbljjnlpjaaGreat.PK
set_option linter.unusedVariables false
set_option linter.unusedSimpArgs false
set_option maxHeartbeats 1600000
theorem laws_szArena.rel (k : Nat) (l0_0 : List (S101)) (a1 : Int) (r) (h : PK.laws_szArena.f k l0_0 a1 = some r) (m : Nat) (hm : k ≤ m) : laws_szArena.f m l0_0 a1 = some r:=by
 rw [PK.laws_szArena.f] at h;rw [laws_szArena.f]
 try simp only [w64_eq,wu8_eq,gt_iff_lt,ge_iff_le,int_beq,fdiv33,fdiv45,bt_eq,tmodN,rdOfB,rdOfL] at h
 try simp only [shlR]
 try simp only [w64_eq,wu8_eq,gt_iff_lt,ge_iff_le,int_beq,fdiv33,fdiv45,bt_eq,tmodN,rdOfB,rdOfL,rdT3_eq,rdT5_eq,seq,maxI,minI,emp_eq,rdn3,rdn132,rdn72,rdn87,rdn101,rdn92,rdn76,rdn5,rdn63,rdn65,rdn4,rdn111,rdn83]
 refine (bnE h (fun _ g h=>(fun g=>(itE h (fun q h=>?_) (fun q h=>?_))) (laws_szKnotS.rel _ _ _ _ g m (by omega))))
 all_goals (try cases h)
 all_goals (try simp only [*,if_true,if_false,↓reduceIte,Option.bind_some,List.length_cons,List.length_nil,List.length_append,Bool.not_true,Bool.not_false,Bool.true_eq_false,Bool.false_eq_true])
 all_goals (repeat first | rw [if_pos (by omega)] | rw [if_neg (by omega)])
 all_goals first | exact h | apply h | rfl | (simp_all [-Bool.forall_bool];done) | (simp_all [-Bool.forall_bool];first | exact h | apply h) | (simp_all [-Bool.forall_bool,emp_eq,int_beq];done) | (simp_all [-Bool.forall_bool];(intros;simp_all;done)) | (simp_all [-Bool.forall_bool,rdset3,rdset132,rdset72,rdset87,rdset101,rdset92,rdset76,rdset5,rdset63,rdset65,rdset4,rdset111,rdset83];done) | grind
theorem laws_szStore.rel (k : Nat) (l0_0 : List (S87)) (l0_1 : List (S101)) (a0_2 : Int) (a1 : Int) (r) (h : PK.laws_szStore.f k l0_0 l0_1 a0_2 a1 = some r) (m : Nat) (hm : k ≤ m) : laws_szStore.f m l0_0 l0_1 a0_2 a1 = some r:=by
 rw [PK.laws_szStore.f] at h;rw [laws_szStore.f]
 try simp only [w64_eq,wu8_eq,gt_iff_lt,ge_iff_le,int_beq,fdiv33,fdiv45,bt_eq,tmodN,rdOfB,rdOfL] at h
 try simp only [shlR]
 try simp only [w64_eq,wu8_eq,gt_iff_lt,ge_iff_le,int_beq,fdiv33,fdiv45,bt_eq,tmodN,rdOfB,rdOfL,rdT3_eq,rdT5_eq,seq,maxI,minI,emp_eq,rdn3,rdn132,rdn72,rdn87,rdn101,rdn92,rdn76,rdn5,rdn63,rdn65,rdn4,rdn111,rdn83]
 refine (bnE h (fun _ g h=>(fun g=>(itE h (fun q h=>?_) (fun q h=>(bnE h (fun _ g h=>(fun g=>(itE h (fun q h=>?_) (fun q h=>?_))) (laws_szArena.rel _ _ _ _ g m (by omega))))))) (laws_szVolS.rel m _ _ _ g m (by omega))))
 all_goals (try cases h)
 all_goals (try simp only [*,if_true,if_false,↓reduceIte,Option.bind_some,List.length_cons,List.length_nil,List.length_append,Bool.not_true,Bool.not_false,Bool.true_eq_false,Bool.false_eq_true])
 all_goals (repeat first | rw [if_pos (by omega)] | rw [if_neg (by omega)])
 all_goals first | exact h | apply h | rfl | (simp_all [-Bool.forall_bool];done) | (simp_all [-Bool.forall_bool];first | exact h | apply h) | (simp_all [-Bool.forall_bool,emp_eq,int_beq];done) | (simp_all [-Bool.forall_bool];(intros;simp_all;done)) | (simp_all [-Bool.forall_bool,rdset3,rdset132,rdset72,rdset87,rdset101,rdset92,rdset76,rdset5,rdset63,rdset65,rdset4,rdset111,rdset83];done) | grind
theorem laws_toVol.rel (k : Nat) (a0_0 : Int) (a0_1 : Int) (r) (h : PK.laws_toVol.f a0_0 a0_1 = some r) (m : Nat) (hm : k ≤ m) : laws_toVol.f m a0_0 a0_1 = some (r.1,r.2):=by
 rw [PK.laws_toVol.f] at h;rw [laws_toVol.f]
 try simp only [w64_eq,wu8_eq,gt_iff_lt,ge_iff_le,int_beq,fdiv33,fdiv45,bt_eq,tmodN,rdOfB,rdOfL] at h
 try simp only [shlR]
 try simp only [w64_eq,wu8_eq,gt_iff_lt,ge_iff_le,int_beq,fdiv33,fdiv45,bt_eq,tmodN,rdOfB,rdOfL,rdT3_eq,rdT5_eq,seq,maxI,minI,emp_eq,rdn3,rdn132,rdn72,rdn87,rdn101,rdn92,rdn76,rdn5,rdn63,rdn65,rdn4,rdn111,rdn83]
 refine ?_
 all_goals (try cases h)
 all_goals (try simp only [*,if_true,if_false,↓reduceIte,Option.bind_some,List.length_cons,List.length_nil,List.length_append,Bool.not_true,Bool.not_false,Bool.true_eq_false,Bool.false_eq_true])
 all_goals (repeat first | rw [if_pos (by omega)] | rw [if_neg (by omega)])
 all_goals first | exact h | apply h | rfl | (simp_all [-Bool.forall_bool];done) | (simp_all [-Bool.forall_bool];first | exact h | apply h) | (simp_all [-Bool.forall_bool,emp_eq,int_beq];done) | (simp_all [-Bool.forall_bool];(intros;simp_all;done)) | (simp_all [-Bool.forall_bool,rdset3,rdset132,rdset72,rdset87,rdset101,rdset92,rdset76,rdset5,rdset63,rdset65,rdset4,rdset111,rdset83];done) | grind
theorem laws_toVolS.rel_l (k : Nat) : (∀ x0 x3 x4 r,PK.laws_toVolS.l0 k x0 x3 x4 = some r → ∀ m,k ≤ m → laws_toVolS.c3 m x0 x4 x3 = some r):=by
 induction k using Nat.strongRecOn with
 | _ k ih =>
 have il0:=fun k' hk'=>(ih k' hk');clear ih;intro x0 x3 x4 r h m hm;cases k with
 | zero=>simp only [PK.laws_toVolS.l0] at h;cases h
 | succ k =>
  obtain ⟨m,rfl⟩ : ∃ m',m = m' + 1:=⟨m - 1,by omega⟩;rw [PK.laws_toVolS.l0] at h;rw [laws_toVolS.c3]
  try simp only [w64_eq,wu8_eq,gt_iff_lt,ge_iff_le,int_beq,fdiv33,fdiv45,bt_eq,tmodN,rdOfB,rdOfL] at h
  try simp only [shlR]
  try simp only [w64_eq,wu8_eq,gt_iff_lt,ge_iff_le,int_beq,fdiv33,fdiv45,bt_eq,tmodN,rdOfB,rdOfL,rdT3_eq,rdT5_eq,seq,maxI,minI,emp_eq,rdn3,rdn132,rdn72,rdn87,rdn101,rdn92,rdn76,rdn5,rdn63,rdn65,rdn4,rdn111,rdn83]
  refine (itE h (fun q h=>(itE h (fun q h=>(bnE h (fun _ g h=>(fun g=>(itE h (fun q h=>((fun h=>?_) (il0 _ (by omega) _ _ _ _ h m (by omega)))) (fun q h=>(noE h)))) (laws_toVol.rel m _ _ _ g m (by omega))))) (fun q h=>(noE h)))) (fun q h=>?_))
  all_goals clear il0
  all_goals (try cases h)
  all_goals (try simp only [*,if_true,if_false,↓reduceIte,Option.bind_some,List.length_cons,List.length_nil,List.length_append,Bool.not_true,Bool.not_false,Bool.true_eq_false,Bool.false_eq_true])
  all_goals (repeat first | rw [if_pos (by omega)] | rw [if_neg (by omega)])
  all_goals first | exact h | apply h | rfl | (simp_all [-Bool.forall_bool];done) | (simp_all [-Bool.forall_bool];first | exact h | apply h) | (simp_all [-Bool.forall_bool,emp_eq,int_beq];done) | (simp_all [-Bool.forall_bool];(intros;simp_all;done)) | (simp_all [-Bool.forall_bool,rdset3,rdset132,rdset72,rdset87,rdset101,rdset92,rdset76,rdset5,rdset63,rdset65,rdset4,rdset111,rdset83];done) | grind
theorem laws_toVolS.rel (k : Nat) (l0 : List (S87)) (r) (h : PK.laws_toVolS.f k l0 = some r) (m : Nat) (hm : k ≤ m) : laws_toVolS.f m l0 = some r:=by
 have il0:=fun k' (_ : k' < k + 1)=>(laws_toVolS.rel_l k');rw [PK.laws_toVolS.f] at h;rw [laws_toVolS.f]
 try simp only [w64_eq,wu8_eq,gt_iff_lt,ge_iff_le,int_beq,fdiv33,fdiv45,bt_eq,tmodN,rdOfB,rdOfL] at h
 try simp only [shlR]
 try simp only [w64_eq,wu8_eq,gt_iff_lt,ge_iff_le,int_beq,fdiv33,fdiv45,bt_eq,tmodN,rdOfB,rdOfL,rdT3_eq,rdT5_eq,seq,maxI,minI,emp_eq,rdn3,rdn132,rdn72,rdn87,rdn101,rdn92,rdn76,rdn5,rdn63,rdn65,rdn4,rdn111,rdn83]
 refine (itE h (fun q h=>(itE h (fun q h=>((fun h=>?_) (il0 _ (by omega) _ _ _ _ h m (by omega)))) (fun q h=>(noE h)))) (fun q h=>(noE h)))
 all_goals clear il0
 all_goals (try cases h)
 all_goals (try simp only [*,if_true,if_false,↓reduceIte,Option.bind_some,List.length_cons,List.length_nil,List.length_append,Bool.not_true,Bool.not_false,Bool.true_eq_false,Bool.false_eq_true])
 all_goals (repeat first | rw [if_pos (by omega)] | rw [if_neg (by omega)])
 all_goals first | exact h | apply h | rfl | (simp_all [-Bool.forall_bool];done) | (simp_all [-Bool.forall_bool];first | exact h | apply h) | (simp_all [-Bool.forall_bool,emp_eq,int_beq];done) | (simp_all [-Bool.forall_bool];(intros;simp_all;done)) | (simp_all [-Bool.forall_bool,rdset3,rdset132,rdset72,rdset87,rdset101,rdset92,rdset76,rdset5,rdset63,rdset65,rdset4,rdset111,rdset83];done) | grind
end Go.Proofs.YtibhkbljjnlpjaaGreat.M2

namespace Go.Proofs.YtibhkbljjnlpjaaGreat.M2
open Go Go.RowKit Go.Proofs.YtibhkbljjnlpjaaGreatW.PrintWords Go.Proofs.YtibhkbljjnlpjaaGreat.PK
set_option linter.unusedVariables false
set_option linter.unusedSimpArgs false
set_option maxHeartbeats 1600000
theorem laws_toIntS.rel_l (k : Nat) : (∀ x0 x3 x4 r,PK.laws_toIntS.l0 k x0 x3 x4 = some r → ∀ m,k ≤ m → laws_toIntS.c3 m x0 x4 x3 = some r):=by
 induction k using Nat.strongRecOn with
 | _ k ih =>
 have il0:=fun k' hk'=>(ih k' hk');clear ih;intro x0 x3 x4 r h m hm;cases k with
 | zero=>simp only [PK.laws_toIntS.l0] at h;cases h
 | succ k =>
  obtain ⟨m,rfl⟩ : ∃ m',m = m' + 1:=⟨m - 1,by omega⟩;rw [PK.laws_toIntS.l0] at h;rw [laws_toIntS.c3]
  try simp only [w64_eq,wu8_eq,gt_iff_lt,ge_iff_le,int_beq,fdiv33,fdiv45,bt_eq,tmodN,rdOfB,rdOfL] at h
  try simp only [shlR]
  try simp only [w64_eq,wu8_eq,gt_iff_lt,ge_iff_le,int_beq,fdiv33,fdiv45,bt_eq,tmodN,rdOfB,rdOfL,rdT3_eq,rdT5_eq,seq,maxI,minI,emp_eq,rdn3,rdn132,rdn72,rdn87,rdn101,rdn92,rdn76,rdn5,rdn63,rdn65,rdn4,rdn111,rdn83]
  refine (itE h (fun q h=>(itE h (fun q h=>(itE h (fun q h=>((fun h=>?_) (il0 _ (by omega) _ _ _ _ h m (by omega)))) (fun q h=>(noE h)))) (fun q h=>(noE h)))) (fun q h=>?_))
  all_goals clear il0
  all_goals (try cases h)
  all_goals (try simp only [*,if_true,if_false,↓reduceIte,Option.bind_some,List.length_cons,List.length_nil,List.length_append,Bool.not_true,Bool.not_false,Bool.true_eq_false,Bool.false_eq_true])
  all_goals (repeat first | rw [if_pos (by omega)] | rw [if_neg (by omega)])
  all_goals first | exact h | apply h | rfl | (simp_all [-Bool.forall_bool];done) | (simp_all [-Bool.forall_bool];first | exact h | apply h) | (simp_all [-Bool.forall_bool,emp_eq,int_beq];done) | (simp_all [-Bool.forall_bool];(intros;simp_all;done)) | (simp_all [-Bool.forall_bool,rdset3,rdset132,rdset72,rdset87,rdset101,rdset92,rdset76,rdset5,rdset63,rdset65,rdset4,rdset111,rdset83];done) | grind
theorem laws_toIntS.rel (k : Nat) (l0 : List Int) (r) (h : PK.laws_toIntS.f k l0 = some r) (m : Nat) (hm : k ≤ m) : laws_toIntS.f m l0 = some r:=by
 have il0:=fun k' (_ : k' < k + 1)=>(laws_toIntS.rel_l k');rw [PK.laws_toIntS.f] at h;rw [laws_toIntS.f]
 try simp only [w64_eq,wu8_eq,gt_iff_lt,ge_iff_le,int_beq,fdiv33,fdiv45,bt_eq,tmodN,rdOfB,rdOfL] at h
 try simp only [shlR]
 try simp only [w64_eq,wu8_eq,gt_iff_lt,ge_iff_le,int_beq,fdiv33,fdiv45,bt_eq,tmodN,rdOfB,rdOfL,rdT3_eq,rdT5_eq,seq,maxI,minI,emp_eq,rdn3,rdn132,rdn72,rdn87,rdn101,rdn92,rdn76,rdn5,rdn63,rdn65,rdn4,rdn111,rdn83]
 refine (itE h (fun q h=>(itE h (fun q h=>((fun h=>?_) (il0 _ (by omega) _ _ _ _ h m (by omega)))) (fun q h=>(noE h)))) (fun q h=>(noE h)))
 all_goals clear il0
 all_goals (try cases h)
 all_goals (try simp only [*,if_true,if_false,↓reduceIte,Option.bind_some,List.length_cons,List.length_nil,List.length_append,Bool.not_true,Bool.not_false,Bool.true_eq_false,Bool.false_eq_true])
 all_goals (repeat first | rw [if_pos (by omega)] | rw [if_neg (by omega)])
 all_goals first | exact h | apply h | rfl | (simp_all [-Bool.forall_bool];done) | (simp_all [-Bool.forall_bool];first | exact h | apply h) | (simp_all [-Bool.forall_bool,emp_eq,int_beq];done) | (simp_all [-Bool.forall_bool];(intros;simp_all;done)) | (simp_all [-Bool.forall_bool,rdset3,rdset132,rdset72,rdset87,rdset101,rdset92,rdset76,rdset5,rdset63,rdset65,rdset4,rdset111,rdset83];done) | grind
theorem laws_toKnot.rel (k : Nat) (a0_0 : Bool) (l0_1 : List Int) (r) (h : PK.laws_toKnot.f k a0_0 l0_1 = some r) (m : Nat) (hm : k ≤ m) : laws_toKnot.f m a0_0 l0_1 = some (r.1,r.2):=by
 rw [PK.laws_toKnot.f] at h;rw [laws_toKnot.f]
 try simp only [w64_eq,wu8_eq,gt_iff_lt,ge_iff_le,int_beq,fdiv33,fdiv45,bt_eq,tmodN,rdOfB,rdOfL] at h
 try simp only [shlR]
 try simp only [w64_eq,wu8_eq,gt_iff_lt,ge_iff_le,int_beq,fdiv33,fdiv45,bt_eq,tmodN,rdOfB,rdOfL,rdT3_eq,rdT5_eq,seq,maxI,minI,emp_eq,rdn3,rdn132,rdn72,rdn87,rdn101,rdn92,rdn76,rdn5,rdn63,rdn65,rdn4,rdn111,rdn83]
 refine (bnE h (fun _ g h=>(fun g=>?_) (laws_toIntS.rel _ _ _ g m (by omega))))
 all_goals (try cases h)
 all_goals (try simp only [*,if_true,if_false,↓reduceIte,Option.bind_some,List.length_cons,List.length_nil,List.length_append,Bool.not_true,Bool.not_false,Bool.true_eq_false,Bool.false_eq_true])
 all_goals (repeat first | rw [if_pos (by omega)] | rw [if_neg (by omega)])
 all_goals first | exact h | apply h | rfl | (simp_all [-Bool.forall_bool];done) | (simp_all [-Bool.forall_bool];first | exact h | apply h) | (simp_all [-Bool.forall_bool,emp_eq,int_beq];done) | (simp_all [-Bool.forall_bool];(intros;simp_all;done)) | (simp_all [-Bool.forall_bool,rdset3,rdset132,rdset72,rdset87,rdset101,rdset92,rdset76,rdset5,rdset63,rdset65,rdset4,rdset111,rdset83];done) | grind
theorem laws_toKnotS.rel_l (k : Nat) : (∀ x0 x3 x4 r,PK.laws_toKnotS.l0 k x0 x3 x4 = some r → ∀ m,k ≤ m → laws_toKnotS.c3 m x0 x4 x3 = some r):=by
 induction k using Nat.strongRecOn with
 | _ k ih =>
 have il0:=fun k' hk'=>(ih k' hk');clear ih;intro x0 x3 x4 r h m hm;cases k with
 | zero=>simp only [PK.laws_toKnotS.l0] at h;cases h
 | succ k =>
  obtain ⟨m,rfl⟩ : ∃ m',m = m' + 1:=⟨m - 1,by omega⟩;rw [PK.laws_toKnotS.l0] at h;rw [laws_toKnotS.c3]
  try simp only [w64_eq,wu8_eq,gt_iff_lt,ge_iff_le,int_beq,fdiv33,fdiv45,bt_eq,tmodN,rdOfB,rdOfL] at h
  try simp only [shlR]
  try simp only [w64_eq,wu8_eq,gt_iff_lt,ge_iff_le,int_beq,fdiv33,fdiv45,bt_eq,tmodN,rdOfB,rdOfL,rdT3_eq,rdT5_eq,seq,maxI,minI,emp_eq,rdn3,rdn132,rdn72,rdn87,rdn101,rdn92,rdn76,rdn5,rdn63,rdn65,rdn4,rdn111,rdn83]
  refine (itE h (fun q h=>(itE h (fun q h=>(bnE h (fun _ g h=>(fun g=>(itE h (fun q h=>((fun h=>?_) (il0 _ (by omega) _ _ _ _ h m (by omega)))) (fun q h=>(noE h)))) (laws_toKnot.rel _ _ _ _ g m (by omega))))) (fun q h=>(noE h)))) (fun q h=>?_))
  all_goals clear il0
  all_goals (try cases h)
  all_goals (try simp only [*,if_true,if_false,↓reduceIte,Option.bind_some,List.length_cons,List.length_nil,List.length_append,Bool.not_true,Bool.not_false,Bool.true_eq_false,Bool.false_eq_true])
  all_goals (repeat first | rw [if_pos (by omega)] | rw [if_neg (by omega)])
  all_goals first | exact h | apply h | rfl | (simp_all [-Bool.forall_bool];done) | (simp_all [-Bool.forall_bool];first | exact h | apply h) | (simp_all [-Bool.forall_bool,emp_eq,int_beq];done) | (simp_all [-Bool.forall_bool];(intros;simp_all;done)) | (simp_all [-Bool.forall_bool,rdset3,rdset132,rdset72,rdset87,rdset101,rdset92,rdset76,rdset5,rdset63,rdset65,rdset4,rdset111,rdset83];done) | grind
theorem laws_toKnotS.rel (k : Nat) (l0 : List (S101)) (r) (h : PK.laws_toKnotS.f k l0 = some r) (m : Nat) (hm : k ≤ m) : laws_toKnotS.f m l0 = some r:=by
 have il0:=fun k' (_ : k' < k + 1)=>(laws_toKnotS.rel_l k');rw [PK.laws_toKnotS.f] at h;rw [laws_toKnotS.f]
 try simp only [w64_eq,wu8_eq,gt_iff_lt,ge_iff_le,int_beq,fdiv33,fdiv45,bt_eq,tmodN,rdOfB,rdOfL] at h
 try simp only [shlR]
 try simp only [w64_eq,wu8_eq,gt_iff_lt,ge_iff_le,int_beq,fdiv33,fdiv45,bt_eq,tmodN,rdOfB,rdOfL,rdT3_eq,rdT5_eq,seq,maxI,minI,emp_eq,rdn3,rdn132,rdn72,rdn87,rdn101,rdn92,rdn76,rdn5,rdn63,rdn65,rdn4,rdn111,rdn83]
 refine (itE h (fun q h=>(itE h (fun q h=>((fun h=>?_) (il0 _ (by omega) _ _ _ _ h m (by omega)))) (fun q h=>(noE h)))) (fun q h=>(noE h)))
 all_goals clear il0
 all_goals (try cases h)
 all_goals (try simp only [*,if_true,if_false,↓reduceIte,Option.bind_some,List.length_cons,List.length_nil,List.length_append,Bool.not_true,Bool.not_false,Bool.true_eq_false,Bool.false_eq_true])
 all_goals (repeat first | rw [if_pos (by omega)] | rw [if_neg (by omega)])
 all_goals first | exact h | apply h | rfl | (simp_all [-Bool.forall_bool];done) | (simp_all [-Bool.forall_bool];first | exact h | apply h) | (simp_all [-Bool.forall_bool,emp_eq,int_beq];done) | (simp_all [-Bool.forall_bool];(intros;simp_all;done)) | (simp_all [-Bool.forall_bool,rdset3,rdset132,rdset72,rdset87,rdset101,rdset92,rdset76,rdset5,rdset63,rdset65,rdset4,rdset111,rdset83];done) | grind
end Go.Proofs.YtibhkbljjnlpjaaGreat.M2

namespace Go.Proofs.YtibhkbljjnlpjaaGreat.M2
open Go Go.RowKit Go.Proofs.YtibhkbljjnlpjaaGreatW.PrintWords Go.Proofs.YtibhkbljjnlpjaaGreat.PK
set_option linter.unusedVariables false
set_option linter.unusedSimpArgs false
set_option maxHeartbeats 1600000
theorem laws_toArena.rel (k : Nat) (l0_0 : List (S101)) (r) (h : PK.laws_toArena.f k l0_0 = some r) (m : Nat) (hm : k ≤ m) : laws_toArena.f m l0_0 = some r:=by
 rw [PK.laws_toArena.f] at h;rw [laws_toArena.f]
 try simp only [w64_eq,wu8_eq,gt_iff_lt,ge_iff_le,int_beq,fdiv33,fdiv45,bt_eq,tmodN,rdOfB,rdOfL] at h
 try simp only [shlR]
 try simp only [w64_eq,wu8_eq,gt_iff_lt,ge_iff_le,int_beq,fdiv33,fdiv45,bt_eq,tmodN,rdOfB,rdOfL,rdT3_eq,rdT5_eq,seq,maxI,minI,emp_eq,rdn3,rdn132,rdn72,rdn87,rdn101,rdn92,rdn76,rdn5,rdn63,rdn65,rdn4,rdn111,rdn83]
 refine (bnE h (fun _ g h=>(fun g=>?_) (laws_toKnotS.rel _ _ _ g m (by omega))))
 all_goals (try cases h)
 all_goals (try simp only [*,if_true,if_false,↓reduceIte,Option.bind_some,List.length_cons,List.length_nil,List.length_append,Bool.not_true,Bool.not_false,Bool.true_eq_false,Bool.false_eq_true])
 all_goals (repeat first | rw [if_pos (by omega)] | rw [if_neg (by omega)])
 all_goals first | exact h | apply h | rfl | (simp_all [-Bool.forall_bool];done) | (simp_all [-Bool.forall_bool];first | exact h | apply h) | (simp_all [-Bool.forall_bool,emp_eq,int_beq];done) | (simp_all [-Bool.forall_bool];(intros;simp_all;done)) | (simp_all [-Bool.forall_bool,rdset3,rdset132,rdset72,rdset87,rdset101,rdset92,rdset76,rdset5,rdset63,rdset65,rdset4,rdset111,rdset83];done) | grind
theorem laws_toStore.rel (k : Nat) (l0_0 : List (S87)) (l0_1 : List (S101)) (a0_2 : Int) (r) (h : PK.laws_toStore.f k l0_0 l0_1 a0_2 = some r) (m : Nat) (hm : k ≤ m) : laws_toStore.f m l0_0 l0_1 a0_2 = some (r.1,r.2.1,r.2.2):=by
 rw [PK.laws_toStore.f] at h;rw [laws_toStore.f]
 try simp only [w64_eq,wu8_eq,gt_iff_lt,ge_iff_le,int_beq,fdiv33,fdiv45,bt_eq,tmodN,rdOfB,rdOfL] at h
 try simp only [shlR]
 try simp only [w64_eq,wu8_eq,gt_iff_lt,ge_iff_le,int_beq,fdiv33,fdiv45,bt_eq,tmodN,rdOfB,rdOfL,rdT3_eq,rdT5_eq,seq,maxI,minI,emp_eq,rdn3,rdn132,rdn72,rdn87,rdn101,rdn92,rdn76,rdn5,rdn63,rdn65,rdn4,rdn111,rdn83]
 refine (bnE h (fun _ g h=>(fun g=>(bnE h (fun _ g h=>(fun g=>?_) (laws_toArena.rel _ _ _ g m (by omega))))) (laws_toVolS.rel _ _ _ g m (by omega))))
 all_goals (try cases h)
 all_goals (try simp only [*,if_true,if_false,↓reduceIte,Option.bind_some,List.length_cons,List.length_nil,List.length_append,Bool.not_true,Bool.not_false,Bool.true_eq_false,Bool.false_eq_true])
 all_goals (repeat first | rw [if_pos (by omega)] | rw [if_neg (by omega)])
 all_goals first | exact h | apply h | rfl | (simp_all [-Bool.forall_bool];done) | (simp_all [-Bool.forall_bool];first | exact h | apply h) | (simp_all [-Bool.forall_bool,emp_eq,int_beq];done) | (simp_all [-Bool.forall_bool];(intros;simp_all;done)) | (simp_all [-Bool.forall_bool,rdset3,rdset132,rdset72,rdset87,rdset101,rdset92,rdset76,rdset5,rdset63,rdset65,rdset4,rdset111,rdset83];done) | grind
theorem laws_eqVol.rel (k : Nat) (a0_0 : Int) (a0_1 : Int) (a1_0 : Int) (a1_1 : Int) (r) (h : PK.laws_eqVol.f a0_0 a0_1 a1_0 a1_1 = some r) (m : Nat) (hm : k ≤ m) : laws_eqVol.f m a0_0 a0_1 a1_0 a1_1 = some r:=by
 rw [PK.laws_eqVol.f] at h;rw [laws_eqVol.f]
 try simp only [w64_eq,wu8_eq,gt_iff_lt,ge_iff_le,int_beq,fdiv33,fdiv45,bt_eq,tmodN,rdOfB,rdOfL] at h
 try simp only [shlR]
 try simp only [w64_eq,wu8_eq,gt_iff_lt,ge_iff_le,int_beq,fdiv33,fdiv45,bt_eq,tmodN,rdOfB,rdOfL,rdT3_eq,rdT5_eq,seq,maxI,minI,emp_eq,rdn3,rdn132,rdn72,rdn87,rdn101,rdn92,rdn76,rdn5,rdn63,rdn65,rdn4,rdn111,rdn83]
 refine (itE h (fun q h=>(itE h (fun q h=>?_) (fun q h=>?_))) (fun q h=>?_))
 all_goals (try cases h)
 all_goals (try simp only [*,if_true,if_false,↓reduceIte,Option.bind_some,List.length_cons,List.length_nil,List.length_append,Bool.not_true,Bool.not_false,Bool.true_eq_false,Bool.false_eq_true])
 all_goals (repeat first | rw [if_pos (by omega)] | rw [if_neg (by omega)])
 all_goals first | exact h | apply h | rfl | (simp_all [-Bool.forall_bool];done) | (simp_all [-Bool.forall_bool];first | exact h | apply h) | (simp_all [-Bool.forall_bool,emp_eq,int_beq];done) | (simp_all [-Bool.forall_bool];(intros;simp_all;done)) | (simp_all [-Bool.forall_bool,rdset3,rdset132,rdset72,rdset87,rdset101,rdset92,rdset76,rdset5,rdset63,rdset65,rdset4,rdset111,rdset83];done) | grind
theorem laws_eqVolS.rel_l (k : Nat) : (∀ x0 x1 x5 r,PK.laws_eqVolS.l0 k x0 x1 x5 = some r → ∀ m,k ≤ m → laws_eqVolS.c4 m x0 x1 x5 = some r):=by
 induction k using Nat.strongRecOn with
 | _ k ih =>
 have il0:=fun k' hk'=>(ih k' hk');clear ih;intro x0 x1 x5 r h m hm;cases k with
 | zero=>simp only [PK.laws_eqVolS.l0] at h;cases h
 | succ k =>
  obtain ⟨m,rfl⟩ : ∃ m',m = m' + 1:=⟨m - 1,by omega⟩;rw [PK.laws_eqVolS.l0] at h;rw [laws_eqVolS.c4]
  try simp only [w64_eq,wu8_eq,gt_iff_lt,ge_iff_le,int_beq,fdiv33,fdiv45,bt_eq,tmodN,rdOfB,rdOfL] at h
  try simp only [shlR]
  try simp only [w64_eq,wu8_eq,gt_iff_lt,ge_iff_le,int_beq,fdiv33,fdiv45,bt_eq,tmodN,rdOfB,rdOfL,rdT3_eq,rdT5_eq,seq,maxI,minI,emp_eq,rdn3,rdn132,rdn72,rdn87,rdn101,rdn92,rdn76,rdn5,rdn63,rdn65,rdn4,rdn111,rdn83]
  refine (itE h (fun q h=>(itE h (fun q h=>(itE h (fun q h=>(bnE h (fun _ g h=>(fun g=>(itE h (fun q h=>((fun h=>?_) (il0 _ (by omega) _ _ _ _ h m (by omega)))) (fun q h=>?_))) (laws_eqVol.rel m _ _ _ _ _ g m (by omega))))) (fun q h=>(noE h)))) (fun q h=>(noE h)))) (fun q h=>?_))
  all_goals clear il0
  all_goals (try cases h)
  all_goals (try simp only [*,if_true,if_false,↓reduceIte,Option.bind_some,List.length_cons,List.length_nil,List.length_append,Bool.not_true,Bool.not_false,Bool.true_eq_false,Bool.false_eq_true])
  all_goals (repeat first | rw [if_pos (by omega)] | rw [if_neg (by omega)])
  all_goals first | exact h | apply h | rfl | (simp_all [-Bool.forall_bool];done) | (simp_all [-Bool.forall_bool];first | exact h | apply h) | (simp_all [-Bool.forall_bool,emp_eq,int_beq];done) | (simp_all [-Bool.forall_bool];(intros;simp_all;done)) | (simp_all [-Bool.forall_bool,rdset3,rdset132,rdset72,rdset87,rdset101,rdset92,rdset76,rdset5,rdset63,rdset65,rdset4,rdset111,rdset83];done) | grind
theorem laws_eqVolS.rel (k : Nat) (l0 : List (S83)) (l1 : List (S83)) (r) (h : PK.laws_eqVolS.f k l0 l1 = some r) (m : Nat) (hm : k ≤ m) : laws_eqVolS.f m l0 l1 = some r:=by
 have il0:=fun k' (_ : k' < k + 1)=>(laws_eqVolS.rel_l k');rw [PK.laws_eqVolS.f] at h;rw [laws_eqVolS.f]
 try simp only [w64_eq,wu8_eq,gt_iff_lt,ge_iff_le,int_beq,fdiv33,fdiv45,bt_eq,tmodN,rdOfB,rdOfL] at h
 try simp only [shlR]
 try simp only [w64_eq,wu8_eq,gt_iff_lt,ge_iff_le,int_beq,fdiv33,fdiv45,bt_eq,tmodN,rdOfB,rdOfL,rdT3_eq,rdT5_eq,seq,maxI,minI,emp_eq,rdn3,rdn132,rdn72,rdn87,rdn101,rdn92,rdn76,rdn5,rdn63,rdn65,rdn4,rdn111,rdn83]
 refine (itE h (fun q h=>((fun h=>?_) (il0 _ (by omega) _ _ _ _ h m (by omega)))) (fun q h=>?_))
 all_goals clear il0
 all_goals (try cases h)
 all_goals (try simp only [*,if_true,if_false,↓reduceIte,Option.bind_some,List.length_cons,List.length_nil,List.length_append,Bool.not_true,Bool.not_false,Bool.true_eq_false,Bool.false_eq_true])
 all_goals (repeat first | rw [if_pos (by omega)] | rw [if_neg (by omega)])
 all_goals first | exact h | apply h | rfl | (simp_all [-Bool.forall_bool];done) | (simp_all [-Bool.forall_bool];first | exact h | apply h) | (simp_all [-Bool.forall_bool,emp_eq,int_beq];done) | (simp_all [-Bool.forall_bool];(intros;simp_all;done)) | (simp_all [-Bool.forall_bool,rdset3,rdset132,rdset72,rdset87,rdset101,rdset92,rdset76,rdset5,rdset63,rdset65,rdset4,rdset111,rdset83];done) | grind
end Go.Proofs.YtibhkbljjnlpjaaGreat.M2

namespace Go.Proofs.YtibhkbljjnlpjaaGreat.M2
open Go Go.RowKit Go.Proofs.YtibhkbljjnlpjaaGreatW.PrintWords Go.Proofs.YtibhkbljjnlpjaaGreat.PK
set_option linter.unusedVariables false
set_option linter.unusedSimpArgs false
set_option maxHeartbeats 1600000
theorem laws_eqIntS.rel_l (k : Nat) : (∀ x0 x1 x5 r,PK.laws_eqIntS.l0 k x0 x1 x5 = some r → ∀ m,k ≤ m → laws_eqIntS.c4 m x0 x1 x5 = some r):=by
 induction k using Nat.strongRecOn with
 | _ k ih =>
 have il0:=fun k' hk'=>(ih k' hk');clear ih;intro x0 x1 x5 r h m hm;cases k with
 | zero=>simp only [PK.laws_eqIntS.l0] at h;cases h
 | succ k =>
  obtain ⟨m,rfl⟩ : ∃ m',m = m' + 1:=⟨m - 1,by omega⟩;rw [PK.laws_eqIntS.l0] at h;rw [laws_eqIntS.c4]
  try simp only [w64_eq,wu8_eq,gt_iff_lt,ge_iff_le,int_beq,fdiv33,fdiv45,bt_eq,tmodN,rdOfB,rdOfL] at h
  try simp only [shlR]
  try simp only [w64_eq,wu8_eq,gt_iff_lt,ge_iff_le,int_beq,fdiv33,fdiv45,bt_eq,tmodN,rdOfB,rdOfL,rdT3_eq,rdT5_eq,seq,maxI,minI,emp_eq,rdn3,rdn132,rdn72,rdn87,rdn101,rdn92,rdn76,rdn5,rdn63,rdn65,rdn4,rdn111,rdn83]
  refine (itE h (fun q h=>(itE h (fun q h=>(itE h (fun q h=>(itE h (fun q h=>((fun h=>?_) (il0 _ (by omega) _ _ _ _ h m (by omega)))) (fun q h=>?_))) (fun q h=>(noE h)))) (fun q h=>(noE h)))) (fun q h=>?_))
  all_goals clear il0
  all_goals (try cases h)
  all_goals (try simp only [*,if_true,if_false,↓reduceIte,Option.bind_some,List.length_cons,List.length_nil,List.length_append,Bool.not_true,Bool.not_false,Bool.true_eq_false,Bool.false_eq_true])
  all_goals (repeat first | rw [if_pos (by omega)] | rw [if_neg (by omega)])
  all_goals first | exact h | apply h | rfl | (simp_all [-Bool.forall_bool];done) | (simp_all [-Bool.forall_bool];first | exact h | apply h) | (simp_all [-Bool.forall_bool,emp_eq,int_beq];done) | (simp_all [-Bool.forall_bool];(intros;simp_all;done)) | (simp_all [-Bool.forall_bool,rdset3,rdset132,rdset72,rdset87,rdset101,rdset92,rdset76,rdset5,rdset63,rdset65,rdset4,rdset111,rdset83];done) | grind
theorem laws_eqIntS.rel (k : Nat) (l0 : List Int) (l1 : List Int) (r) (h : PK.laws_eqIntS.f k l0 l1 = some r) (m : Nat) (hm : k ≤ m) : laws_eqIntS.f m l0 l1 = some r:=by
 have il0:=fun k' (_ : k' < k + 1)=>(laws_eqIntS.rel_l k');rw [PK.laws_eqIntS.f] at h;rw [laws_eqIntS.f]
 try simp only [w64_eq,wu8_eq,gt_iff_lt,ge_iff_le,int_beq,fdiv33,fdiv45,bt_eq,tmodN,rdOfB,rdOfL] at h
 try simp only [shlR]
 try simp only [w64_eq,wu8_eq,gt_iff_lt,ge_iff_le,int_beq,fdiv33,fdiv45,bt_eq,tmodN,rdOfB,rdOfL,rdT3_eq,rdT5_eq,seq,maxI,minI,emp_eq,rdn3,rdn132,rdn72,rdn87,rdn101,rdn92,rdn76,rdn5,rdn63,rdn65,rdn4,rdn111,rdn83]
 refine (itE h (fun q h=>((fun h=>?_) (il0 _ (by omega) _ _ _ _ h m (by omega)))) (fun q h=>?_))
 all_goals clear il0
 all_goals (try cases h)
 all_goals (try simp only [*,if_true,if_false,↓reduceIte,Option.bind_some,List.length_cons,List.length_nil,List.length_append,Bool.not_true,Bool.not_false,Bool.true_eq_false,Bool.false_eq_true])
 all_goals (repeat first | rw [if_pos (by omega)] | rw [if_neg (by omega)])
 all_goals first | exact h | apply h | rfl | (simp_all [-Bool.forall_bool];done) | (simp_all [-Bool.forall_bool];first | exact h | apply h) | (simp_all [-Bool.forall_bool,emp_eq,int_beq];done) | (simp_all [-Bool.forall_bool];(intros;simp_all;done)) | (simp_all [-Bool.forall_bool,rdset3,rdset132,rdset72,rdset87,rdset101,rdset92,rdset76,rdset5,rdset63,rdset65,rdset4,rdset111,rdset83];done) | grind
theorem laws_eqKnot.rel (k : Nat) (a0_0 : Bool) (l0_1 : List Int) (a1_0 : Bool) (l1_1 : List Int) (r) (h : PK.laws_eqKnot.f k a0_0 l0_1 a1_0 l1_1 = some r) (m : Nat) (hm : k ≤ m) : laws_eqKnot.f m a0_0 l0_1 a1_0 l1_1 = some r:=by
 rw [PK.laws_eqKnot.f] at h;rw [laws_eqKnot.f]
 try simp only [w64_eq,wu8_eq,gt_iff_lt,ge_iff_le,int_beq,fdiv33,fdiv45,bt_eq,tmodN,rdOfB,rdOfL] at h
 try simp only [shlR]
 try simp only [w64_eq,wu8_eq,gt_iff_lt,ge_iff_le,int_beq,fdiv33,fdiv45,bt_eq,tmodN,rdOfB,rdOfL,rdT3_eq,rdT5_eq,seq,maxI,minI,emp_eq,rdn3,rdn132,rdn72,rdn87,rdn101,rdn92,rdn76,rdn5,rdn63,rdn65,rdn4,rdn111,rdn83]
 refine (itE h (fun q h=>?_) (fun q h=>(bnE h (fun _ g h=>(fun g=>(itE h (fun q h=>?_) (fun q h=>?_))) (laws_eqIntS.rel _ _ _ _ g m (by omega))))))
 all_goals (try cases h)
 all_goals (try simp only [*,if_true,if_false,↓reduceIte,Option.bind_some,List.length_cons,List.length_nil,List.length_append,Bool.not_true,Bool.not_false,Bool.true_eq_false,Bool.false_eq_true])
 all_goals (repeat first | rw [if_pos (by omega)] | rw [if_neg (by omega)])
 all_goals first | exact h | apply h | rfl | (simp_all [-Bool.forall_bool];done) | (simp_all [-Bool.forall_bool];first | exact h | apply h) | (simp_all [-Bool.forall_bool,emp_eq,int_beq];done) | (simp_all [-Bool.forall_bool];(intros;simp_all;done)) | (simp_all [-Bool.forall_bool,rdset3,rdset132,rdset72,rdset87,rdset101,rdset92,rdset76,rdset5,rdset63,rdset65,rdset4,rdset111,rdset83];done) | grind
theorem laws_eqKnotS.rel_l (k : Nat) : (∀ x0 x1 x5 r,PK.laws_eqKnotS.l0 k x0 x1 x5 = some r → ∀ m,k ≤ m → laws_eqKnotS.c4 m x0 x1 x5 = some r):=by
 induction k using Nat.strongRecOn with
 | _ k ih =>
 have il0:=fun k' hk'=>(ih k' hk');clear ih;intro x0 x1 x5 r h m hm;cases k with
 | zero=>simp only [PK.laws_eqKnotS.l0] at h;cases h
 | succ k =>
  obtain ⟨m,rfl⟩ : ∃ m',m = m' + 1:=⟨m - 1,by omega⟩;rw [PK.laws_eqKnotS.l0] at h;rw [laws_eqKnotS.c4]
  try simp only [w64_eq,wu8_eq,gt_iff_lt,ge_iff_le,int_beq,fdiv33,fdiv45,bt_eq,tmodN,rdOfB,rdOfL] at h
  try simp only [shlR]
  try simp only [w64_eq,wu8_eq,gt_iff_lt,ge_iff_le,int_beq,fdiv33,fdiv45,bt_eq,tmodN,rdOfB,rdOfL,rdT3_eq,rdT5_eq,seq,maxI,minI,emp_eq,rdn3,rdn132,rdn72,rdn87,rdn101,rdn92,rdn76,rdn5,rdn63,rdn65,rdn4,rdn111,rdn83]
  refine (itE h (fun q h=>(itE h (fun q h=>(itE h (fun q h=>(bnE h (fun _ g h=>(fun g=>(itE h (fun q h=>((fun h=>?_) (il0 _ (by omega) _ _ _ _ h m (by omega)))) (fun q h=>?_))) (laws_eqKnot.rel _ _ _ _ _ _ g m (by omega))))) (fun q h=>(noE h)))) (fun q h=>(noE h)))) (fun q h=>?_))
  all_goals clear il0
  all_goals (try cases h)
  all_goals (try simp only [*,if_true,if_false,↓reduceIte,Option.bind_some,List.length_cons,List.length_nil,List.length_append,Bool.not_true,Bool.not_false,Bool.true_eq_false,Bool.false_eq_true])
  all_goals (repeat first | rw [if_pos (by omega)] | rw [if_neg (by omega)])
  all_goals first | exact h | apply h | rfl | (simp_all [-Bool.forall_bool];done) | (simp_all [-Bool.forall_bool];first | exact h | apply h) | (simp_all [-Bool.forall_bool,emp_eq,int_beq];done) | (simp_all [-Bool.forall_bool];(intros;simp_all;done)) | (simp_all [-Bool.forall_bool,rdset3,rdset132,rdset72,rdset87,rdset101,rdset92,rdset76,rdset5,rdset63,rdset65,rdset4,rdset111,rdset83];done) | grind
theorem laws_eqKnotS.rel (k : Nat) (l0 : List (S111)) (l1 : List (S111)) (r) (h : PK.laws_eqKnotS.f k l0 l1 = some r) (m : Nat) (hm : k ≤ m) : laws_eqKnotS.f m l0 l1 = some r:=by
 have il0:=fun k' (_ : k' < k + 1)=>(laws_eqKnotS.rel_l k');rw [PK.laws_eqKnotS.f] at h;rw [laws_eqKnotS.f]
 try simp only [w64_eq,wu8_eq,gt_iff_lt,ge_iff_le,int_beq,fdiv33,fdiv45,bt_eq,tmodN,rdOfB,rdOfL] at h
 try simp only [shlR]
 try simp only [w64_eq,wu8_eq,gt_iff_lt,ge_iff_le,int_beq,fdiv33,fdiv45,bt_eq,tmodN,rdOfB,rdOfL,rdT3_eq,rdT5_eq,seq,maxI,minI,emp_eq,rdn3,rdn132,rdn72,rdn87,rdn101,rdn92,rdn76,rdn5,rdn63,rdn65,rdn4,rdn111,rdn83]
 refine (itE h (fun q h=>((fun h=>?_) (il0 _ (by omega) _ _ _ _ h m (by omega)))) (fun q h=>?_))
 all_goals clear il0
 all_goals (try cases h)
 all_goals (try simp only [*,if_true,if_false,↓reduceIte,Option.bind_some,List.length_cons,List.length_nil,List.length_append,Bool.not_true,Bool.not_false,Bool.true_eq_false,Bool.false_eq_true])
 all_goals (repeat first | rw [if_pos (by omega)] | rw [if_neg (by omega)])
 all_goals first | exact h | apply h | rfl | (simp_all [-Bool.forall_bool];done) | (simp_all [-Bool.forall_bool];first | exact h | apply h) | (simp_all [-Bool.forall_bool,emp_eq,int_beq];done) | (simp_all [-Bool.forall_bool];(intros;simp_all;done)) | (simp_all [-Bool.forall_bool,rdset3,rdset132,rdset72,rdset87,rdset101,rdset92,rdset76,rdset5,rdset63,rdset65,rdset4,rdset111,rdset83];done) | grind
end Go.Proofs.YtibhkbljjnlpjaaGreat.M2

namespace Go.Proofs.YtibhkbljjnlpjaaGreat.M2
open Go Go.RowKit Go.Proofs.YtibhkbljjnlpjaaGreatW.PrintWords Go.Proofs.YtibhkbljjnlpjaaGreat.PK
set_option linter.unusedVariables false
set_option linter.unusedSimpArgs false
set_option maxHeartbeats 1600000
theorem laws_eqArena.rel (k : Nat) (l0_0 : List (S111)) (l1_0 : List (S111)) (r) (h : PK.laws_eqArena.f k l0_0 l1_0 = some r) (m : Nat) (hm : k ≤ m) : laws_eqArena.f m l0_0 l1_0 = some r:=by
 rw [PK.laws_eqArena.f] at h;rw [laws_eqArena.f]
 try simp only [w64_eq,wu8_eq,gt_iff_lt,ge_iff_le,int_beq,fdiv33,fdiv45,bt_eq,tmodN,rdOfB,rdOfL] at h
 try simp only [shlR]
 try simp only [w64_eq,wu8_eq,gt_iff_lt,ge_iff_le,int_beq,fdiv33,fdiv45,bt_eq,tmodN,rdOfB,rdOfL,rdT3_eq,rdT5_eq,seq,maxI,minI,emp_eq,rdn3,rdn132,rdn72,rdn87,rdn101,rdn92,rdn76,rdn5,rdn63,rdn65,rdn4,rdn111,rdn83]
 refine (bnE h (fun _ g h=>(fun g=>(itE h (fun q h=>?_) (fun q h=>?_))) (laws_eqKnotS.rel _ _ _ _ g m (by omega))))
 all_goals (try cases h)
 all_goals (try simp only [*,if_true,if_false,↓reduceIte,Option.bind_some,List.length_cons,List.length_nil,List.length_append,Bool.not_true,Bool.not_false,Bool.true_eq_false,Bool.false_eq_true])
 all_goals (repeat first | rw [if_pos (by omega)] | rw [if_neg (by omega)])
 all_goals first | exact h | apply h | rfl | (simp_all [-Bool.forall_bool];done) | (simp_all [-Bool.forall_bool];first | exact h | apply h) | (simp_all [-Bool.forall_bool,emp_eq,int_beq];done) | (simp_all [-Bool.forall_bool];(intros;simp_all;done)) | (simp_all [-Bool.forall_bool,rdset3,rdset132,rdset72,rdset87,rdset101,rdset92,rdset76,rdset5,rdset63,rdset65,rdset4,rdset111,rdset83];done) | grind
theorem laws_eqStore.rel (k : Nat) (l0_0 : List (S83)) (l0_1 : List (S111)) (a0_2 : Int) (l1_0 : List (S83)) (l1_1 : List (S111)) (a1_2 : Int) (r) (h : PK.laws_eqStore.f k l0_0 l0_1 a0_2 l1_0 l1_1 a1_2 = some r) (m : Nat) (hm : k ≤ m) : laws_eqStore.f m l0_0 l0_1 a0_2 l1_0 l1_1 a1_2 = some r:=by
 rw [PK.laws_eqStore.f] at h;rw [laws_eqStore.f]
 try simp only [w64_eq,wu8_eq,gt_iff_lt,ge_iff_le,int_beq,fdiv33,fdiv45,bt_eq,tmodN,rdOfB,rdOfL] at h
 try simp only [shlR]
 try simp only [w64_eq,wu8_eq,gt_iff_lt,ge_iff_le,int_beq,fdiv33,fdiv45,bt_eq,tmodN,rdOfB,rdOfL,rdT3_eq,rdT5_eq,seq,maxI,minI,emp_eq,rdn3,rdn132,rdn72,rdn87,rdn101,rdn92,rdn76,rdn5,rdn63,rdn65,rdn4,rdn111,rdn83]
 refine (bnE h (fun _ g h=>(fun g=>(itE h (fun q h=>(bnE h (fun _ g h=>(fun g=>(itE h (fun q h=>(itE h (fun q h=>?_) (fun q h=>?_))) (fun q h=>?_))) (laws_eqArena.rel _ _ _ _ g m (by omega))))) (fun q h=>?_))) (laws_eqVolS.rel _ _ _ _ g m (by omega))))
 all_goals (try cases h)
 all_goals (try simp only [*,if_true,if_false,↓reduceIte,Option.bind_some,List.length_cons,List.length_nil,List.length_append,Bool.not_true,Bool.not_false,Bool.true_eq_false,Bool.false_eq_true])
 all_goals (repeat first | rw [if_pos (by omega)] | rw [if_neg (by omega)])
 all_goals first | exact h | apply h | rfl | (simp_all [-Bool.forall_bool];done) | (simp_all [-Bool.forall_bool];first | exact h | apply h) | (simp_all [-Bool.forall_bool,emp_eq,int_beq];done) | (simp_all [-Bool.forall_bool];(intros;simp_all;done)) | (simp_all [-Bool.forall_bool,rdset3,rdset132,rdset72,rdset87,rdset101,rdset92,rdset76,rdset5,rdset63,rdset65,rdset4,rdset111,rdset83];done) | grind
theorem spec_ArenaOk.rel_l (k : Nat) : (∀ x3 x193000 r,PK.spec_ArenaOk.l0 k x3 x193000 = some r → ∀ m,k ≤ m → spec_ArenaOk.c2 m x3 x193000 = some r) ∧ (∀ x3 x5 x193000 x195000 x195001 r,PK.spec_ArenaOk.l1 k x3 x5 x193000 x195000 x195001 = some r → ∀ m,k ≤ m → spec_ArenaOk.c8 m x3 x5 x193000 x195000 x195001 = some r):=by
 induction k using Nat.strongRecOn with
 | _ k ih =>
 have il0:=fun k' hk'=>(ih k' hk').1;have il1:=fun k' hk'=>(ih k' hk').2;clear ih;refine ⟨?_,?_⟩
 ·intro x3 x193000 r h m hm;cases k with
  | zero=>simp only [PK.spec_ArenaOk.l0] at h;cases h
  | succ k =>
   obtain ⟨m,rfl⟩ : ∃ m',m = m' + 1:=⟨m - 1,by omega⟩;rw [PK.spec_ArenaOk.l0] at h;rw [spec_ArenaOk.c2]
   try simp only [w64_eq,wu8_eq,gt_iff_lt,ge_iff_le,int_beq,fdiv33,fdiv45,bt_eq,tmodN,rdOfB,rdOfL] at h
   try simp only [shlR]
   try simp only [w64_eq,wu8_eq,gt_iff_lt,ge_iff_le,int_beq,fdiv33,fdiv45,bt_eq,tmodN,rdOfB,rdOfL,rdT3_eq,rdT5_eq,seq,maxI,minI,emp_eq,rdn3,rdn132,rdn72,rdn87,rdn101,rdn92,rdn76,rdn5,rdn63,rdn65,rdn4,rdn111,rdn83]
   refine (itE h (fun q h=>(itE h (fun q h=>(itE h (fun q h=>((fun h=>?_) (il1 _ (by omega) _ _ _ _ _ _ h m (by omega)))) (fun q h=>?_))) (fun q h=>(noE h)))) (fun q h=>?_))
   all_goals clear il0 il1
   all_goals (try cases h)
   all_goals (try simp only [*,if_true,if_false,↓reduceIte,Option.bind_some,List.length_cons,List.length_nil,List.length_append,Bool.not_true,Bool.not_false,Bool.true_eq_false,Bool.false_eq_true])
   all_goals (repeat first | rw [if_pos (by omega)] | rw [if_neg (by omega)])
   all_goals first | exact h | apply h | rfl | (simp_all [-Bool.forall_bool];done) | (simp_all [-Bool.forall_bool];first | exact h | apply h) | (simp_all [-Bool.forall_bool,emp_eq,int_beq];done) | (simp_all [-Bool.forall_bool];(intros;simp_all;done)) | (simp_all [-Bool.forall_bool,rdset3,rdset132,rdset72,rdset87,rdset101,rdset92,rdset76,rdset5,rdset63,rdset65,rdset4,rdset111,rdset83];done) | grind
 intro x3 x5 x193000 x195000 x195001 r h m hm;cases k with
 | zero=>simp only [PK.spec_ArenaOk.l1] at h;cases h
 | succ k =>
  obtain ⟨m,rfl⟩ : ∃ m',m = m' + 1:=⟨m - 1,by omega⟩;rw [PK.spec_ArenaOk.l1] at h;rw [spec_ArenaOk.c8]
  try simp only [w64_eq,wu8_eq,gt_iff_lt,ge_iff_le,int_beq,fdiv33,fdiv45,bt_eq,tmodN,rdOfB,rdOfL] at h
  try simp only [shlR]
  try simp only [w64_eq,wu8_eq,gt_iff_lt,ge_iff_le,int_beq,fdiv33,fdiv45,bt_eq,tmodN,rdOfB,rdOfL,rdT3_eq,rdT5_eq,seq,maxI,minI,emp_eq,rdn3,rdn132,rdn72,rdn87,rdn101,rdn92,rdn76,rdn5,rdn63,rdn65,rdn4,rdn111,rdn83]
  refine (itE h (fun q h=>(itE h (fun q h=>(itE h (fun q h=>(itE h (fun q h=>(itE h (fun q h=>?_) (fun q h=>((fun h=>?_) (il1 _ (by omega) _ _ _ _ _ _ h m (by omega)))))) (fun q h=>(itE h (fun q h=>((fun h=>?_) (il1 _ (by omega) _ _ _ _ _ _ h m (by omega)))) (fun q h=>(bnE h (fun _ g h=>(fun g=>(itE h (fun q h=>(itE h (fun q h=>(itE h (fun q h=>(itE h (fun q h=>((fun h=>?_) (il1 _ (by omega) _ _ _ _ _ _ h m (by omega)))) (fun q h=>?_))) (fun q h=>(noE h)))) (fun q h=>(noE h)))) (fun q h=>?_))) (spec_l01In.rel m _ _ _ _ g m (by omega))))))))) (fun q h=>(noE h)))) (fun q h=>(noE h)))) (fun q h=>((fun h=>?_) (il0 _ (by omega) _ _ _ h m (by omega)))))
  all_goals clear il0 il1
  all_goals (try cases h)
  all_goals (try simp only [*,if_true,if_false,↓reduceIte,Option.bind_some,List.length_cons,List.length_nil,List.length_append,Bool.not_true,Bool.not_false,Bool.true_eq_false,Bool.false_eq_true])
  all_goals (repeat first | rw [if_pos (by omega)] | rw [if_neg (by omega)])
  all_goals first | exact h | apply h | rfl | (simp_all [-Bool.forall_bool];done) | (simp_all [-Bool.forall_bool];first | exact h | apply h) | (simp_all [-Bool.forall_bool,emp_eq,int_beq];done) | (simp_all [-Bool.forall_bool];(intros;simp_all;done)) | (simp_all [-Bool.forall_bool,rdset3,rdset132,rdset72,rdset87,rdset101,rdset92,rdset76,rdset5,rdset63,rdset65,rdset4,rdset111,rdset83];done) | grind
theorem spec_ArenaOk.rel (k : Nat) (l0_0 : List (S111)) (r) (h : PK.spec_ArenaOk.f k l0_0 = some r) (m : Nat) (hm : k ≤ m) : spec_ArenaOk.f m l0_0 = some r:=by
 have il0:=fun k' (_ : k' < k + 1)=>(spec_ArenaOk.rel_l k').1;have il1:=fun k' (_ : k' < k + 1)=>(spec_ArenaOk.rel_l k').2;rw [PK.spec_ArenaOk.f] at h;rw [spec_ArenaOk.f]
 try simp only [w64_eq,wu8_eq,gt_iff_lt,ge_iff_le,int_beq,fdiv33,fdiv45,bt_eq,tmodN,rdOfB,rdOfL] at h
 try simp only [shlR]
 try simp only [w64_eq,wu8_eq,gt_iff_lt,ge_iff_le,int_beq,fdiv33,fdiv45,bt_eq,tmodN,rdOfB,rdOfL,rdT3_eq,rdT5_eq,seq,maxI,minI,emp_eq,rdn3,rdn132,rdn72,rdn87,rdn101,rdn92,rdn76,rdn5,rdn63,rdn65,rdn4,rdn111,rdn83]
 refine ((fun h=>?_) (il0 _ (by omega) _ _ _ h m (by omega)))
 all_goals clear il0 il1
 all_goals (try cases h)
 all_goals (try simp only [*,if_true,if_false,↓reduceIte,Option.bind_some,List.length_cons,List.length_nil,List.length_append,Bool.not_true,Bool.not_false,Bool.true_eq_false,Bool.false_eq_true])
 all_goals (repeat first | rw [if_pos (by omega)] | rw [if_neg (by omega)])
 all_goals first | exact h | apply h | rfl | (simp_all [-Bool.forall_bool];done) | (simp_all [-Bool.forall_bool];first | exact h | apply h) | (simp_all [-Bool.forall_bool,emp_eq,int_beq];done) | (simp_all [-Bool.forall_bool];(intros;simp_all;done)) | (simp_all [-Bool.forall_bool,rdset3,rdset132,rdset72,rdset87,rdset101,rdset92,rdset76,rdset5,rdset63,rdset65,rdset4,rdset111,rdset83];done) | grind
end Go.Proofs.YtibhkbljjnlpjaaGreat.M2

namespace Go.Proofs.YtibhkbljjnlpjaaGreat.M2
open Go Go.RowKit Go.Proofs.YtibhkbljjnlpjaaGreatW.PrintWords Go.Proofs.YtibhkbljjnlpjaaGreat.PK
set_option linter.unusedVariables false
set_option linter.unusedSimpArgs false
set_option maxHeartbeats 1600000
theorem spec_l11Root.rel (k : Nat) (l0_0 : List (S111)) (a1 : Int) (r) (h : PK.spec_l11Root.f l0_0 a1 = some r) (m : Nat) (hm : k ≤ m) : spec_l11Root.f m l0_0 a1 = some r:=by
 rw [PK.spec_l11Root.f] at h;rw [spec_l11Root.f]
 try simp only [w64_eq,wu8_eq,gt_iff_lt,ge_iff_le,int_beq,fdiv33,fdiv45,bt_eq,tmodN,rdOfB,rdOfL] at h
 try simp only [shlR]
 try simp only [w64_eq,wu8_eq,gt_iff_lt,ge_iff_le,int_beq,fdiv33,fdiv45,bt_eq,tmodN,rdOfB,rdOfL,rdT3_eq,rdT5_eq,seq,maxI,minI,emp_eq,rdn3,rdn132,rdn72,rdn87,rdn101,rdn92,rdn76,rdn5,rdn63,rdn65,rdn4,rdn111,rdn83]
 refine (itE h (fun q h=>?_) (fun q h=>(bnE h (fun _ g h=>(fun g=>(itE h (fun q h=>(itE h (fun q h=>(itE h (fun q h=>?_) (fun q h=>(noE h)))) (fun q h=>(noE h)))) (fun q h=>?_))) (spec_l01In.rel m _ _ _ _ g m (by omega))))))
 all_goals (try cases h)
 all_goals (try simp only [*,if_true,if_false,↓reduceIte,Option.bind_some,List.length_cons,List.length_nil,List.length_append,Bool.not_true,Bool.not_false,Bool.true_eq_false,Bool.false_eq_true])
 all_goals (repeat first | rw [if_pos (by omega)] | rw [if_neg (by omega)])
 all_goals first | exact h | apply h | rfl | (simp_all [-Bool.forall_bool];done) | (simp_all [-Bool.forall_bool];first | exact h | apply h) | (simp_all [-Bool.forall_bool,emp_eq,int_beq];done) | (simp_all [-Bool.forall_bool];(intros;simp_all;done)) | (simp_all [-Bool.forall_bool,rdset3,rdset132,rdset72,rdset87,rdset101,rdset92,rdset76,rdset5,rdset63,rdset65,rdset4,rdset111,rdset83];done) | grind
theorem spec_l11Get.rel (k : Nat) (l0_0 : List (S111)) (a1 : Int) (a2 : Int) (r) (h : PK.spec_l11Get.f l0_0 a1 a2 = some r) (m : Nat) (hm : k ≤ m) : spec_l11Get.f m l0_0 a1 a2 = some r:=by
 rw [PK.spec_l11Get.f] at h;rw [spec_l11Get.f]
 try simp only [w64_eq,wu8_eq,gt_iff_lt,ge_iff_le,int_beq,fdiv33,fdiv45,bt_eq,tmodN,rdOfB,rdOfL] at h
 try simp only [shlR]
 try simp only [w64_eq,wu8_eq,gt_iff_lt,ge_iff_le,int_beq,fdiv33,fdiv45,bt_eq,tmodN,rdOfB,rdOfL,rdT3_eq,rdT5_eq,seq,maxI,minI,emp_eq,rdn3,rdn132,rdn72,rdn87,rdn101,rdn92,rdn76,rdn5,rdn63,rdn65,rdn4,rdn111,rdn83]
 refine (itE h (fun q h=>?_) (fun q h=>(itE h (fun q h=>(itE h (fun q h=>(itE h (fun q h=>(itE h (fun q h=>(itE h (fun q h=>?_) (fun q h=>(itE h (fun q h=>(itE h (fun q h=>(itE h (fun q h=>(itE h (fun q h=>?_) (fun q h=>(noE h)))) (fun q h=>(noE h)))) (fun q h=>(noE h)))) (fun q h=>(noE h)))))) (fun q h=>(noE h)))) (fun q h=>(noE h)))) (fun q h=>(noE h)))) (fun q h=>(noE h)))))
 all_goals (try cases h)
 all_goals (try simp only [*,if_true,if_false,↓reduceIte,Option.bind_some,List.length_cons,List.length_nil,List.length_append,Bool.not_true,Bool.not_false,Bool.true_eq_false,Bool.false_eq_true])
 all_goals (repeat first | rw [if_pos (by omega)] | rw [if_neg (by omega)])
 all_goals first | exact h | apply h | rfl | (simp_all [-Bool.forall_bool];done) | (simp_all [-Bool.forall_bool];first | exact h | apply h) | (simp_all [-Bool.forall_bool,emp_eq,int_beq];done) | (simp_all [-Bool.forall_bool];(intros;simp_all;done)) | (simp_all [-Bool.forall_bool,rdset3,rdset132,rdset72,rdset87,rdset101,rdset92,rdset76,rdset5,rdset63,rdset65,rdset4,rdset111,rdset83];done) | grind
theorem spec_GetAt.rel (k : Nat) (l0_0 : List (S111)) (a1 : Int) (a2 : Int) (r) (h : PK.spec_GetAt.f k l0_0 a1 a2 = some r) (m : Nat) (hm : k ≤ m) : spec_GetAt.f m l0_0 a1 a2 = some r:=by
 rw [PK.spec_GetAt.f] at h;rw [spec_GetAt.f]
 try simp only [w64_eq,wu8_eq,gt_iff_lt,ge_iff_le,int_beq,fdiv33,fdiv45,bt_eq,tmodN,rdOfB,rdOfL] at h
 try simp only [shlR]
 try simp only [w64_eq,wu8_eq,gt_iff_lt,ge_iff_le,int_beq,fdiv33,fdiv45,bt_eq,tmodN,rdOfB,rdOfL,rdT3_eq,rdT5_eq,seq,maxI,minI,emp_eq,rdn3,rdn132,rdn72,rdn87,rdn101,rdn92,rdn76,rdn5,rdn63,rdn65,rdn4,rdn111,rdn83]
 refine (bnE h (fun _ g h=>(fun g=>(itE h (fun q h=>(bnE h (fun _ g h=>(fun g=>(itE h (fun q h=>(bnE h (fun _ g h=>(fun g=>(itE h (fun q h=>(bnE h (fun _ g h=>(fun g=>?_) (spec_l11Get.rel m _ _ _ _ g m (by omega))))) (fun q h=>?_))) (spec_l01In.rel m _ _ _ _ g m (by omega))))) (fun q h=>?_))) (spec_l11Root.rel m _ _ _ g m (by omega))))) (fun q h=>?_))) (spec_ArenaOk.rel _ _ _ g m (by omega))))
 all_goals (try cases h)
 all_goals (try simp only [*,if_true,if_false,↓reduceIte,Option.bind_some,List.length_cons,List.length_nil,List.length_append,Bool.not_true,Bool.not_false,Bool.true_eq_false,Bool.false_eq_true])
 all_goals (repeat first | rw [if_pos (by omega)] | rw [if_neg (by omega)])
 all_goals first | exact h | apply h | rfl | (simp_all [-Bool.forall_bool];done) | (simp_all [-Bool.forall_bool];first | exact h | apply h) | (simp_all [-Bool.forall_bool,emp_eq,int_beq];done) | (simp_all [-Bool.forall_bool];(intros;simp_all;done)) | (simp_all [-Bool.forall_bool,rdset3,rdset132,rdset72,rdset87,rdset101,rdset92,rdset76,rdset5,rdset63,rdset65,rdset4,rdset111,rdset83];done) | grind
theorem spec_AllAt.rel_l (k : Nat) : (∀ x1 x5 x6 x212000 r,PK.spec_AllAt.l0 k x1 x5 x6 x212000 = some r → ∀ m,k ≤ m → spec_AllAt.c3 m x1 x6 x212000 x5 = some r):=by
 induction k using Nat.strongRecOn with
 | _ k ih =>
 have il0:=fun k' hk'=>(ih k' hk');clear ih;intro x1 x5 x6 x212000 r h m hm;cases k with
 | zero=>simp only [PK.spec_AllAt.l0] at h;cases h
 | succ k =>
  obtain ⟨m,rfl⟩ : ∃ m',m = m' + 1:=⟨m - 1,by omega⟩;rw [PK.spec_AllAt.l0] at h;rw [spec_AllAt.c3]
  try simp only [w64_eq,wu8_eq,gt_iff_lt,ge_iff_le,int_beq,fdiv33,fdiv45,bt_eq,tmodN,rdOfB,rdOfL] at h
  try simp only [shlR]
  try simp only [w64_eq,wu8_eq,gt_iff_lt,ge_iff_le,int_beq,fdiv33,fdiv45,bt_eq,tmodN,rdOfB,rdOfL,rdT3_eq,rdT5_eq,seq,maxI,minI,emp_eq,rdn3,rdn132,rdn72,rdn87,rdn101,rdn92,rdn76,rdn5,rdn63,rdn65,rdn4,rdn111,rdn83]
  refine (itE h (fun q h=>(bnE h (fun _ g h=>(fun g=>(itE h (fun q h=>((fun h=>?_) (il0 _ (by omega) _ _ _ _ _ h m (by omega)))) (fun q h=>(noE h)))) (spec_GetAt.rel _ _ _ _ _ g m (by omega))))) (fun q h=>?_))
  all_goals clear il0
  all_goals (try cases h)
  all_goals (try simp only [*,if_true,if_false,↓reduceIte,Option.bind_some,List.length_cons,List.length_nil,List.length_append,Bool.not_true,Bool.not_false,Bool.true_eq_false,Bool.false_eq_true])
  all_goals (repeat first | rw [if_pos (by omega)] | rw [if_neg (by omega)])
  all_goals first | exact h | apply h | rfl | (simp_all [-Bool.forall_bool];done) | (simp_all [-Bool.forall_bool];first | exact h | apply h) | (simp_all [-Bool.forall_bool,emp_eq,int_beq];done) | (simp_all [-Bool.forall_bool];(intros;simp_all;done)) | (simp_all [-Bool.forall_bool,rdset3,rdset132,rdset72,rdset87,rdset101,rdset92,rdset76,rdset5,rdset63,rdset65,rdset4,rdset111,rdset83];done) | grind
theorem spec_AllAt.rel (k : Nat) (l0_0 : List (S111)) (a1 : Int) (r) (h : PK.spec_AllAt.f k l0_0 a1 = some r) (m : Nat) (hm : k ≤ m) : spec_AllAt.f m l0_0 a1 = some r:=by
 have il0:=fun k' (_ : k' < k + 1)=>(spec_AllAt.rel_l k');rw [PK.spec_AllAt.f] at h;rw [spec_AllAt.f]
 try simp only [w64_eq,wu8_eq,gt_iff_lt,ge_iff_le,int_beq,fdiv33,fdiv45,bt_eq,tmodN,rdOfB,rdOfL] at h
 try simp only [shlR]
 try simp only [w64_eq,wu8_eq,gt_iff_lt,ge_iff_le,int_beq,fdiv33,fdiv45,bt_eq,tmodN,rdOfB,rdOfL,rdT3_eq,rdT5_eq,seq,maxI,minI,emp_eq,rdn3,rdn132,rdn72,rdn87,rdn101,rdn92,rdn76,rdn5,rdn63,rdn65,rdn4,rdn111,rdn83]
 refine ((fun h=>?_) (il0 _ (by omega) _ _ _ _ _ h m (by omega)))
 all_goals clear il0
 all_goals (try cases h)
 all_goals (try simp only [*,if_true,if_false,↓reduceIte,Option.bind_some,List.length_cons,List.length_nil,List.length_append,Bool.not_true,Bool.not_false,Bool.true_eq_false,Bool.false_eq_true])
 all_goals (repeat first | rw [if_pos (by omega)] | rw [if_neg (by omega)])
 all_goals first | exact h | apply h | rfl | (simp_all [-Bool.forall_bool];done) | (simp_all [-Bool.forall_bool];first | exact h | apply h) | (simp_all [-Bool.forall_bool,emp_eq,int_beq];done) | (simp_all [-Bool.forall_bool];(intros;simp_all;done)) | (simp_all [-Bool.forall_bool,rdset3,rdset132,rdset72,rdset87,rdset101,rdset92,rdset76,rdset5,rdset63,rdset65,rdset4,rdset111,rdset83];done) | grind
end Go.Proofs.YtibhkbljjnlpjaaGreat.M2

namespace Go.Proofs.YtibhkbljjnlpjaaGreat.M2
open Go Go.RowKit Go.Proofs.YtibhkbljjnlpjaaGreatW.PrintWords Go.Proofs.YtibhkbljjnlpjaaGreat.PK
set_option linter.unusedVariables false
set_option linter.unusedSimpArgs false
set_option maxHeartbeats 1600000
theorem spec_l12Insert.rel_l (k : Nat) : (∀ x0 x1 x5 x6 r,PK.spec_l12Insert.l0 k x0 x1 x5 x6 = some r → ∀ m,k ≤ m → spec_l12Insert.c3 m x0 x1 x6 x5 = some r) ∧ (∀ x0 x1 x5 x7 r,PK.spec_l12Insert.l1 k x0 x1 x5 x7 = some r → ∀ m,k ≤ m → spec_l12Insert.c10 m x0 x1 x7 x5 = some r):=by
 induction k using Nat.strongRecOn with
 | _ k ih =>
 have il0:=fun k' hk'=>(ih k' hk').1;have il1:=fun k' hk'=>(ih k' hk').2;clear ih;refine ⟨?_,?_⟩
 ·intro x0 x1 x5 x6 r h m hm;cases k with
  | zero=>simp only [PK.spec_l12Insert.l0] at h;cases h
  | succ k =>
   obtain ⟨m,rfl⟩ : ∃ m',m = m' + 1:=⟨m - 1,by omega⟩;rw [PK.spec_l12Insert.l0] at h;rw [spec_l12Insert.c3]
   try simp only [w64_eq,wu8_eq,gt_iff_lt,ge_iff_le,int_beq,fdiv33,fdiv45,bt_eq,tmodN,rdOfB,rdOfL] at h
   try simp only [shlR]
   try simp only [w64_eq,wu8_eq,gt_iff_lt,ge_iff_le,int_beq,fdiv33,fdiv45,bt_eq,tmodN,rdOfB,rdOfL,rdT3_eq,rdT5_eq,seq,maxI,minI,emp_eq,rdn3,rdn132,rdn72,rdn87,rdn101,rdn92,rdn76,rdn5,rdn63,rdn65,rdn4,rdn111,rdn83]
   refine (itE h (fun q h=>(itE h (fun q h=>(itE h (fun q h=>(itE h (fun q h=>((fun h=>?_) (il0 _ (by omega) _ _ _ _ _ h m (by omega)))) (fun q h=>(noE h)))) (fun q h=>((fun h=>?_) (il0 _ (by omega) _ _ _ _ _ h m (by omega)))))) (fun q h=>(noE h)))) (fun q h=>(itE h (fun q h=>(itE h (fun q h=>(by cases k with | zero=>(simp only [PK.spec_l12Insert.j1] at h;cases h) | succ k=>(rw [PK.spec_l12Insert.j1] at h;(try simp only [w64_eq,wu8_eq,gt_iff_lt,ge_iff_le,int_beq,fdiv33,fdiv45,bt_eq,tmodN,rdOfB,rdOfL] at h);refine ((fun h=>?_) (il1 _ (by omega) _ _ _ _ _ h m (by omega))) <;> ((try cases h);(try simp only [*,if_true,if_false,↓reduceIte,Option.bind_some,List.length_cons,List.length_nil,List.length_append,Bool.not_true,Bool.not_false,Bool.true_eq_false,Bool.false_eq_true]);all_goals (repeat first | rw [if_pos (by omega)] | rw [if_neg (by omega)]);all_goals (first | exact h | apply h | rfl | (simp_all [-Bool.forall_bool];done) | (simp_all [-Bool.forall_bool];first | exact h | apply h) | (simp_all [-Bool.forall_bool,emp_eq,int_beq];done) | (simp_all [-Bool.forall_bool];(intros;simp_all;done)) | (simp_all [-Bool.forall_bool,rdset3,rdset132,rdset72,rdset87,rdset101,rdset92,rdset76,rdset5,rdset63,rdset65,rdset4,rdset111,rdset83];done) | grind))))) (fun q h=>(noE h)))) (fun q h=>(by cases k with | zero=>(simp only [PK.spec_l12Insert.j1] at h;cases h) | succ k=>(rw [PK.spec_l12Insert.j1] at h;(try simp only [w64_eq,wu8_eq,gt_iff_lt,ge_iff_le,int_beq,fdiv33,fdiv45,bt_eq,tmodN,rdOfB,rdOfL] at h);refine ((fun h=>?_) (il1 _ (by omega) _ _ _ _ _ h m (by omega))) <;> ((try cases h);(try simp only [*,if_true,if_false,↓reduceIte,Option.bind_some,List.length_cons,List.length_nil,List.length_append,Bool.not_true,Bool.not_false,Bool.true_eq_false,Bool.false_eq_true]);all_goals (repeat first | rw [if_pos (by omega)] | rw [if_neg (by omega)]);all_goals (first | exact h | apply h | rfl | (simp_all [-Bool.forall_bool];done) | (simp_all [-Bool.forall_bool];first | exact h | apply h) | (simp_all [-Bool.forall_bool,emp_eq,int_beq];done) | (simp_all [-Bool.forall_bool];(intros;simp_all;done)) | (simp_all [-Bool.forall_bool,rdset3,rdset132,rdset72,rdset87,rdset101,rdset92,rdset76,rdset5,rdset63,rdset65,rdset4,rdset111,rdset83];done) | grind))))))))
   all_goals clear il0 il1
   all_goals (try cases h)
   all_goals (try simp only [*,if_true,if_false,↓reduceIte,Option.bind_some,List.length_cons,List.length_nil,List.length_append,Bool.not_true,Bool.not_false,Bool.true_eq_false,Bool.false_eq_true])
   all_goals (repeat first | rw [if_pos (by omega)] | rw [if_neg (by omega)])
   all_goals first | exact h | apply h | rfl | (simp_all [-Bool.forall_bool];done) | (simp_all [-Bool.forall_bool];first | exact h | apply h) | (simp_all [-Bool.forall_bool,emp_eq,int_beq];done) | (simp_all [-Bool.forall_bool];(intros;simp_all;done)) | (simp_all [-Bool.forall_bool,rdset3,rdset132,rdset72,rdset87,rdset101,rdset92,rdset76,rdset5,rdset63,rdset65,rdset4,rdset111,rdset83];done) | grind
 intro x0 x1 x5 x7 r h m hm;cases k with
 | zero=>simp only [PK.spec_l12Insert.l1] at h;cases h
 | succ k =>
  obtain ⟨m,rfl⟩ : ∃ m',m = m' + 1:=⟨m - 1,by omega⟩;rw [PK.spec_l12Insert.l1] at h;rw [spec_l12Insert.c10]
  try simp only [w64_eq,wu8_eq,gt_iff_lt,ge_iff_le,int_beq,fdiv33,fdiv45,bt_eq,tmodN,rdOfB,rdOfL] at h
  try simp only [shlR]
  try simp only [w64_eq,wu8_eq,gt_iff_lt,ge_iff_le,int_beq,fdiv33,fdiv45,bt_eq,tmodN,rdOfB,rdOfL,rdT3_eq,rdT5_eq,seq,maxI,minI,emp_eq,rdn3,rdn132,rdn72,rdn87,rdn101,rdn92,rdn76,rdn5,rdn63,rdn65,rdn4,rdn111,rdn83]
  refine (itE h (fun q h=>(itE h (fun q h=>(itE h (fun q h=>(itE h (fun q h=>((fun h=>?_) (il1 _ (by omega) _ _ _ _ _ h m (by omega)))) (fun q h=>(noE h)))) (fun q h=>((fun h=>?_) (il1 _ (by omega) _ _ _ _ _ h m (by omega)))))) (fun q h=>(noE h)))) (fun q h=>?_))
  all_goals clear il0 il1
  all_goals (try cases h)
  all_goals (try simp only [*,if_true,if_false,↓reduceIte,Option.bind_some,List.length_cons,List.length_nil,List.length_append,Bool.not_true,Bool.not_false,Bool.true_eq_false,Bool.false_eq_true])
  all_goals (repeat first | rw [if_pos (by omega)] | rw [if_neg (by omega)])
  all_goals first | exact h | apply h | rfl | (simp_all [-Bool.forall_bool];done) | (simp_all [-Bool.forall_bool];first | exact h | apply h) | (simp_all [-Bool.forall_bool,emp_eq,int_beq];done) | (simp_all [-Bool.forall_bool];(intros;simp_all;done)) | (simp_all [-Bool.forall_bool,rdset3,rdset132,rdset72,rdset87,rdset101,rdset92,rdset76,rdset5,rdset63,rdset65,rdset4,rdset111,rdset83];done) | grind
theorem spec_l12Insert.rel (k : Nat) (l0 : List Int) (a1 : Int) (r) (h : PK.spec_l12Insert.f k l0 a1 = some r) (m : Nat) (hm : k ≤ m) : spec_l12Insert.f m l0 a1 = some r:=by
 have il0:=fun k' (_ : k' < k + 1)=>(spec_l12Insert.rel_l k').1;have il1:=fun k' (_ : k' < k + 1)=>(spec_l12Insert.rel_l k').2;rw [PK.spec_l12Insert.f] at h;rw [spec_l12Insert.f]
 try simp only [w64_eq,wu8_eq,gt_iff_lt,ge_iff_le,int_beq,fdiv33,fdiv45,bt_eq,tmodN,rdOfB,rdOfL] at h
 try simp only [shlR]
 try simp only [w64_eq,wu8_eq,gt_iff_lt,ge_iff_le,int_beq,fdiv33,fdiv45,bt_eq,tmodN,rdOfB,rdOfL,rdT3_eq,rdT5_eq,seq,maxI,minI,emp_eq,rdn3,rdn132,rdn72,rdn87,rdn101,rdn92,rdn76,rdn5,rdn63,rdn65,rdn4,rdn111,rdn83]
 refine ((fun h=>?_) (il0 _ (by omega) _ _ _ _ _ h m (by omega)))
 all_goals clear il0 il1
 all_goals (try cases h)
 all_goals (try simp only [*,if_true,if_false,↓reduceIte,Option.bind_some,List.length_cons,List.length_nil,List.length_append,Bool.not_true,Bool.not_false,Bool.true_eq_false,Bool.false_eq_true])
 all_goals (repeat first | rw [if_pos (by omega)] | rw [if_neg (by omega)])
 all_goals first | exact h | apply h | rfl | (simp_all [-Bool.forall_bool];done) | (simp_all [-Bool.forall_bool];first | exact h | apply h) | (simp_all [-Bool.forall_bool,emp_eq,int_beq];done) | (simp_all [-Bool.forall_bool];(intros;simp_all;done)) | (simp_all [-Bool.forall_bool,rdset3,rdset132,rdset72,rdset87,rdset101,rdset92,rdset76,rdset5,rdset63,rdset65,rdset4,rdset111,rdset83];done) | grind
end Go.Proofs.YtibhkbljjnlpjaaGreat.M2

namespace Go.Proofs.YtibhkbljjnlpjaaGreat.M2
open Go Go.RowKit Go.Proofs.YtibhkbljjnlpjaaGreatW.PrintWords Go.Proofs.YtibhkbljjnlpjaaGreat.PK
set_option linter.unusedVariables false
set_option linter.unusedSimpArgs false
set_option maxHeartbeats 1600000
theorem spec_LiveOf.rel_l (k : Nat) : (∀ x3 x4 x236000 x236001 x236002 r,PK.spec_LiveOf.l0 k x3 x4 x236000 x236001 x236002 = some r → ∀ m,k ≤ m → spec_LiveOf.c3 m x4 x236000 x236001 x236002 x3 = some r) ∧ (∀ x3 x4 x5 x6 x236000 x236001 x236002 r,PK.spec_LiveOf.l1 k x3 x4 x5 x6 x236000 x236001 x236002 = some r → ∀ m,k ≤ m → spec_LiveOf.c7 m x4 x6 x236000 x236001 x236002 x3 x5 = some r):=by
 induction k using Nat.strongRecOn with
 | _ k ih =>
 have il0:=fun k' hk'=>(ih k' hk').1;have il1:=fun k' hk'=>(ih k' hk').2;clear ih;refine ⟨?_,?_⟩
 ·intro x3 x4 x236000 x236001 x236002 r h m hm;cases k with
  | zero=>simp only [PK.spec_LiveOf.l0] at h;cases h
  | succ k =>
   obtain ⟨m,rfl⟩ : ∃ m',m = m' + 1:=⟨m - 1,by omega⟩;rw [PK.spec_LiveOf.l0] at h;rw [spec_LiveOf.c3]
   try simp only [w64_eq,wu8_eq,gt_iff_lt,ge_iff_le,int_beq,fdiv33,fdiv45,bt_eq,tmodN,rdOfB,rdOfL] at h
   try simp only [shlR]
   try simp only [w64_eq,wu8_eq,gt_iff_lt,ge_iff_le,int_beq,fdiv33,fdiv45,bt_eq,tmodN,rdOfB,rdOfL,rdT3_eq,rdT5_eq,seq,maxI,minI,emp_eq,rdn3,rdn132,rdn72,rdn87,rdn101,rdn92,rdn76,rdn5,rdn63,rdn65,rdn4,rdn111,rdn83]
   refine (itE h (fun q h=>(itE h (fun q h=>(bnE h (fun _ g h=>(fun g=>((fun h=>?_) (il1 _ (by omega) _ _ _ _ _ _ _ _ h m (by omega)))) (spec_AllAt.rel _ _ _ _ g m (by omega))))) (fun q h=>(noE h)))) (fun q h=>?_))
   all_goals clear il0 il1
   all_goals (try cases h)
   all_goals (try simp only [*,if_true,if_false,↓reduceIte,Option.bind_some,List.length_cons,List.length_nil,List.length_append,Bool.not_true,Bool.not_false,Bool.true_eq_false,Bool.false_eq_true])
   all_goals (repeat first | rw [if_pos (by omega)] | rw [if_neg (by omega)])
   all_goals first | exact h | apply h | rfl | (simp_all [-Bool.forall_bool];done) | (simp_all [-Bool.forall_bool];first | exact h | apply h) | (simp_all [-Bool.forall_bool,emp_eq,int_beq];done) | (simp_all [-Bool.forall_bool];(intros;simp_all;done)) | (simp_all [-Bool.forall_bool,rdset3,rdset132,rdset72,rdset87,rdset101,rdset92,rdset76,rdset5,rdset63,rdset65,rdset4,rdset111,rdset83];done) | grind
 intro x3 x4 x5 x6 x236000 x236001 x236002 r h m hm;cases k with
 | zero=>simp only [PK.spec_LiveOf.l1] at h;cases h
 | succ k =>
  obtain ⟨m,rfl⟩ : ∃ m',m = m' + 1:=⟨m - 1,by omega⟩;rw [PK.spec_LiveOf.l1] at h;rw [spec_LiveOf.c7]
  try simp only [w64_eq,wu8_eq,gt_iff_lt,ge_iff_le,int_beq,fdiv33,fdiv45,bt_eq,tmodN,rdOfB,rdOfL] at h
  try simp only [shlR]
  try simp only [w64_eq,wu8_eq,gt_iff_lt,ge_iff_le,int_beq,fdiv33,fdiv45,bt_eq,tmodN,rdOfB,rdOfL,rdT3_eq,rdT5_eq,seq,maxI,minI,emp_eq,rdn3,rdn132,rdn72,rdn87,rdn101,rdn92,rdn76,rdn5,rdn63,rdn65,rdn4,rdn111,rdn83]
  refine (itE h (fun q h=>(itE h (fun q h=>(bnE h (fun _ g h=>(fun g=>((fun h=>?_) (il1 _ (by omega) _ _ _ _ _ _ _ _ h m (by omega)))) (spec_l12Insert.rel _ _ _ _ g m (by omega))))) (fun q h=>(noE h)))) (fun q h=>((fun h=>?_) (il0 _ (by omega) _ _ _ _ _ _ h m (by omega)))))
  all_goals clear il0 il1
  all_goals (try cases h)
  all_goals (try simp only [*,if_true,if_false,↓reduceIte,Option.bind_some,List.length_cons,List.length_nil,List.length_append,Bool.not_true,Bool.not_false,Bool.true_eq_false,Bool.false_eq_true])
  all_goals (repeat first | rw [if_pos (by omega)] | rw [if_neg (by omega)])
  all_goals first | exact h | apply h | rfl | (simp_all [-Bool.forall_bool];done) | (simp_all [-Bool.forall_bool];first | exact h | apply h) | (simp_all [-Bool.forall_bool,emp_eq,int_beq];done) | (simp_all [-Bool.forall_bool];(intros;simp_all;done)) | (simp_all [-Bool.forall_bool,rdset3,rdset132,rdset72,rdset87,rdset101,rdset92,rdset76,rdset5,rdset63,rdset65,rdset4,rdset111,rdset83];done) | grind
theorem spec_LiveOf.rel (k : Nat) (l0_0 : List (S83)) (l0_1 : List (S111)) (a0_2 : Int) (r) (h : PK.spec_LiveOf.f k l0_0 l0_1 a0_2 = some r) (m : Nat) (hm : k ≤ m) : spec_LiveOf.f m l0_0 l0_1 a0_2 = some r:=by
 have il0:=fun k' (_ : k' < k + 1)=>(spec_LiveOf.rel_l k').1;have il1:=fun k' (_ : k' < k + 1)=>(spec_LiveOf.rel_l k').2;rw [PK.spec_LiveOf.f] at h;rw [spec_LiveOf.f]
 try simp only [w64_eq,wu8_eq,gt_iff_lt,ge_iff_le,int_beq,fdiv33,fdiv45,bt_eq,tmodN,rdOfB,rdOfL] at h
 try simp only [shlR]
 try simp only [w64_eq,wu8_eq,gt_iff_lt,ge_iff_le,int_beq,fdiv33,fdiv45,bt_eq,tmodN,rdOfB,rdOfL,rdT3_eq,rdT5_eq,seq,maxI,minI,emp_eq,rdn3,rdn132,rdn72,rdn87,rdn101,rdn92,rdn76,rdn5,rdn63,rdn65,rdn4,rdn111,rdn83]
 refine ((fun h=>?_) (il0 _ (by omega) _ _ _ _ _ _ h m (by omega)))
 all_goals clear il0 il1
 all_goals (try cases h)
 all_goals (try simp only [*,if_true,if_false,↓reduceIte,Option.bind_some,List.length_cons,List.length_nil,List.length_append,Bool.not_true,Bool.not_false,Bool.true_eq_false,Bool.false_eq_true])
 all_goals (repeat first | rw [if_pos (by omega)] | rw [if_neg (by omega)])
 all_goals first | exact h | apply h | rfl | (simp_all [-Bool.forall_bool];done) | (simp_all [-Bool.forall_bool];first | exact h | apply h) | (simp_all [-Bool.forall_bool,emp_eq,int_beq];done) | (simp_all [-Bool.forall_bool];(intros;simp_all;done)) | (simp_all [-Bool.forall_bool,rdset3,rdset132,rdset72,rdset87,rdset101,rdset92,rdset76,rdset5,rdset63,rdset65,rdset4,rdset111,rdset83];done) | grind
theorem impl_in.rel (k : Nat) (a0 : Int) (a1 : Int) (a2 : Int) (r) (h : PK.impl_in.f a0 a1 a2 = some r) (m : Nat) (hm : k ≤ m) : impl_in.f m a0 a1 a2 = some r:=by
 rw [PK.impl_in.f] at h;rw [impl_in.f]
 try simp only [w64_eq,wu8_eq,gt_iff_lt,ge_iff_le,int_beq,fdiv33,fdiv45,bt_eq,tmodN,rdOfB,rdOfL] at h
 try simp only [shlR]
 try simp only [w64_eq,wu8_eq,gt_iff_lt,ge_iff_le,int_beq,fdiv33,fdiv45,bt_eq,tmodN,rdOfB,rdOfL,rdT3_eq,rdT5_eq,seq,maxI,minI,emp_eq,rdn3,rdn132,rdn72,rdn87,rdn101,rdn92,rdn76,rdn5,rdn63,rdn65,rdn4,rdn111,rdn83]
 refine (itE h (fun q h=>?_) (fun q h=>?_))
 all_goals (try cases h)
 all_goals (try simp only [*,if_true,if_false,↓reduceIte,Option.bind_some,List.length_cons,List.length_nil,List.length_append,Bool.not_true,Bool.not_false,Bool.true_eq_false,Bool.false_eq_true])
 all_goals (repeat first | rw [if_pos (by omega)] | rw [if_neg (by omega)])
 all_goals first | exact h | apply h | rfl | (simp_all [-Bool.forall_bool];done) | (simp_all [-Bool.forall_bool];first | exact h | apply h) | (simp_all [-Bool.forall_bool,emp_eq,int_beq];done) | (simp_all [-Bool.forall_bool];(intros;simp_all;done)) | (simp_all [-Bool.forall_bool,rdset3,rdset132,rdset72,rdset87,rdset101,rdset92,rdset76,rdset5,rdset63,rdset65,rdset4,rdset111,rdset83];done) | grind
end Go.Proofs.YtibhkbljjnlpjaaGreat.M2

namespace Go.Proofs.YtibhkbljjnlpjaaGreat.M2
open Go Go.RowKit Go.Proofs.YtibhkbljjnlpjaaGreatW.PrintWords Go.Proofs.YtibhkbljjnlpjaaGreat.PK
set_option linter.unusedVariables false
set_option linter.unusedSimpArgs false
set_option maxHeartbeats 1600000
theorem impl_isRoot.rel (k : Nat) (l0_0 : List (S111)) (a1 : Int) (r) (h : PK.impl_isRoot.f l0_0 a1 = some r) (m : Nat) (hm : k ≤ m) : impl_isRoot.f m l0_0 a1 = some r:=by
 rw [PK.impl_isRoot.f] at h;rw [impl_isRoot.f]
 try simp only [w64_eq,wu8_eq,gt_iff_lt,ge_iff_le,int_beq,fdiv33,fdiv45,bt_eq,tmodN,rdOfB,rdOfL] at h
 try simp only [shlR]
 try simp only [w64_eq,wu8_eq,gt_iff_lt,ge_iff_le,int_beq,fdiv33,fdiv45,bt_eq,tmodN,rdOfB,rdOfL,rdT3_eq,rdT5_eq,seq,maxI,minI,emp_eq,rdn3,rdn132,rdn72,rdn87,rdn101,rdn92,rdn76,rdn5,rdn63,rdn65,rdn4,rdn111,rdn83]
 refine (bnE h (fun _ g h=>(fun g=>(itE h (fun q h=>(itE h (fun q h=>(itE h (fun q h=>?_) (fun q h=>(noE h)))) (fun q h=>(noE h)))) (fun q h=>?_))) (impl_in.rel m _ _ _ _ g m (by omega))))
 all_goals (try cases h)
 all_goals (try simp only [*,if_true,if_false,↓reduceIte,Option.bind_some,List.length_cons,List.length_nil,List.length_append,Bool.not_true,Bool.not_false,Bool.true_eq_false,Bool.false_eq_true])
 all_goals (repeat first | rw [if_pos (by omega)] | rw [if_neg (by omega)])
 all_goals first | exact h | apply h | rfl | (simp_all [-Bool.forall_bool];done) | (simp_all [-Bool.forall_bool];first | exact h | apply h) | (simp_all [-Bool.forall_bool,emp_eq,int_beq];done) | (simp_all [-Bool.forall_bool];(intros;simp_all;done)) | (simp_all [-Bool.forall_bool,rdset3,rdset132,rdset72,rdset87,rdset101,rdset92,rdset76,rdset5,rdset63,rdset65,rdset4,rdset111,rdset83];done) | grind
theorem impl_ArenaOk.rel_l (k : Nat) : (∀ x8 x9 x10 x330000 r,PK.impl_ArenaOk.l0 k x8 x9 x10 x330000 = some r → ∀ m,k ≤ m → impl_ArenaOk.c2 m x8 x9 x10 x330000 = some r) ∧ (∀ x3 x8 x9 x10 x20 x21 x22 x330000 x332000 x332001 r,PK.impl_ArenaOk.l1 k x3 x8 x9 x10 x20 x21 x22 x330000 x332000 x332001 = some r → ∀ m,k ≤ m → impl_ArenaOk.c7 m x3 x8 x9 x10 x20 x21 x22 x330000 x332000 x332001 = some r):=by
 induction k using Nat.strongRecOn with
 | _ k ih =>
 have il0:=fun k' hk'=>(ih k' hk').1;have il1:=fun k' hk'=>(ih k' hk').2;clear ih;refine ⟨?_,?_⟩
 ·intro x8 x9 x10 x330000 r h m hm;cases k with
  | zero=>simp only [PK.impl_ArenaOk.l0] at h;cases h
  | succ k =>
   obtain ⟨m,rfl⟩ : ∃ m',m = m' + 1:=⟨m - 1,by omega⟩;rw [PK.impl_ArenaOk.l0] at h;rw [impl_ArenaOk.c2]
   try simp only [w64_eq,wu8_eq,gt_iff_lt,ge_iff_le,int_beq,fdiv33,fdiv45,bt_eq,tmodN,rdOfB,rdOfL] at h
   try simp only [shlR]
   try simp only [w64_eq,wu8_eq,gt_iff_lt,ge_iff_le,int_beq,fdiv33,fdiv45,bt_eq,tmodN,rdOfB,rdOfL,rdT3_eq,rdT5_eq,seq,maxI,minI,emp_eq,rdn3,rdn132,rdn72,rdn87,rdn101,rdn92,rdn76,rdn5,rdn63,rdn65,rdn4,rdn111,rdn83]
   refine (itE h (fun q h=>(itE h (fun q h=>(itE h (fun q h=>(itE h (fun q h=>((fun h=>?_) (il1 _ (by omega) _ _ _ _ _ _ _ _ _ _ _ h m (by omega)))) (fun q h=>?_))) (fun q h=>(noE h)))) (fun q h=>(noE h)))) (fun q h=>?_))
   all_goals clear il0 il1
   all_goals (try cases h)
   all_goals (try simp only [*,if_true,if_false,↓reduceIte,Option.bind_some,List.length_cons,List.length_nil,List.length_append,Bool.not_true,Bool.not_false,Bool.true_eq_false,Bool.false_eq_true])
   all_goals (repeat first | rw [if_pos (by omega)] | rw [if_neg (by omega)])
   all_goals first | exact h | apply h | rfl | (simp_all [-Bool.forall_bool];done) | (simp_all [-Bool.forall_bool];first | exact h | apply h) | (simp_all [-Bool.forall_bool,emp_eq,int_beq];done) | (simp_all [-Bool.forall_bool];(intros;simp_all;done)) | (simp_all [-Bool.forall_bool,rdset3,rdset132,rdset72,rdset87,rdset101,rdset92,rdset76,rdset5,rdset63,rdset65,rdset4,rdset111,rdset83];done) | grind
 intro x3 x8 x9 x10 x20 x21 x22 x330000 x332000 x332001 r h m hm;cases k with
 | zero=>simp only [PK.impl_ArenaOk.l1] at h;cases h
 | succ k =>
  obtain ⟨m,rfl⟩ : ∃ m',m = m' + 1:=⟨m - 1,by omega⟩;rw [PK.impl_ArenaOk.l1] at h;rw [impl_ArenaOk.c7]
  try simp only [w64_eq,wu8_eq,gt_iff_lt,ge_iff_le,int_beq,fdiv33,fdiv45,bt_eq,tmodN,rdOfB,rdOfL] at h
  try simp only [shlR]
  try simp only [w64_eq,wu8_eq,gt_iff_lt,ge_iff_le,int_beq,fdiv33,fdiv45,bt_eq,tmodN,rdOfB,rdOfL,rdT3_eq,rdT5_eq,seq,maxI,minI,emp_eq,rdn3,rdn132,rdn72,rdn87,rdn101,rdn92,rdn76,rdn5,rdn63,rdn65,rdn4,rdn111,rdn83]
  refine (itE h (fun q h=>(itE h (fun q h=>(itE h (fun q h=>(itE h (fun q h=>(itE h (fun q h=>?_) (fun q h=>((fun h=>?_) (il1 _ (by omega) _ _ _ _ _ _ _ _ _ _ _ h m (by omega)))))) (fun q h=>(itE h (fun q h=>((fun h=>?_) (il1 _ (by omega) _ _ _ _ _ _ _ _ _ _ _ h m (by omega)))) (fun q h=>(bnE h (fun _ g h=>(fun g=>(itE h (fun q h=>(itE h (fun q h=>(itE h (fun q h=>(itE h (fun q h=>((fun h=>?_) (il1 _ (by omega) _ _ _ _ _ _ _ _ _ _ _ h m (by omega)))) (fun q h=>?_))) (fun q h=>(noE h)))) (fun q h=>(noE h)))) (fun q h=>?_))) (impl_in.rel m _ _ _ _ g m (by omega))))))))) (fun q h=>(noE h)))) (fun q h=>(noE h)))) (fun q h=>((fun h=>?_) (il0 _ (by omega) _ _ _ _ _ h m (by omega)))))
  all_goals clear il0 il1
  all_goals (try cases h)
  all_goals (try simp only [*,if_true,if_false,↓reduceIte,Option.bind_some,List.length_cons,List.length_nil,List.length_append,Bool.not_true,Bool.not_false,Bool.true_eq_false,Bool.false_eq_true])
  all_goals (repeat first | rw [if_pos (by omega)] | rw [if_neg (by omega)])
  all_goals first | exact h | apply h | rfl | (simp_all [-Bool.forall_bool];done) | (simp_all [-Bool.forall_bool];first | exact h | apply h) | (simp_all [-Bool.forall_bool,emp_eq,int_beq];done) | (simp_all [-Bool.forall_bool];(intros;simp_all;done)) | (simp_all [-Bool.forall_bool,rdset3,rdset132,rdset72,rdset87,rdset101,rdset92,rdset76,rdset5,rdset63,rdset65,rdset4,rdset111,rdset83];done) | grind
theorem impl_ArenaOk.rel (k : Nat) (l0_0 : List (S111)) (r) (h : PK.impl_ArenaOk.f k l0_0 = some r) (m : Nat) (hm : k ≤ m) : impl_ArenaOk.f m l0_0 = some r:=by
 have il0:=fun k' (_ : k' < k + 1)=>(impl_ArenaOk.rel_l k').1;have il1:=fun k' (_ : k' < k + 1)=>(impl_ArenaOk.rel_l k').2;rw [PK.impl_ArenaOk.f] at h;rw [impl_ArenaOk.f]
 try simp only [w64_eq,wu8_eq,gt_iff_lt,ge_iff_le,int_beq,fdiv33,fdiv45,bt_eq,tmodN,rdOfB,rdOfL] at h
 try simp only [shlR]
 try simp only [w64_eq,wu8_eq,gt_iff_lt,ge_iff_le,int_beq,fdiv33,fdiv45,bt_eq,tmodN,rdOfB,rdOfL,rdT3_eq,rdT5_eq,seq,maxI,minI,emp_eq,rdn3,rdn132,rdn72,rdn87,rdn101,rdn92,rdn76,rdn5,rdn63,rdn65,rdn4,rdn111,rdn83]
 refine ((fun h=>?_) (il0 _ (by omega) _ _ _ _ _ h m (by omega)))
 all_goals clear il0 il1
 all_goals (try cases h)
 all_goals (try simp only [*,if_true,if_false,↓reduceIte,Option.bind_some,List.length_cons,List.length_nil,List.length_append,Bool.not_true,Bool.not_false,Bool.true_eq_false,Bool.false_eq_true])
 all_goals (repeat first | rw [if_pos (by omega)] | rw [if_neg (by omega)])
 all_goals first | exact h | apply h | rfl | (simp_all [-Bool.forall_bool];done) | (simp_all [-Bool.forall_bool];first | exact h | apply h) | (simp_all [-Bool.forall_bool,emp_eq,int_beq];done) | (simp_all [-Bool.forall_bool];(intros;simp_all;done)) | (simp_all [-Bool.forall_bool,rdset3,rdset132,rdset72,rdset87,rdset101,rdset92,rdset76,rdset5,rdset63,rdset65,rdset4,rdset111,rdset83];done) | grind
end Go.Proofs.YtibhkbljjnlpjaaGreat.M2

namespace Go.Proofs.YtibhkbljjnlpjaaGreat.M2
open Go Go.RowKit Go.Proofs.YtibhkbljjnlpjaaGreatW.PrintWords Go.Proofs.YtibhkbljjnlpjaaGreat.PK
set_option linter.unusedVariables false
set_option linter.unusedSimpArgs false
set_option maxHeartbeats 1600000
theorem impl_numberAt.rel (k : Nat) (l0_0 : List (S111)) (a1 : Int) (a2 : Int) (r) (h : PK.impl_numberAt.f l0_0 a1 a2 = some r) (m : Nat) (hm : k ≤ m) : impl_numberAt.f m l0_0 a1 a2 = some r:=by
 rw [PK.impl_numberAt.f] at h;rw [impl_numberAt.f]
 try simp only [w64_eq,wu8_eq,gt_iff_lt,ge_iff_le,int_beq,fdiv33,fdiv45,bt_eq,tmodN,rdOfB,rdOfL] at h
 try simp only [shlR]
 try simp only [w64_eq,wu8_eq,gt_iff_lt,ge_iff_le,int_beq,fdiv33,fdiv45,bt_eq,tmodN,rdOfB,rdOfL,rdT3_eq,rdT5_eq,seq,maxI,minI,emp_eq,rdn3,rdn132,rdn72,rdn87,rdn101,rdn92,rdn76,rdn5,rdn63,rdn65,rdn4,rdn111,rdn83]
 refine (itE h (fun q h=>(itE h (fun q h=>(itE h (fun q h=>(itE h (fun q h=>(itE h (fun q h=>?_) (fun q h=>(itE h (fun q h=>(itE h (fun q h=>(itE h (fun q h=>(itE h (fun q h=>?_) (fun q h=>(noE h)))) (fun q h=>(noE h)))) (fun q h=>(noE h)))) (fun q h=>(noE h)))))) (fun q h=>(noE h)))) (fun q h=>(noE h)))) (fun q h=>(noE h)))) (fun q h=>(noE h)))
 all_goals (try cases h)
 all_goals (try simp only [*,if_true,if_false,↓reduceIte,Option.bind_some,List.length_cons,List.length_nil,List.length_append,Bool.not_true,Bool.not_false,Bool.true_eq_false,Bool.false_eq_true])
 all_goals (repeat first | rw [if_pos (by omega)] | rw [if_neg (by omega)])
 all_goals first | exact h | apply h | rfl | (simp_all [-Bool.forall_bool];done) | (simp_all [-Bool.forall_bool];first | exact h | apply h) | (simp_all [-Bool.forall_bool,emp_eq,int_beq];done) | (simp_all [-Bool.forall_bool];(intros;simp_all;done)) | (simp_all [-Bool.forall_bool,rdset3,rdset132,rdset72,rdset87,rdset101,rdset92,rdset76,rdset5,rdset63,rdset65,rdset4,rdset111,rdset83];done) | grind
theorem impl_GetAt.rel (k : Nat) (l0_0 : List (S111)) (a1 : Int) (a2 : Int) (r) (h : PK.impl_GetAt.f k l0_0 a1 a2 = some r) (m : Nat) (hm : k ≤ m) : impl_GetAt.f m l0_0 a1 a2 = some r:=by
 rw [PK.impl_GetAt.f] at h;rw [impl_GetAt.f]
 try simp only [w64_eq,wu8_eq,gt_iff_lt,ge_iff_le,int_beq,fdiv33,fdiv45,bt_eq,tmodN,rdOfB,rdOfL] at h
 try simp only [shlR]
 try simp only [w64_eq,wu8_eq,gt_iff_lt,ge_iff_le,int_beq,fdiv33,fdiv45,bt_eq,tmodN,rdOfB,rdOfL,rdT3_eq,rdT5_eq,seq,maxI,minI,emp_eq,rdn3,rdn132,rdn72,rdn87,rdn101,rdn92,rdn76,rdn5,rdn63,rdn65,rdn4,rdn111,rdn83]
 refine (bnE h (fun _ g h=>(fun g=>(itE h (fun q h=>(bnE h (fun _ g h=>(fun g=>(itE h (fun q h=>(bnE h (fun _ g h=>(fun g=>(itE h (fun q h=>(bnE h (fun _ g h=>(fun g=>?_) (impl_numberAt.rel m _ _ _ _ g m (by omega))))) (fun q h=>?_))) (impl_ArenaOk.rel _ _ _ g m (by omega))))) (fun q h=>?_))) (impl_isRoot.rel m _ _ _ g m (by omega))))) (fun q h=>?_))) (impl_in.rel m _ _ _ _ g m (by omega))))
 all_goals (try cases h)
 all_goals (try simp only [*,if_true,if_false,↓reduceIte,Option.bind_some,List.length_cons,List.length_nil,List.length_append,Bool.not_true,Bool.not_false,Bool.true_eq_false,Bool.false_eq_true])
 all_goals (repeat first | rw [if_pos (by omega)] | rw [if_neg (by omega)])
 all_goals first | exact h | apply h | rfl | (simp_all [-Bool.forall_bool];done) | (simp_all [-Bool.forall_bool];first | exact h | apply h) | (simp_all [-Bool.forall_bool,emp_eq,int_beq];done) | (simp_all [-Bool.forall_bool];(intros;simp_all;done)) | (simp_all [-Bool.forall_bool,rdset3,rdset132,rdset72,rdset87,rdset101,rdset92,rdset76,rdset5,rdset63,rdset65,rdset4,rdset111,rdset83];done) | grind
theorem impl_AllAt.rel_l (k : Nat) : (∀ x1 x5 x7 x346000 r,PK.impl_AllAt.l0 k x1 x5 x7 x346000 = some r → ∀ m,k ≤ m → impl_AllAt.c3 m x1 x7 x346000 x5 = some r):=by
 induction k using Nat.strongRecOn with
 | _ k ih =>
 have il0:=fun k' hk'=>(ih k' hk');clear ih;intro x1 x5 x7 x346000 r h m hm;cases k with
 | zero=>simp only [PK.impl_AllAt.l0] at h;cases h
 | succ k =>
  obtain ⟨m,rfl⟩ : ∃ m',m = m' + 1:=⟨m - 1,by omega⟩;rw [PK.impl_AllAt.l0] at h;rw [impl_AllAt.c3]
  try simp only [w64_eq,wu8_eq,gt_iff_lt,ge_iff_le,int_beq,fdiv33,fdiv45,bt_eq,tmodN,rdOfB,rdOfL] at h
  try simp only [shlR]
  try simp only [w64_eq,wu8_eq,gt_iff_lt,ge_iff_le,int_beq,fdiv33,fdiv45,bt_eq,tmodN,rdOfB,rdOfL,rdT3_eq,rdT5_eq,seq,maxI,minI,emp_eq,rdn3,rdn132,rdn72,rdn87,rdn101,rdn92,rdn76,rdn5,rdn63,rdn65,rdn4,rdn111,rdn83]
  refine (itE h (fun q h=>(bnE h (fun _ g h=>(fun g=>(itE h (fun q h=>((fun h=>?_) (il0 _ (by omega) _ _ _ _ _ h m (by omega)))) (fun q h=>(noE h)))) (impl_GetAt.rel _ _ _ _ _ g m (by omega))))) (fun q h=>?_))
  all_goals clear il0
  all_goals (try cases h)
  all_goals (try simp only [*,if_true,if_false,↓reduceIte,Option.bind_some,List.length_cons,List.length_nil,List.length_append,Bool.not_true,Bool.not_false,Bool.true_eq_false,Bool.false_eq_true])
  all_goals (repeat first | rw [if_pos (by omega)] | rw [if_neg (by omega)])
  all_goals first | exact h | apply h | rfl | (simp_all [-Bool.forall_bool];done) | (simp_all [-Bool.forall_bool];first | exact h | apply h) | (simp_all [-Bool.forall_bool,emp_eq,int_beq];done) | (simp_all [-Bool.forall_bool];(intros;simp_all;done)) | (simp_all [-Bool.forall_bool,rdset3,rdset132,rdset72,rdset87,rdset101,rdset92,rdset76,rdset5,rdset63,rdset65,rdset4,rdset111,rdset83];done) | grind
theorem impl_AllAt.rel (k : Nat) (l0_0 : List (S111)) (a1 : Int) (r) (h : PK.impl_AllAt.f k l0_0 a1 = some r) (m : Nat) (hm : k ≤ m) : impl_AllAt.f m l0_0 a1 = some r:=by
 have il0:=fun k' (_ : k' < k + 1)=>(impl_AllAt.rel_l k');rw [PK.impl_AllAt.f] at h;rw [impl_AllAt.f]
 try simp only [w64_eq,wu8_eq,gt_iff_lt,ge_iff_le,int_beq,fdiv33,fdiv45,bt_eq,tmodN,rdOfB,rdOfL] at h
 try simp only [shlR]
 try simp only [w64_eq,wu8_eq,gt_iff_lt,ge_iff_le,int_beq,fdiv33,fdiv45,bt_eq,tmodN,rdOfB,rdOfL,rdT3_eq,rdT5_eq,seq,maxI,minI,emp_eq,rdn3,rdn132,rdn72,rdn87,rdn101,rdn92,rdn76,rdn5,rdn63,rdn65,rdn4,rdn111,rdn83]
 refine ((fun h=>?_) (il0 _ (by omega) _ _ _ _ _ h m (by omega)))
 all_goals clear il0
 all_goals (try cases h)
 all_goals (try simp only [*,if_true,if_false,↓reduceIte,Option.bind_some,List.length_cons,List.length_nil,List.length_append,Bool.not_true,Bool.not_false,Bool.true_eq_false,Bool.false_eq_true])
 all_goals (repeat first | rw [if_pos (by omega)] | rw [if_neg (by omega)])
 all_goals first | exact h | apply h | rfl | (simp_all [-Bool.forall_bool];done) | (simp_all [-Bool.forall_bool];first | exact h | apply h) | (simp_all [-Bool.forall_bool,emp_eq,int_beq];done) | (simp_all [-Bool.forall_bool];(intros;simp_all;done)) | (simp_all [-Bool.forall_bool,rdset3,rdset132,rdset72,rdset87,rdset101,rdset92,rdset76,rdset5,rdset63,rdset65,rdset4,rdset111,rdset83];done) | grind
end Go.Proofs.YtibhkbljjnlpjaaGreat.M2

namespace Go.Proofs.YtibhkbljjnlpjaaGreat.M2
open Go Go.RowKit Go.Proofs.YtibhkbljjnlpjaaGreatW.PrintWords Go.Proofs.YtibhkbljjnlpjaaGreat.PK
set_option linter.unusedVariables false
set_option linter.unusedSimpArgs false
set_option maxHeartbeats 1600000
theorem impl_chunksOf.rel_l (k : Nat) : (∀ x3 x9 x10 x11 x351000 x351001 x351002 r,PK.impl_chunksOf.l0 k x3 x9 x10 x11 x351000 x351001 x351002 = some r → ∀ m,k ≤ m → impl_chunksOf.c3 m x9 x10 x11 x351000 x351001 x351002 x3 = some r) ∧ (∀ x3 x9 x10 x11 x19 x20 x21 x351000 x351001 x351002 r,PK.impl_chunksOf.l1 k x3 x9 x10 x11 x19 x20 x21 x351000 x351001 x351002 = some r → ∀ m,k ≤ m → impl_chunksOf.c6 m x9 x10 x11 x20 x21 x351000 x351001 x351002 x3 x19 = some r):=by
 induction k using Nat.strongRecOn with
 | _ k ih =>
 have il0:=fun k' hk'=>(ih k' hk').1;have il1:=fun k' hk'=>(ih k' hk').2;clear ih;refine ⟨?_,?_⟩
 ·intro x3 x9 x10 x11 x351000 x351001 x351002 r h m hm;cases k with
  | zero=>simp only [PK.impl_chunksOf.l0] at h;cases h
  | succ k =>
   obtain ⟨m,rfl⟩ : ∃ m',m = m' + 1:=⟨m - 1,by omega⟩;rw [PK.impl_chunksOf.l0] at h;rw [impl_chunksOf.c3]
   try simp only [w64_eq,wu8_eq,gt_iff_lt,ge_iff_le,int_beq,fdiv33,fdiv45,bt_eq,tmodN,rdOfB,rdOfL] at h
   try simp only [shlR]
   try simp only [w64_eq,wu8_eq,gt_iff_lt,ge_iff_le,int_beq,fdiv33,fdiv45,bt_eq,tmodN,rdOfB,rdOfL,rdT3_eq,rdT5_eq,seq,maxI,minI,emp_eq,rdn3,rdn132,rdn72,rdn87,rdn101,rdn92,rdn76,rdn5,rdn63,rdn65,rdn4,rdn111,rdn83]
   refine (itE h (fun q h=>(itE h (fun q h=>(itE h (fun q h=>(bnE h (fun _ g h=>(fun g=>((fun h=>?_) (il1 _ (by omega) _ _ _ _ _ _ _ _ _ _ _ h m (by omega)))) (impl_AllAt.rel _ _ _ _ g m (by omega))))) (fun q h=>(noE h)))) (fun q h=>(noE h)))) (fun q h=>?_))
   all_goals clear il0 il1
   all_goals (try cases h)
   all_goals (try simp only [*,if_true,if_false,↓reduceIte,Option.bind_some,List.length_cons,List.length_nil,List.length_append,Bool.not_true,Bool.not_false,Bool.true_eq_false,Bool.false_eq_true])
   all_goals (repeat first | rw [if_pos (by omega)] | rw [if_neg (by omega)])
   all_goals first | exact h | apply h | rfl | (simp_all [-Bool.forall_bool];done) | (simp_all [-Bool.forall_bool];first | exact h | apply h) | (simp_all [-Bool.forall_bool,emp_eq,int_beq];done) | (simp_all [-Bool.forall_bool];(intros;simp_all;done)) | (simp_all [-Bool.forall_bool,rdset3,rdset132,rdset72,rdset87,rdset101,rdset92,rdset76,rdset5,rdset63,rdset65,rdset4,rdset111,rdset83];done) | grind
 intro x3 x9 x10 x11 x19 x20 x21 x351000 x351001 x351002 r h m hm;cases k with
 | zero=>simp only [PK.impl_chunksOf.l1] at h;cases h
 | succ k =>
  obtain ⟨m,rfl⟩ : ∃ m',m = m' + 1:=⟨m - 1,by omega⟩;rw [PK.impl_chunksOf.l1] at h;rw [impl_chunksOf.c6]
  try simp only [w64_eq,wu8_eq,gt_iff_lt,ge_iff_le,int_beq,fdiv33,fdiv45,bt_eq,tmodN,rdOfB,rdOfL] at h
  try simp only [shlR]
  try simp only [w64_eq,wu8_eq,gt_iff_lt,ge_iff_le,int_beq,fdiv33,fdiv45,bt_eq,tmodN,rdOfB,rdOfL,rdT3_eq,rdT5_eq,seq,maxI,minI,emp_eq,rdn3,rdn132,rdn72,rdn87,rdn101,rdn92,rdn76,rdn5,rdn63,rdn65,rdn4,rdn111,rdn83]
  refine (itE h (fun q h=>(itE h (fun q h=>(itE h (fun q h=>(itE h (fun q h=>(itE h (fun q h=>((fun h=>?_) (il1 _ (by omega) _ _ _ _ _ _ _ _ _ _ _ h m (by omega)))) (fun q h=>(noE h)))) (fun q h=>((fun h=>?_) (il1 _ (by omega) _ _ _ _ _ _ _ _ _ _ _ h m (by omega)))))) (fun q h=>(noE h)))) (fun q h=>(noE h)))) (fun q h=>((fun h=>?_) (il0 _ (by omega) _ _ _ _ _ _ _ _ h m (by omega)))))
  all_goals clear il0 il1
  all_goals (try cases h)
  all_goals (try simp only [*,if_true,if_false,↓reduceIte,Option.bind_some,List.length_cons,List.length_nil,List.length_append,Bool.not_true,Bool.not_false,Bool.true_eq_false,Bool.false_eq_true])
  all_goals (repeat first | rw [if_pos (by omega)] | rw [if_neg (by omega)])
  all_goals first | exact h | apply h | rfl | (simp_all [-Bool.forall_bool];done) | (simp_all [-Bool.forall_bool];first | exact h | apply h) | (simp_all [-Bool.forall_bool,emp_eq,int_beq];done) | (simp_all [-Bool.forall_bool];(intros;simp_all;done)) | (simp_all [-Bool.forall_bool,rdset3,rdset132,rdset72,rdset87,rdset101,rdset92,rdset76,rdset5,rdset63,rdset65,rdset4,rdset111,rdset83];done) | grind
theorem impl_chunksOf.rel (k : Nat) (l0_0 : List (S83)) (l0_1 : List (S111)) (a0_2 : Int) (r) (h : PK.impl_chunksOf.f k l0_0 l0_1 a0_2 = some r) (m : Nat) (hm : k ≤ m) : impl_chunksOf.f m l0_0 l0_1 a0_2 = some r:=by
 have il0:=fun k' (_ : k' < k + 1)=>(impl_chunksOf.rel_l k').1;have il1:=fun k' (_ : k' < k + 1)=>(impl_chunksOf.rel_l k').2;rw [PK.impl_chunksOf.f] at h;rw [impl_chunksOf.f]
 try simp only [w64_eq,wu8_eq,gt_iff_lt,ge_iff_le,int_beq,fdiv33,fdiv45,bt_eq,tmodN,rdOfB,rdOfL] at h
 try simp only [shlR]
 try simp only [w64_eq,wu8_eq,gt_iff_lt,ge_iff_le,int_beq,fdiv33,fdiv45,bt_eq,tmodN,rdOfB,rdOfL,rdT3_eq,rdT5_eq,seq,maxI,minI,emp_eq,rdn3,rdn132,rdn72,rdn87,rdn101,rdn92,rdn76,rdn5,rdn63,rdn65,rdn4,rdn111,rdn83]
 refine ((fun h=>?_) (il0 _ (by omega) _ _ _ _ _ _ _ _ h m (by omega)))
 all_goals clear il0 il1
 all_goals (try cases h)
 all_goals (try simp only [*,if_true,if_false,↓reduceIte,Option.bind_some,List.length_cons,List.length_nil,List.length_append,Bool.not_true,Bool.not_false,Bool.true_eq_false,Bool.false_eq_true])
 all_goals (repeat first | rw [if_pos (by omega)] | rw [if_neg (by omega)])
 all_goals first | exact h | apply h | rfl | (simp_all [-Bool.forall_bool];done) | (simp_all [-Bool.forall_bool];first | exact h | apply h) | (simp_all [-Bool.forall_bool,emp_eq,int_beq];done) | (simp_all [-Bool.forall_bool];(intros;simp_all;done)) | (simp_all [-Bool.forall_bool,rdset3,rdset132,rdset72,rdset87,rdset101,rdset92,rdset76,rdset5,rdset63,rdset65,rdset4,rdset111,rdset83];done) | grind
theorem impl_LiveOf.rel_l (k : Nat) : (∀ x4 x11 x12 x13 r,PK.impl_LiveOf.l0 k x11 x4 x11 x12 x13 = some r → ∀ m,k ≤ m → impl_LiveOf.c5 m x12 x13 x11 x4 = some r):=by
 induction k using Nat.strongRecOn with
 | _ k ih =>
 have il0:=fun k' hk'=>(ih k' hk');clear ih;intro x4 x11 x12 x13 r h m hm;cases k with
 | zero=>simp only [PK.impl_LiveOf.l0] at h;cases h
 | succ k =>
  obtain ⟨m,rfl⟩ : ∃ m',m = m' + 1:=⟨m - 1,by omega⟩;rw [PK.impl_LiveOf.l0] at h;rw [impl_LiveOf.c5]
  try simp only [w64_eq,wu8_eq,gt_iff_lt,ge_iff_le,int_beq,fdiv33,fdiv45,bt_eq,tmodN,rdOfB,rdOfL] at h
  try simp only [shlR]
  try simp only [w64_eq,wu8_eq,gt_iff_lt,ge_iff_le,int_beq,fdiv33,fdiv45,bt_eq,tmodN,rdOfB,rdOfL,rdT3_eq,rdT5_eq,seq,maxI,minI,emp_eq,rdn3,rdn132,rdn72,rdn87,rdn101,rdn92,rdn76,rdn5,rdn63,rdn65,rdn4,rdn111,rdn83]
  refine (itE h (fun q h=>(itE h (fun q h=>(itE h (fun q h=>(itE h (fun q h=>(itE h (fun q h=>((fun h=>?_) (il0 _ (by omega) _ _ _ _ _ h m (by omega)))) (fun q h=>(noE h)))) (fun q h=>(itE h (fun q h=>(itE h (fun q h=>(itE h (fun q h=>((fun h=>?_) (il0 _ (by omega) _ _ _ _ _ h m (by omega)))) (fun q h=>(itE h (fun q h=>((fun h=>?_) (il0 _ (by omega) _ _ _ _ _ h m (by omega)))) (fun q h=>(noE h)))))) (fun q h=>(noE h)))) (fun q h=>(noE h)))))) (fun q h=>(noE h)))) (fun q h=>(noE h)))) (fun q h=>?_))
  all_goals clear il0
  all_goals (try cases h)
  all_goals (try simp only [*,if_true,if_false,↓reduceIte,Option.bind_some,List.length_cons,List.length_nil,List.length_append,Bool.not_true,Bool.not_false,Bool.true_eq_false,Bool.false_eq_true])
  all_goals (repeat first | rw [if_pos (by omega)] | rw [if_neg (by omega)])
  all_goals first | exact h | apply h | rfl | (simp_all [-Bool.forall_bool];done) | (simp_all [-Bool.forall_bool];first | exact h | apply h) | (simp_all [-Bool.forall_bool,emp_eq,int_beq];done) | (simp_all [-Bool.forall_bool];(intros;simp_all;done)) | (simp_all [-Bool.forall_bool,rdset3,rdset132,rdset72,rdset87,rdset101,rdset92,rdset76,rdset5,rdset63,rdset65,rdset4,rdset111,rdset83];done) | grind
theorem impl_LiveOf.rel (k : Nat) (l0_0 : List (S83)) (l0_1 : List (S111)) (a0_2 : Int) (r) (h : PK.impl_LiveOf.f k l0_0 l0_1 a0_2 = some r) (m : Nat) (hm : k ≤ m) : impl_LiveOf.f m l0_0 l0_1 a0_2 = some r:=by
 have il0:=fun k' (_ : k' < k + 1)=>(impl_LiveOf.rel_l k');rw [PK.impl_LiveOf.f] at h;rw [impl_LiveOf.f]
 try simp only [w64_eq,wu8_eq,gt_iff_lt,ge_iff_le,int_beq,fdiv33,fdiv45,bt_eq,tmodN,rdOfB,rdOfL] at h
 try simp only [shlR]
 try simp only [w64_eq,wu8_eq,gt_iff_lt,ge_iff_le,int_beq,fdiv33,fdiv45,bt_eq,tmodN,rdOfB,rdOfL,rdT3_eq,rdT5_eq,seq,maxI,minI,emp_eq,rdn3,rdn132,rdn72,rdn87,rdn101,rdn92,rdn76,rdn5,rdn63,rdn65,rdn4,rdn111,rdn83]
 refine (bnE h (fun _ g h=>(fun g=>(bnE h (fun _ g h=>(fun g=>(fun eL=>((fun h=>?_) (il0 _ (by omega) _ _ _ _ _ h m (by omega)))) (sort_Ints.len g)) (sort_Ints.rel _ _ _ g m (by omega))))) (impl_chunksOf.rel _ _ _ _ _ g m (by omega))))
 all_goals clear il0
 all_goals (try cases h)
 all_goals (try simp only [*,if_true,if_false,↓reduceIte,Option.bind_some,List.length_cons,List.length_nil,List.length_append,Bool.not_true,Bool.not_false,Bool.true_eq_false,Bool.false_eq_true])
 all_goals (repeat first | rw [if_pos (by omega)] | rw [if_neg (by omega)])
 all_goals first | exact h | apply h | rfl | (simp_all [-Bool.forall_bool];done) | (simp_all [-Bool.forall_bool];first | exact h | apply h) | (simp_all [-Bool.forall_bool,emp_eq,int_beq];done) | (simp_all [-Bool.forall_bool];(intros;simp_all;done)) | (simp_all [-Bool.forall_bool,rdset3,rdset132,rdset72,rdset87,rdset101,rdset92,rdset76,rdset5,rdset63,rdset65,rdset4,rdset111,rdset83];done) | grind
end Go.Proofs.YtibhkbljjnlpjaaGreat.M2

namespace Go.Proofs.YtibhkbljjnlpjaaGreat.M2
open Go Go.RowKit Go.Proofs.YtibhkbljjnlpjaaGreatW.PrintWords Go.Proofs.YtibhkbljjnlpjaaGreat.PK
set_option linter.unusedVariables false
set_option linter.unusedSimpArgs false
set_option maxHeartbeats 1600000
theorem laws_szLeaf.rel (k : Nat) (a0_0 : Int) (a0_1 : ByteArray) (a1 : Int) (r) (h : PK.laws_szLeaf.f a0_0 a0_1 a1 = some r) (m : Nat) (hm : k ≤ m) : laws_szLeaf.f m a0_0 a0_1 a1 = some r:=by
 rw [PK.laws_szLeaf.f] at h;rw [laws_szLeaf.f]
 try simp only [w64_eq,wu8_eq,gt_iff_lt,ge_iff_le,int_beq,fdiv33,fdiv45,bt_eq,tmodN,rdOfB,rdOfL] at h
 try simp only [shlR]
 try simp only [w64_eq,wu8_eq,gt_iff_lt,ge_iff_le,int_beq,fdiv33,fdiv45,bt_eq,tmodN,rdOfB,rdOfL,rdT3_eq,rdT5_eq,seq,maxI,minI,emp_eq,rdn3,rdn132,rdn72,rdn87,rdn101,rdn92,rdn76,rdn5,rdn63,rdn65,rdn4,rdn111,rdn83]
 refine (itE h (fun q h=>?_) (fun q h=>?_))
 all_goals (try cases h)
 all_goals (try simp only [*,if_true,if_false,↓reduceIte,Option.bind_some,List.length_cons,List.length_nil,List.length_append,Bool.not_true,Bool.not_false,Bool.true_eq_false,Bool.false_eq_true])
 all_goals (repeat first | rw [if_pos (by omega)] | rw [if_neg (by omega)])
 all_goals first | exact h | apply h | rfl | (simp_all [-Bool.forall_bool];done) | (simp_all [-Bool.forall_bool];first | exact h | apply h) | (simp_all [-Bool.forall_bool,emp_eq,int_beq];done) | (simp_all [-Bool.forall_bool];(intros;simp_all;done)) | (simp_all [-Bool.forall_bool,rdset3,rdset132,rdset72,rdset87,rdset101,rdset92,rdset76,rdset5,rdset63,rdset65,rdset4,rdset111,rdset83];done) | grind
theorem laws_szLeafS.rel_l (k : Nat) : (∀ x0 x1 x5 r,PK.laws_szLeafS.l0 k x0 x1 x5 = some r → ∀ m,k ≤ m → laws_szLeafS.c5 m x0 x1 x5 = some r):=by
 induction k using Nat.strongRecOn with
 | _ k ih =>
 have il0:=fun k' hk'=>(ih k' hk');clear ih;intro x0 x1 x5 r h m hm;cases k with
 | zero=>simp only [PK.laws_szLeafS.l0] at h;cases h
 | succ k =>
  obtain ⟨m,rfl⟩ : ∃ m',m = m' + 1:=⟨m - 1,by omega⟩;rw [PK.laws_szLeafS.l0] at h;rw [laws_szLeafS.c5]
  try simp only [w64_eq,wu8_eq,gt_iff_lt,ge_iff_le,int_beq,fdiv33,fdiv45,bt_eq,tmodN,rdOfB,rdOfL] at h
  try simp only [shlR]
  try simp only [w64_eq,wu8_eq,gt_iff_lt,ge_iff_le,int_beq,fdiv33,fdiv45,bt_eq,tmodN,rdOfB,rdOfL,rdT3_eq,rdT5_eq,seq,maxI,minI,emp_eq,rdn3,rdn132,rdn72,rdn87,rdn101,rdn92,rdn76,rdn5,rdn63,rdn65,rdn4,rdn111,rdn83]
  refine (itE h (fun q h=>(itE h (fun q h=>(bnE h (fun _ g h=>(fun g=>(itE h (fun q h=>?_) (fun q h=>((fun h=>?_) (il0 _ (by omega) _ _ _ _ h m (by omega)))))) (laws_szLeaf.rel m _ _ _ _ g m (by omega))))) (fun q h=>(noE h)))) (fun q h=>?_))
  all_goals clear il0
  all_goals (try cases h)
  all_goals (try simp only [*,if_true,if_false,↓reduceIte,Option.bind_some,List.length_cons,List.length_nil,List.length_append,Bool.not_true,Bool.not_false,Bool.true_eq_false,Bool.false_eq_true])
  all_goals (repeat first | rw [if_pos (by omega)] | rw [if_neg (by omega)])
  all_goals first | exact h | apply h | rfl | (simp_all [-Bool.forall_bool];done) | (simp_all [-Bool.forall_bool];first | exact h | apply h) | (simp_all [-Bool.forall_bool,emp_eq,int_beq];done) | (simp_all [-Bool.forall_bool];(intros;simp_all;done)) | (simp_all [-Bool.forall_bool,rdset3,rdset132,rdset72,rdset87,rdset101,rdset92,rdset76,rdset5,rdset63,rdset65,rdset4,rdset111,rdset83];done) | grind
theorem laws_szLeafS.rel (k : Nat) (l0 : List (S132)) (a1 : Int) (r) (h : PK.laws_szLeafS.f k l0 a1 = some r) (m : Nat) (hm : k ≤ m) : laws_szLeafS.f m l0 a1 = some r:=by
 have il0:=fun k' (_ : k' < k + 1)=>(laws_szLeafS.rel_l k');rw [PK.laws_szLeafS.f] at h;rw [laws_szLeafS.f]
 try simp only [w64_eq,wu8_eq,gt_iff_lt,ge_iff_le,int_beq,fdiv33,fdiv45,bt_eq,tmodN,rdOfB,rdOfL] at h
 try simp only [shlR]
 try simp only [w64_eq,wu8_eq,gt_iff_lt,ge_iff_le,int_beq,fdiv33,fdiv45,bt_eq,tmodN,rdOfB,rdOfL,rdT3_eq,rdT5_eq,seq,maxI,minI,emp_eq,rdn3,rdn132,rdn72,rdn87,rdn101,rdn92,rdn76,rdn5,rdn63,rdn65,rdn4,rdn111,rdn83]
 refine (itE h (fun q h=>?_) (fun q h=>((fun h=>?_) (il0 _ (by omega) _ _ _ _ h m (by omega)))))
 all_goals clear il0
 all_goals (try cases h)
 all_goals (try simp only [*,if_true,if_false,↓reduceIte,Option.bind_some,List.length_cons,List.length_nil,List.length_append,Bool.not_true,Bool.not_false,Bool.true_eq_false,Bool.false_eq_true])
 all_goals (repeat first | rw [if_pos (by omega)] | rw [if_neg (by omega)])
 all_goals first | exact h | apply h | rfl | (simp_all [-Bool.forall_bool];done) | (simp_all [-Bool.forall_bool];first | exact h | apply h) | (simp_all [-Bool.forall_bool,emp_eq,int_beq];done) | (simp_all [-Bool.forall_bool];(intros;simp_all;done)) | (simp_all [-Bool.forall_bool,rdset3,rdset132,rdset72,rdset87,rdset101,rdset92,rdset76,rdset5,rdset63,rdset65,rdset4,rdset111,rdset83];done) | grind
theorem laws_szBlock.rel (k : Nat) (a0_0 : Bool) (a0_1 : Int) (l0_2 : List (S132)) (a1 : Int) (r) (h : PK.laws_szBlock.f k a0_0 a0_1 l0_2 a1 = some r) (m : Nat) (hm : k ≤ m) : laws_szBlock.f m a0_0 a0_1 l0_2 a1 = some r:=by
 rw [PK.laws_szBlock.f] at h;rw [laws_szBlock.f]
 try simp only [w64_eq,wu8_eq,gt_iff_lt,ge_iff_le,int_beq,fdiv33,fdiv45,bt_eq,tmodN,rdOfB,rdOfL] at h
 try simp only [shlR]
 try simp only [w64_eq,wu8_eq,gt_iff_lt,ge_iff_le,int_beq,fdiv33,fdiv45,bt_eq,tmodN,rdOfB,rdOfL,rdT3_eq,rdT5_eq,seq,maxI,minI,emp_eq,rdn3,rdn132,rdn72,rdn87,rdn101,rdn92,rdn76,rdn5,rdn63,rdn65,rdn4,rdn111,rdn83]
 refine (bnE h (fun _ g h=>(fun g=>(itE h (fun q h=>?_) (fun q h=>?_))) (laws_szLeafS.rel _ _ _ _ g m (by omega))))
 all_goals (try cases h)
 all_goals (try simp only [*,if_true,if_false,↓reduceIte,Option.bind_some,List.length_cons,List.length_nil,List.length_append,Bool.not_true,Bool.not_false,Bool.true_eq_false,Bool.false_eq_true])
 all_goals (repeat first | rw [if_pos (by omega)] | rw [if_neg (by omega)])
 all_goals first | exact h | apply h | rfl | (simp_all [-Bool.forall_bool];done) | (simp_all [-Bool.forall_bool];first | exact h | apply h) | (simp_all [-Bool.forall_bool,emp_eq,int_beq];done) | (simp_all [-Bool.forall_bool];(intros;simp_all;done)) | (simp_all [-Bool.forall_bool,rdset3,rdset132,rdset72,rdset87,rdset101,rdset92,rdset76,rdset5,rdset63,rdset65,rdset4,rdset111,rdset83];done) | grind
end Go.Proofs.YtibhkbljjnlpjaaGreat.M2
