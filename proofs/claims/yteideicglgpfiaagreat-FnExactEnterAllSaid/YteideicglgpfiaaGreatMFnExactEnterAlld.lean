/- FnExactEnterAll: functions of the translation as Lean functions with what their calls come to, plain lemmas on them, and, at the end, the row. Parts of one proof, merged by a program of this session; each part's own sentence stands at its head. -/
import Derived.IntWalk
import Derived.KernelRfl
import Derived.Test.YteideicglgpfiaaGreatMFnExactEnterAllc
namespace Go.Proofs.YteideicglgpfiaaGreat.M2
open Go Go.Proofs.YteideicglgpfiaaGreat.PK
set_option linter.unusedVariables false
set_option linter.unusedSimpArgs false
set_option maxHeartbeats 4000000
noncomputable def impl_EnterAll.sp : Nat → Option (Spec Ty):=fun r=>bif Nat.beq r 3 then some ⟨[(2,.box [.keep,.keep,.keep]),(4,.box [.own .t69,.own .t80,.keep]),(6,.box [.own .t69,.own .t80,.keep]),(13,.keep),(14,.keep),(15,.keep)],[]⟩ else none
noncomputable def impl_EnterAll.en : Option (Spec Ty):=some ⟨[(4,.box [.own .t69,.own .t80,.keep]),(5,.keep)],[]⟩
noncomputable def impl_EnterAll.s3 (x13 : List S52) (x14 : Int) (x15 : Int) (h64_0 : List S69) (h64_1 : List S80) (h64_2 : Int) (h66 : List S69) (h67 : List S80) (h65_2 : Int) (h69 : List S69) (h70 : List S80) (h68_2 : Int) : St Ty D:=⟨(Env.put (Env.put (Env.put (Env.put (Env.put (Env.put E (some 2) (.pt 64 0 0)) (some 4) (.pt 65 0 0)) (some 6) (.pt 68 0 0)) (some 13) (.row 0 .t52 x13)) (some 14) (.sc (.int .i64 x14))) (some 15) (.sc (.int .i64 x15))),Heap.put H0 [(64,some (.box [.row 0 .t69 h64_0,.row 0 .t80 h64_1,.sc (.int .i64 h64_2)])),(66,some (.rowb .t69 h66 0)),(67,some (.rowb .t80 h67 0)),(65,some (.box [.sl 66 none,.sl 67 none,.sc (.int .i64 h65_2)])),(69,some (.rowb .t69 h69 0)),(70,some (.rowb .t80 h70 0)),(68,some (.box [.sl 69 none,.sl 70 none,.sc (.int .i64 h68_2)]))],1000⟩
noncomputable def impl_EnterAll.ctx (k : Nat) : Ctx Ty D:=(cons 22 (impl_copyStore.x k) (cons 23 (impl_Enter.x k) (fun _ _ _ _=>none)))
noncomputable def impl_EnterAll.c3 : Nat → (List S52) → Int → Int → (List S69) → (List S80) → Int → (List S69) → (List S80) → Int → (List S69) → (List S80) → Int → Option ((List S69) × (List S80) × Int × Bool)
 | 0,_,_,_,_,_,_,_,_,_,_,_,_=>none
 | k + 1,x13,x14,x15,h64_0,h64_1,h64_2,h66,h67,h65_2,h69,h70,h68_2=>(if x15 < x14 then (if 0 ≤ x15 then (if x15 < (x13.length : Int) then ((impl_Enter.f k h69 h70 h68_2 ((rd_T52 x13 x15).f0) ((rd_T52 x13 x15).f1) ((rd_T52 x13 x15).f2) ((rd_T52 x13 x15).f3)).bind fun t2=>(if t2.2.2.2 = true then (impl_EnterAll.c3 k x13 x14 (w64 (x15 + 1)) h64_0 h64_1 h64_2 h66 h67 h65_2 t2.1 t2.2.1 t2.2.2.1) else ((impl_copyStore.f k h64_0 h64_1 h64_2).bind fun t3=>(some (t3.1,t3.2.1,t3.2.2,false))))) else none) else none) else (some (h69,h70,h68_2,true)))
noncomputable def impl_EnterAll.f (k : Nat) (a0_0 : List S69) (a0_1 : List S80) (a0_2 : Int) (a1 : List S52) : Option ((List S69) × (List S80) × Int × Bool):=((impl_copyStore.f k a0_0 a0_1 a0_2).bind fun t1=>(impl_EnterAll.c3 k a1 (a1.length : Int) 0 a0_0 a0_1 a0_2 ([] : List S69) ([] : List S80) 0 t1.1 t1.2.1 t1.2.2))
noncomputable def impl_EnterAll.e (r : (List S69) × (List S80) × Int × Bool) : Res Ty D:=(.tu [.ag [.sl 0 none,.sl 1 none,.sc (.int .i64 r.2.2.1)],.sc (.bool r.2.2.2)],[],[.rowb .t69 r.1 0,.rowb .t80 r.2.1 0])
noncomputable abbrev impl_EnterAll.g (rec : List Item → St Ty D → R) (k : Nat):=go1 Tryz.f9 (impl_EnterAll.ctx k) impl_EnterAll.sp 0 impl_EnterAll.en rec
set_option maxRecDepth 100000 in
theorem impl_EnterAll.t3 (rec : List Item → St Ty D → R) (k : Nat) (x13 : List S52) (x14 : Int) (x15 : Int) (h64_0 : List S69) (h64_1 : List S80) (h64_2 : Int) (h66 : List S69) (h67 : List S80) (h65_2 : Int) (h69 : List S69) (h70 : List S80) (h68_2 : Int) : impl_EnterAll.g rec k (td Tryz.f9 3) (impl_EnterAll.s3 x13 x14 x15 h64_0 h64_1 h64_2 h66 h67 h65_2 h69 h70 h68_2) =
 bif decide (x15 < x14) then bif decide (0 ≤ x15) then bif decide (x15 < (x13.length : Int)) then (impl_Enter.f k h69 h70 h68_2 ((rd_T52 x13 x15).f0) ((rd_T52 x13 x15).f1) ((rd_T52 x13 x15).f2) ((rd_T52 x13 x15).f3)).bind fun t2=>bif !t2.2.2.2 then (impl_copyStore.f k h64_0 h64_1 h64_2).bind fun t3=>some (impl_EnterAll.e (t3.1,t3.2.1,t3.2.2,false)) else rec (td Tryz.f9 3) (impl_EnterAll.s3 x13 x14 (w64 (x15 + 1)) h64_0 h64_1 h64_2 h66 h67 h65_2 t2.1 t2.2.1 t2.2.2.1) else none else none else some (impl_EnterAll.e (h69,h70,h68_2,true)):=by kernel_rfl
set_option maxRecDepth 100000 in
theorem impl_EnterAll.te (rec : List Item → St Ty D → R) (k : Nat) (a0_0 : List S69) (a0_1 : List S80) (a0_2 : Int) (a1 : List S52) : impl_EnterAll.g rec k [.code (body Tryz.f9)] (startSt [.ag [.row 0 .t69 a0_0,.row 0 .t80 a0_1,.sc (.int .i64 a0_2)],.row 0 .t52 a1] []) =
 (impl_copyStore.f k a0_0 a0_1 a0_2).bind fun t1=>rec (td Tryz.f9 3) (impl_EnterAll.s3 a1 (a1.length : Int) 0 a0_0 a0_1 a0_2 ([] : List S69) ([] : List S80) 0 t1.1 t1.2.1 t1.2.2):=by kernel_rfl
set_option maxRecDepth 100000 in
theorem impl_EnterAll.ok : ∀ k : Nat,(∀ (x13 : List S52) (x14 : Int) (x15 : Int) (h64_0 : List S69) (h64_1 : List S80) (h64_2 : Int) (h66 : List S69) (h67 : List S80) (h65_2 : Int) (h69 : List S69) (h70 : List S80) (h68_2 : Int),goF Tryz.f9 impl_EnterAll.ctx impl_EnterAll.sp 0 impl_EnterAll.en k (td Tryz.f9 3) (impl_EnterAll.s3 x13 x14 x15 h64_0 h64_1 h64_2 h66 h67 h65_2 h69 h70 h68_2) = (impl_EnterAll.c3 k x13 x14 x15 h64_0 h64_1 h64_2 h66 h67 h65_2 h69 h70 h68_2).map impl_EnterAll.e)
 | 0=>fun _ _ _ _ _ _ _ _ _ _ _ _=>rfl
 | k + 1=>by
  have ih:=impl_EnterAll.ok k;have i3:=ih;intro x13 x14 x15 h64_0 h64_1 h64_2 h66 h67 h65_2 h69 h70 h68_2;rw [impl_EnterAll.c3];exact (impl_EnterAll.t3 _ k x13 x14 x15 h64_0 h64_1 h64_2 h66 h67 h65_2 h69 h70 h68_2).trans (cd (cd (cd (bn (fun t2=>(nb (bn (fun t3=>rfl)) (i3 _ _ _ _ _ _ _ _ _ _ _ _)))) rfl) rfl) rfl)
set_option maxRecDepth 100000 in
theorem impl_EnterAll.oke (k : Nat) (a0_0 : List S69) (a0_1 : List S80) (a0_2 : Int) (a1 : List S52) : goF Tryz.f9 impl_EnterAll.ctx impl_EnterAll.sp 0 impl_EnterAll.en (k + 1) [.code (body Tryz.f9)] (startSt [.ag [.row 0 .t69 a0_0,.row 0 .t80 a0_1,.sc (.int .i64 a0_2)],.row 0 .t52 a1] []) = (impl_EnterAll.f k a0_0 a0_1 a0_2 a1).map impl_EnterAll.e:=by
 have i3:=impl_EnterAll.ok k;rw [impl_EnterAll.f];exact (impl_EnterAll.te _ k a0_0 a0_1 a0_2 a1).trans (bn (fun t1=>(i3 _ _ _ _ _ _ _ _ _ _ _ _)))
theorem impl_EnterAll.con (k : Nat) (a0_0 : List S69) (a0_1 : List S80) (a0_2 : Int) (a1 : List S52) (r) (h : impl_EnterAll.f k a0_0 a0_1 a0_2 a1 = some r) : Contract Tryz.prog kit 9 [.ag [.row 0 .t69 a0_0,.row 0 .t80 a0_1,.sc (.int .i64 a0_2)],.row 0 .t52 a1] [] (impl_EnterAll.e r).1 (impl_EnterAll.e r).2.1 (impl_EnterAll.e r).2.2 :=
 con_okG kitOk mix (fun k=>(CtxOk.cons (impl_copyStore.xok k) (CtxOk.cons (impl_Enter.xok k) CtxOk.nil))) (impl_EnterAll.oke k a0_0 a0_1 a0_2 a1) h (by kernel_rfl) (by kernel_rfl) (by kernel_rfl) rfl (by kernel_rfl) rfl rfl
noncomputable def impl_EnterAll.x (k : Nat) : X:=fun ins bs κ=>match ins,bs with
 | [.ag [.row 0 .t69 a0_0,.row 0 .t80 a0_1,.sc (.int .i64 a0_2)],.row 0 .t52 a1],[]=>(impl_EnterAll.f k a0_0 a0_1 a0_2 a1).bind fun r=>κ (impl_EnterAll.e r).1 (impl_EnterAll.e r).2.1 (impl_EnterAll.e r).2.2
 | _,_=>none
theorem impl_EnterAll.xok (k : Nat) : XOk 9 (impl_EnterAll.x k):=by
 intro ins bs κ res h;unfold impl_EnterAll.x at h
 split at h
 ·obtain ⟨r,hr,h⟩:=Option.bind_eq_some_iff.1 h;exact ⟨_,_,_,impl_EnterAll.con k _ _ _ _ r hr,h⟩
 cases h
noncomputable def laws_eqVol.sp : Nat → Option (Spec Ty):=fun r=>none
noncomputable def laws_eqVol.en : Option (Spec Ty):=none
noncomputable def laws_eqVol.ctx (k : Nat) : Ctx Ty D:=(fun _ _ _ _=>none)
noncomputable def laws_eqVol.f (k : Nat) (a0_0 : Int) (a0_1 : Int) (a1_0 : Int) (a1_1 : Int) : Option (Bool):=(if a0_0 = a1_0 then (if a0_1 = a1_1 then (some (true)) else (some (false))) else (some (false)))
noncomputable def laws_eqVol.e (r : Bool) : Res Ty D:=(.sc (.bool r),[],[])
noncomputable abbrev laws_eqVol.g (rec : List Item → St Ty D → R) (k : Nat):=go1 Tryz.f46 (laws_eqVol.ctx k) laws_eqVol.sp 0 laws_eqVol.en rec
set_option maxRecDepth 100000 in
theorem laws_eqVol.te (rec : List Item → St Ty D → R) (k : Nat) (a0_0 : Int) (a0_1 : Int) (a1_0 : Int) (a1_1 : Int) : laws_eqVol.g rec k [.code (body Tryz.f46)] (startSt [.ag [.sc (.int .i64 a0_0),.sc (.int .i64 a0_1)],.ag [.sc (.int .i64 a1_0),.sc (.int .i64 a1_1)]] []) =
 bif !decide (a0_0 = a1_0) then some (laws_eqVol.e (false)) else bif !decide (a0_1 = a1_1) then some (laws_eqVol.e (false)) else some (laws_eqVol.e (true)):=by kernel_rfl
set_option maxRecDepth 100000 in
theorem laws_eqVol.oke (k : Nat) (a0_0 : Int) (a0_1 : Int) (a1_0 : Int) (a1_1 : Int) : goF Tryz.f46 laws_eqVol.ctx laws_eqVol.sp 0 laws_eqVol.en (k + 1) [.code (body Tryz.f46)] (startSt [.ag [.sc (.int .i64 a0_0),.sc (.int .i64 a0_1)],.ag [.sc (.int .i64 a1_0),.sc (.int .i64 a1_1)]] []) = (laws_eqVol.f k a0_0 a0_1 a1_0 a1_1).map laws_eqVol.e:=by
 rw [laws_eqVol.f];exact (laws_eqVol.te _ k a0_0 a0_1 a1_0 a1_1).trans (nd rfl (nd rfl rfl))
theorem laws_eqVol.con (k : Nat) (a0_0 : Int) (a0_1 : Int) (a1_0 : Int) (a1_1 : Int) (r) (h : laws_eqVol.f k a0_0 a0_1 a1_0 a1_1 = some r) : Contract Tryz.prog kit 46 [.ag [.sc (.int .i64 a0_0),.sc (.int .i64 a0_1)],.ag [.sc (.int .i64 a1_0),.sc (.int .i64 a1_1)]] [] (laws_eqVol.e r).1 (laws_eqVol.e r).2.1 (laws_eqVol.e r).2.2 :=
 con_okG kitOk mix (fun k=>CtxOk.nil) (laws_eqVol.oke k a0_0 a0_1 a1_0 a1_1) h (by kernel_rfl) (by kernel_rfl) (by kernel_rfl) rfl (by kernel_rfl) rfl rfl
noncomputable def laws_eqVol.x (k : Nat) : X:=fun ins bs κ=>match ins,bs with
 | [.ag [.sc (.int .i64 a0_0),.sc (.int .i64 a0_1)],.ag [.sc (.int .i64 a1_0),.sc (.int .i64 a1_1)]],[]=>(laws_eqVol.f k a0_0 a0_1 a1_0 a1_1).bind fun r=>κ (laws_eqVol.e r).1 (laws_eqVol.e r).2.1 (laws_eqVol.e r).2.2
 | _,_=>none
theorem laws_eqVol.xok (k : Nat) : XOk 46 (laws_eqVol.x k):=by
 intro ins bs κ res h;unfold laws_eqVol.x at h
 split at h
 ·obtain ⟨r,hr,h⟩:=Option.bind_eq_some_iff.1 h;exact ⟨_,_,_,laws_eqVol.con k _ _ _ _ r hr,h⟩
 cases h
noncomputable def laws_eqVolS.sp : Nat → Option (Spec Ty):=fun r=>bif Nat.beq r 4 then some ⟨[(0,.keep),(1,.keep),(5,.keep)],[]⟩ else none
noncomputable def laws_eqVolS.en : Option (Spec Ty):=none
noncomputable def laws_eqVolS.s4 (x0 : List S69) (x1 : List S69) (x5 : Int) : St Ty D:=⟨(Env.put (Env.put (Env.put E (some 0) (.row 0 .t69 x0)) (some 1) (.row 0 .t69 x1)) (some 5) (.sc (.int .i64 x5))),H0,1000⟩
noncomputable def laws_eqVolS.ctx (k : Nat) : Ctx Ty D:=(cons 46 (laws_eqVol.x k) (fun _ _ _ _=>none))
noncomputable def laws_eqVolS.c4 : Nat → (List S69) → (List S69) → Int → Option (Bool)
 | 0,_,_,_=>none
 | k + 1,x0,x1,x5=>(if x5 < (x0.length : Int) then (if 0 ≤ x5 then (if x5 < (x0.length : Int) then (if 0 ≤ x5 then (if x5 < (x1.length : Int) then ((laws_eqVol.f k ((rd_T69 x0 x5).f0) ((rd_T69 x0 x5).f1) ((rd_T69 x1 x5).f0) ((rd_T69 x1 x5).f1)).bind fun t1=>(if t1 = true then (laws_eqVolS.c4 k x0 x1 (w64 (x5 + 1))) else (some (false)))) else none) else none) else none) else none) else (some (true)))
noncomputable def laws_eqVolS.f (k : Nat) (a0 : List S69) (a1 : List S69) : Option (Bool):=(if (a0.length : Int) = (a1.length : Int) then (laws_eqVolS.c4 k a0 a1 0) else (some (false)))
noncomputable def laws_eqVolS.e (r : Bool) : Res Ty D:=(.sc (.bool r),[],[])
noncomputable abbrev laws_eqVolS.g (rec : List Item → St Ty D → R) (k : Nat):=go1 Tryz.f24 (laws_eqVolS.ctx k) laws_eqVolS.sp 0 laws_eqVolS.en rec
set_option maxRecDepth 100000 in
theorem laws_eqVolS.t4 (rec : List Item → St Ty D → R) (k : Nat) (x0 : List S69) (x1 : List S69) (x5 : Int) : laws_eqVolS.g rec k (td Tryz.f24 4) (laws_eqVolS.s4 x0 x1 x5) =
 bif decide (x5 < (x0.length : Int)) then bif decide (0 ≤ x5) then bif decide (x5 < (x0.length : Int)) then bif decide (0 ≤ x5) then bif decide (x5 < (x1.length : Int)) then (laws_eqVol.f k ((rd_T69 x0 x5).f0) ((rd_T69 x0 x5).f1) ((rd_T69 x1 x5).f0) ((rd_T69 x1 x5).f1)).bind fun t1=>bif !t1 then some (laws_eqVolS.e (false)) else rec (td Tryz.f24 4) (laws_eqVolS.s4 x0 x1 (w64 (x5 + 1))) else none else none else none else none else some (laws_eqVolS.e (true)):=by kernel_rfl
set_option maxRecDepth 100000 in
theorem laws_eqVolS.te (rec : List Item → St Ty D → R) (k : Nat) (a0 : List S69) (a1 : List S69) : laws_eqVolS.g rec k [.code (body Tryz.f24)] (startSt [.row 0 .t69 a0,.row 0 .t69 a1] []) =
 bif !decide ((a0.length : Int) = (a1.length : Int)) then some (laws_eqVolS.e (false)) else rec (td Tryz.f24 4) (laws_eqVolS.s4 a0 a1 0):=by kernel_rfl
set_option maxRecDepth 100000 in
theorem laws_eqVolS.ok : ∀ k : Nat,(∀ (x0 : List S69) (x1 : List S69) (x5 : Int),goF Tryz.f24 laws_eqVolS.ctx laws_eqVolS.sp 0 laws_eqVolS.en k (td Tryz.f24 4) (laws_eqVolS.s4 x0 x1 x5) = (laws_eqVolS.c4 k x0 x1 x5).map laws_eqVolS.e)
 | 0=>fun _ _ _=>rfl
 | k + 1=>by
  have ih:=laws_eqVolS.ok k;have i4:=ih;intro x0 x1 x5;rw [laws_eqVolS.c4];exact (laws_eqVolS.t4 _ k x0 x1 x5).trans (cd (cd (cd (cd (cd (bn (fun t1=>(nb rfl (i4 _ _ _)))) rfl) rfl) rfl) rfl) rfl)
set_option maxRecDepth 100000 in
theorem laws_eqVolS.oke (k : Nat) (a0 : List S69) (a1 : List S69) : goF Tryz.f24 laws_eqVolS.ctx laws_eqVolS.sp 0 laws_eqVolS.en (k + 1) [.code (body Tryz.f24)] (startSt [.row 0 .t69 a0,.row 0 .t69 a1] []) = (laws_eqVolS.f k a0 a1).map laws_eqVolS.e:=by
 have i4:=laws_eqVolS.ok k;rw [laws_eqVolS.f];exact (laws_eqVolS.te _ k a0 a1).trans (nd rfl (i4 _ _ _))
theorem laws_eqVolS.con (k : Nat) (a0 : List S69) (a1 : List S69) (r) (h : laws_eqVolS.f k a0 a1 = some r) : Contract Tryz.prog kit 24 [.row 0 .t69 a0,.row 0 .t69 a1] [] (laws_eqVolS.e r).1 (laws_eqVolS.e r).2.1 (laws_eqVolS.e r).2.2 :=
 con_okG kitOk mix (fun k=>(CtxOk.cons (laws_eqVol.xok k) CtxOk.nil)) (laws_eqVolS.oke k a0 a1) h (by kernel_rfl) (by kernel_rfl) (by kernel_rfl) rfl (by kernel_rfl) rfl rfl
noncomputable def laws_eqVolS.x (k : Nat) : X:=fun ins bs κ=>match ins,bs with
 | [.row 0 .t69 a0,.row 0 .t69 a1],[]=>(laws_eqVolS.f k a0 a1).bind fun r=>κ (laws_eqVolS.e r).1 (laws_eqVolS.e r).2.1 (laws_eqVolS.e r).2.2
 | _,_=>none
theorem laws_eqVolS.xok (k : Nat) : XOk 24 (laws_eqVolS.x k):=by
 intro ins bs κ res h;unfold laws_eqVolS.x at h
 split at h
 ·obtain ⟨r,hr,h⟩:=Option.bind_eq_some_iff.1 h;exact ⟨_,_,_,laws_eqVolS.con k _ _ r hr,h⟩
 cases h
noncomputable def laws_eqIntS.sp : Nat → Option (Spec Ty):=fun r=>bif Nat.beq r 4 then some ⟨[(0,.keep),(1,.keep),(5,.keep)],[]⟩ else none
noncomputable def laws_eqIntS.en : Option (Spec Ty):=none
noncomputable def laws_eqIntS.s4 (x0 : List Int) (x1 : List Int) (x5 : Int) : St Ty D:=⟨(Env.put (Env.put (Env.put E (some 0) (.row 0 .t3 x0)) (some 1) (.row 0 .t3 x1)) (some 5) (.sc (.int .i64 x5))),H0,1000⟩
noncomputable def laws_eqIntS.ctx (k : Nat) : Ctx Ty D:=(fun _ _ _ _=>none)
noncomputable def laws_eqIntS.c4 : Nat → (List Int) → (List Int) → Int → Option (Bool)
 | 0,_,_,_=>none
 | k + 1,x0,x1,x5=>(if x5 < (x0.length : Int) then (if 0 ≤ x5 then (if x5 < (x0.length : Int) then (if 0 ≤ x5 then (if x5 < (x1.length : Int) then (if (rd_T3 x0 x5) = (rd_T3 x1 x5) then (laws_eqIntS.c4 k x0 x1 (w64 (x5 + 1))) else (some (false))) else none) else none) else none) else none) else (some (true)))
noncomputable def laws_eqIntS.f (k : Nat) (a0 : List Int) (a1 : List Int) : Option (Bool):=(if (a0.length : Int) = (a1.length : Int) then (laws_eqIntS.c4 k a0 a1 0) else (some (false)))
noncomputable def laws_eqIntS.e (r : Bool) : Res Ty D:=(.sc (.bool r),[],[])
noncomputable abbrev laws_eqIntS.g (rec : List Item → St Ty D → R) (k : Nat):=go1 Tryz.f76 (laws_eqIntS.ctx k) laws_eqIntS.sp 0 laws_eqIntS.en rec
set_option maxRecDepth 100000 in
theorem laws_eqIntS.t4 (rec : List Item → St Ty D → R) (k : Nat) (x0 : List Int) (x1 : List Int) (x5 : Int) : laws_eqIntS.g rec k (td Tryz.f76 4) (laws_eqIntS.s4 x0 x1 x5) =
 bif decide (x5 < (x0.length : Int)) then bif decide (0 ≤ x5) then bif decide (x5 < (x0.length : Int)) then bif decide (0 ≤ x5) then bif decide (x5 < (x1.length : Int)) then bif !decide ((rd_T3 x0 x5) = (rd_T3 x1 x5)) then some (laws_eqIntS.e (false)) else rec (td Tryz.f76 4) (laws_eqIntS.s4 x0 x1 (w64 (x5 + 1))) else none else none else none else none else some (laws_eqIntS.e (true)):=by kernel_rfl
set_option maxRecDepth 100000 in
theorem laws_eqIntS.te (rec : List Item → St Ty D → R) (k : Nat) (a0 : List Int) (a1 : List Int) : laws_eqIntS.g rec k [.code (body Tryz.f76)] (startSt [.row 0 .t3 a0,.row 0 .t3 a1] []) =
 bif !decide ((a0.length : Int) = (a1.length : Int)) then some (laws_eqIntS.e (false)) else rec (td Tryz.f76 4) (laws_eqIntS.s4 a0 a1 0):=by kernel_rfl
set_option maxRecDepth 100000 in
theorem laws_eqIntS.ok : ∀ k : Nat,(∀ (x0 : List Int) (x1 : List Int) (x5 : Int),goF Tryz.f76 laws_eqIntS.ctx laws_eqIntS.sp 0 laws_eqIntS.en k (td Tryz.f76 4) (laws_eqIntS.s4 x0 x1 x5) = (laws_eqIntS.c4 k x0 x1 x5).map laws_eqIntS.e)
 | 0=>fun _ _ _=>rfl
 | k + 1=>by
  have ih:=laws_eqIntS.ok k;have i4:=ih;intro x0 x1 x5;rw [laws_eqIntS.c4];exact (laws_eqIntS.t4 _ k x0 x1 x5).trans (cd (cd (cd (cd (cd (nd rfl (i4 _ _ _)) rfl) rfl) rfl) rfl) rfl)
set_option maxRecDepth 100000 in
theorem laws_eqIntS.oke (k : Nat) (a0 : List Int) (a1 : List Int) : goF Tryz.f76 laws_eqIntS.ctx laws_eqIntS.sp 0 laws_eqIntS.en (k + 1) [.code (body Tryz.f76)] (startSt [.row 0 .t3 a0,.row 0 .t3 a1] []) = (laws_eqIntS.f k a0 a1).map laws_eqIntS.e:=by
 have i4:=laws_eqIntS.ok k;rw [laws_eqIntS.f];exact (laws_eqIntS.te _ k a0 a1).trans (nd rfl (i4 _ _ _))
theorem laws_eqIntS.con (k : Nat) (a0 : List Int) (a1 : List Int) (r) (h : laws_eqIntS.f k a0 a1 = some r) : Contract Tryz.prog kit 76 [.row 0 .t3 a0,.row 0 .t3 a1] [] (laws_eqIntS.e r).1 (laws_eqIntS.e r).2.1 (laws_eqIntS.e r).2.2 :=
 con_okG kitOk mix (fun k=>CtxOk.nil) (laws_eqIntS.oke k a0 a1) h (by kernel_rfl) (by kernel_rfl) (by kernel_rfl) rfl (by kernel_rfl) rfl rfl
noncomputable def laws_eqIntS.x (k : Nat) : X:=fun ins bs κ=>match ins,bs with
 | [.row 0 .t3 a0,.row 0 .t3 a1],[]=>(laws_eqIntS.f k a0 a1).bind fun r=>κ (laws_eqIntS.e r).1 (laws_eqIntS.e r).2.1 (laws_eqIntS.e r).2.2
 | _,_=>none
theorem laws_eqIntS.xok (k : Nat) : XOk 76 (laws_eqIntS.x k):=by
 intro ins bs κ res h;unfold laws_eqIntS.x at h
 split at h
 ·obtain ⟨r,hr,h⟩:=Option.bind_eq_some_iff.1 h;exact ⟨_,_,_,laws_eqIntS.con k _ _ r hr,h⟩
 cases h
noncomputable def laws_eqKnot.sp : Nat → Option (Spec Ty):=fun r=>none
noncomputable def laws_eqKnot.en : Option (Spec Ty):=none
noncomputable def laws_eqKnot.ctx (k : Nat) : Ctx Ty D:=(cons 76 (laws_eqIntS.x k) (fun _ _ _ _=>none))
noncomputable def laws_eqKnot.f (k : Nat) (a0_0 : Bool) (a0_1 : List Int) (a1_0 : Bool) (a1_1 : List Int) : Option (Bool):=(if (a0_0 == a1_0) = true then ((laws_eqIntS.f k a0_1 a1_1).bind fun t1=>(if t1 = true then (some (true)) else (some (false)))) else (some (false)))
noncomputable def laws_eqKnot.e (r : Bool) : Res Ty D:=(.sc (.bool r),[],[])
noncomputable abbrev laws_eqKnot.g (rec : List Item → St Ty D → R) (k : Nat):=go1 Tryz.f68 (laws_eqKnot.ctx k) laws_eqKnot.sp 0 laws_eqKnot.en rec
set_option maxRecDepth 100000 in
theorem laws_eqKnot.te (rec : List Item → St Ty D → R) (k : Nat) (a0_0 : Bool) (a0_1 : List Int) (a1_0 : Bool) (a1_1 : List Int) : laws_eqKnot.g rec k [.code (body Tryz.f68)] (startSt [.ag [.sc (.bool a0_0),.row 0 .t3 a0_1],.ag [.sc (.bool a1_0),.row 0 .t3 a1_1]] []) =
 bif !(a0_0 == a1_0) then some (laws_eqKnot.e (false)) else (laws_eqIntS.f k a0_1 a1_1).bind fun t1=>bif !t1 then some (laws_eqKnot.e (false)) else some (laws_eqKnot.e (true)):=by kernel_rfl
set_option maxRecDepth 100000 in
theorem laws_eqKnot.oke (k : Nat) (a0_0 : Bool) (a0_1 : List Int) (a1_0 : Bool) (a1_1 : List Int) : goF Tryz.f68 laws_eqKnot.ctx laws_eqKnot.sp 0 laws_eqKnot.en (k + 1) [.code (body Tryz.f68)] (startSt [.ag [.sc (.bool a0_0),.row 0 .t3 a0_1],.ag [.sc (.bool a1_0),.row 0 .t3 a1_1]] []) = (laws_eqKnot.f k a0_0 a0_1 a1_0 a1_1).map laws_eqKnot.e:=by
 rw [laws_eqKnot.f];exact (laws_eqKnot.te _ k a0_0 a0_1 a1_0 a1_1).trans (nb rfl (bn (fun t1=>(nb rfl rfl))))
theorem laws_eqKnot.con (k : Nat) (a0_0 : Bool) (a0_1 : List Int) (a1_0 : Bool) (a1_1 : List Int) (r) (h : laws_eqKnot.f k a0_0 a0_1 a1_0 a1_1 = some r) : Contract Tryz.prog kit 68 [.ag [.sc (.bool a0_0),.row 0 .t3 a0_1],.ag [.sc (.bool a1_0),.row 0 .t3 a1_1]] [] (laws_eqKnot.e r).1 (laws_eqKnot.e r).2.1 (laws_eqKnot.e r).2.2 :=
 con_okG kitOk mix (fun k=>(CtxOk.cons (laws_eqIntS.xok k) CtxOk.nil)) (laws_eqKnot.oke k a0_0 a0_1 a1_0 a1_1) h (by kernel_rfl) (by kernel_rfl) (by kernel_rfl) rfl (by kernel_rfl) rfl rfl
noncomputable def laws_eqKnot.x (k : Nat) : X:=fun ins bs κ=>match ins,bs with
 | [.ag [.sc (.bool a0_0),.row 0 .t3 a0_1],.ag [.sc (.bool a1_0),.row 0 .t3 a1_1]],[]=>(laws_eqKnot.f k a0_0 a0_1 a1_0 a1_1).bind fun r=>κ (laws_eqKnot.e r).1 (laws_eqKnot.e r).2.1 (laws_eqKnot.e r).2.2
 | _,_=>none
theorem laws_eqKnot.xok (k : Nat) : XOk 68 (laws_eqKnot.x k):=by
 intro ins bs κ res h;unfold laws_eqKnot.x at h
 split at h
 ·obtain ⟨r,hr,h⟩:=Option.bind_eq_some_iff.1 h;exact ⟨_,_,_,laws_eqKnot.con k _ _ _ _ r hr,h⟩
 cases h
noncomputable def laws_eqKnotS.sp : Nat → Option (Spec Ty):=fun r=>bif Nat.beq r 4 then some ⟨[(0,.keep),(1,.keep),(5,.keep)],[]⟩ else none
noncomputable def laws_eqKnotS.en : Option (Spec Ty):=none
noncomputable def laws_eqKnotS.s4 (x0 : List S80) (x1 : List S80) (x5 : Int) : St Ty D:=⟨(Env.put (Env.put (Env.put E (some 0) (.row 0 .t80 x0)) (some 1) (.row 0 .t80 x1)) (some 5) (.sc (.int .i64 x5))),H0,1000⟩
noncomputable def laws_eqKnotS.ctx (k : Nat) : Ctx Ty D:=(cons 68 (laws_eqKnot.x k) (fun _ _ _ _=>none))
noncomputable def laws_eqKnotS.c4 : Nat → (List S80) → (List S80) → Int → Option (Bool)
 | 0,_,_,_=>none
 | k + 1,x0,x1,x5=>(if x5 < (x0.length : Int) then (if 0 ≤ x5 then (if x5 < (x0.length : Int) then (if 0 ≤ x5 then (if x5 < (x1.length : Int) then ((laws_eqKnot.f k ((rd_T80 x0 x5).f0) ((rd_T80 x0 x5).f1) ((rd_T80 x1 x5).f0) ((rd_T80 x1 x5).f1)).bind fun t1=>(if t1 = true then (laws_eqKnotS.c4 k x0 x1 (w64 (x5 + 1))) else (some (false)))) else none) else none) else none) else none) else (some (true)))
noncomputable def laws_eqKnotS.f (k : Nat) (a0 : List S80) (a1 : List S80) : Option (Bool):=(if (a0.length : Int) = (a1.length : Int) then (laws_eqKnotS.c4 k a0 a1 0) else (some (false)))
noncomputable def laws_eqKnotS.e (r : Bool) : Res Ty D:=(.sc (.bool r),[],[])
noncomputable abbrev laws_eqKnotS.g (rec : List Item → St Ty D → R) (k : Nat):=go1 Tryz.f47 (laws_eqKnotS.ctx k) laws_eqKnotS.sp 0 laws_eqKnotS.en rec
set_option maxRecDepth 100000 in
theorem laws_eqKnotS.t4 (rec : List Item → St Ty D → R) (k : Nat) (x0 : List S80) (x1 : List S80) (x5 : Int) : laws_eqKnotS.g rec k (td Tryz.f47 4) (laws_eqKnotS.s4 x0 x1 x5) =
 bif decide (x5 < (x0.length : Int)) then bif decide (0 ≤ x5) then bif decide (x5 < (x0.length : Int)) then bif decide (0 ≤ x5) then bif decide (x5 < (x1.length : Int)) then (laws_eqKnot.f k ((rd_T80 x0 x5).f0) ((rd_T80 x0 x5).f1) ((rd_T80 x1 x5).f0) ((rd_T80 x1 x5).f1)).bind fun t1=>bif !t1 then some (laws_eqKnotS.e (false)) else rec (td Tryz.f47 4) (laws_eqKnotS.s4 x0 x1 (w64 (x5 + 1))) else none else none else none else none else some (laws_eqKnotS.e (true)):=by kernel_rfl
set_option maxRecDepth 100000 in
theorem laws_eqKnotS.te (rec : List Item → St Ty D → R) (k : Nat) (a0 : List S80) (a1 : List S80) : laws_eqKnotS.g rec k [.code (body Tryz.f47)] (startSt [.row 0 .t80 a0,.row 0 .t80 a1] []) =
 bif !decide ((a0.length : Int) = (a1.length : Int)) then some (laws_eqKnotS.e (false)) else rec (td Tryz.f47 4) (laws_eqKnotS.s4 a0 a1 0):=by kernel_rfl
set_option maxRecDepth 100000 in
theorem laws_eqKnotS.ok : ∀ k : Nat,(∀ (x0 : List S80) (x1 : List S80) (x5 : Int),goF Tryz.f47 laws_eqKnotS.ctx laws_eqKnotS.sp 0 laws_eqKnotS.en k (td Tryz.f47 4) (laws_eqKnotS.s4 x0 x1 x5) = (laws_eqKnotS.c4 k x0 x1 x5).map laws_eqKnotS.e)
 | 0=>fun _ _ _=>rfl
 | k + 1=>by
  have ih:=laws_eqKnotS.ok k;have i4:=ih;intro x0 x1 x5;rw [laws_eqKnotS.c4];exact (laws_eqKnotS.t4 _ k x0 x1 x5).trans (cd (cd (cd (cd (cd (bn (fun t1=>(nb rfl (i4 _ _ _)))) rfl) rfl) rfl) rfl) rfl)
set_option maxRecDepth 100000 in
theorem laws_eqKnotS.oke (k : Nat) (a0 : List S80) (a1 : List S80) : goF Tryz.f47 laws_eqKnotS.ctx laws_eqKnotS.sp 0 laws_eqKnotS.en (k + 1) [.code (body Tryz.f47)] (startSt [.row 0 .t80 a0,.row 0 .t80 a1] []) = (laws_eqKnotS.f k a0 a1).map laws_eqKnotS.e:=by
 have i4:=laws_eqKnotS.ok k;rw [laws_eqKnotS.f];exact (laws_eqKnotS.te _ k a0 a1).trans (nd rfl (i4 _ _ _))
theorem laws_eqKnotS.con (k : Nat) (a0 : List S80) (a1 : List S80) (r) (h : laws_eqKnotS.f k a0 a1 = some r) : Contract Tryz.prog kit 47 [.row 0 .t80 a0,.row 0 .t80 a1] [] (laws_eqKnotS.e r).1 (laws_eqKnotS.e r).2.1 (laws_eqKnotS.e r).2.2 :=
 con_okG kitOk mix (fun k=>(CtxOk.cons (laws_eqKnot.xok k) CtxOk.nil)) (laws_eqKnotS.oke k a0 a1) h (by kernel_rfl) (by kernel_rfl) (by kernel_rfl) rfl (by kernel_rfl) rfl rfl
noncomputable def laws_eqKnotS.x (k : Nat) : X:=fun ins bs κ=>match ins,bs with
 | [.row 0 .t80 a0,.row 0 .t80 a1],[]=>(laws_eqKnotS.f k a0 a1).bind fun r=>κ (laws_eqKnotS.e r).1 (laws_eqKnotS.e r).2.1 (laws_eqKnotS.e r).2.2
 | _,_=>none
theorem laws_eqKnotS.xok (k : Nat) : XOk 47 (laws_eqKnotS.x k):=by
 intro ins bs κ res h;unfold laws_eqKnotS.x at h
 split at h
 ·obtain ⟨r,hr,h⟩:=Option.bind_eq_some_iff.1 h;exact ⟨_,_,_,laws_eqKnotS.con k _ _ r hr,h⟩
 cases h
noncomputable def laws_eqArena.sp : Nat → Option (Spec Ty):=fun r=>none
noncomputable def laws_eqArena.en : Option (Spec Ty):=none
noncomputable def laws_eqArena.ctx (k : Nat) : Ctx Ty D:=(cons 47 (laws_eqKnotS.x k) (fun _ _ _ _=>none))
noncomputable def laws_eqArena.f (k : Nat) (a0_0 : List S80) (a1_0 : List S80) : Option (Bool):=((laws_eqKnotS.f k a0_0 a1_0).bind fun t1=>(if t1 = true then (some (true)) else (some (false))))
noncomputable def laws_eqArena.e (r : Bool) : Res Ty D:=(.sc (.bool r),[],[])
noncomputable abbrev laws_eqArena.g (rec : List Item → St Ty D → R) (k : Nat):=go1 Tryz.f25 (laws_eqArena.ctx k) laws_eqArena.sp 0 laws_eqArena.en rec
set_option maxRecDepth 100000 in
theorem laws_eqArena.te (rec : List Item → St Ty D → R) (k : Nat) (a0_0 : List S80) (a1_0 : List S80) : laws_eqArena.g rec k [.code (body Tryz.f25)] (startSt [.ag [.row 0 .t80 a0_0],.ag [.row 0 .t80 a1_0]] []) =
 (laws_eqKnotS.f k a0_0 a1_0).bind fun t1=>bif !t1 then some (laws_eqArena.e (false)) else some (laws_eqArena.e (true)):=by kernel_rfl
set_option maxRecDepth 100000 in
theorem laws_eqArena.oke (k : Nat) (a0_0 : List S80) (a1_0 : List S80) : goF Tryz.f25 laws_eqArena.ctx laws_eqArena.sp 0 laws_eqArena.en (k + 1) [.code (body Tryz.f25)] (startSt [.ag [.row 0 .t80 a0_0],.ag [.row 0 .t80 a1_0]] []) = (laws_eqArena.f k a0_0 a1_0).map laws_eqArena.e:=by
 rw [laws_eqArena.f];exact (laws_eqArena.te _ k a0_0 a1_0).trans (bn (fun t1=>(nb rfl rfl)))
theorem laws_eqArena.con (k : Nat) (a0_0 : List S80) (a1_0 : List S80) (r) (h : laws_eqArena.f k a0_0 a1_0 = some r) : Contract Tryz.prog kit 25 [.ag [.row 0 .t80 a0_0],.ag [.row 0 .t80 a1_0]] [] (laws_eqArena.e r).1 (laws_eqArena.e r).2.1 (laws_eqArena.e r).2.2 :=
 con_okG kitOk mix (fun k=>(CtxOk.cons (laws_eqKnotS.xok k) CtxOk.nil)) (laws_eqArena.oke k a0_0 a1_0) h (by kernel_rfl) (by kernel_rfl) (by kernel_rfl) rfl (by kernel_rfl) rfl rfl
noncomputable def laws_eqArena.x (k : Nat) : X:=fun ins bs κ=>match ins,bs with
 | [.ag [.row 0 .t80 a0_0],.ag [.row 0 .t80 a1_0]],[]=>(laws_eqArena.f k a0_0 a1_0).bind fun r=>κ (laws_eqArena.e r).1 (laws_eqArena.e r).2.1 (laws_eqArena.e r).2.2
 | _,_=>none
theorem laws_eqArena.xok (k : Nat) : XOk 25 (laws_eqArena.x k):=by
 intro ins bs κ res h;unfold laws_eqArena.x at h
 split at h
 ·obtain ⟨r,hr,h⟩:=Option.bind_eq_some_iff.1 h;exact ⟨_,_,_,laws_eqArena.con k _ _ r hr,h⟩
 cases h
noncomputable def laws_eqStore.sp : Nat → Option (Spec Ty):=fun r=>none
noncomputable def laws_eqStore.en : Option (Spec Ty):=none
noncomputable def laws_eqStore.ctx (k : Nat) : Ctx Ty D:=(cons 24 (laws_eqVolS.x k) (cons 25 (laws_eqArena.x k) (fun _ _ _ _=>none)))
noncomputable def laws_eqStore.f (k : Nat) (a0_0 : List S69) (a0_1 : List S80) (a0_2 : Int) (a1_0 : List S69) (a1_1 : List S80) (a1_2 : Int) : Option (Bool):=((laws_eqVolS.f k a0_0 a1_0).bind fun t1=>(if t1 = true then ((laws_eqArena.f k a0_1 a1_1).bind fun t2=>(if t2 = true then (if a0_2 = a1_2 then (some (true)) else (some (false))) else (some (false)))) else (some (false))))
noncomputable def laws_eqStore.e (r : Bool) : Res Ty D:=(.sc (.bool r),[],[])
noncomputable abbrev laws_eqStore.g (rec : List Item → St Ty D → R) (k : Nat):=go1 Tryz.f10 (laws_eqStore.ctx k) laws_eqStore.sp 0 laws_eqStore.en rec
set_option maxRecDepth 100000 in
theorem laws_eqStore.te (rec : List Item → St Ty D → R) (k : Nat) (a0_0 : List S69) (a0_1 : List S80) (a0_2 : Int) (a1_0 : List S69) (a1_1 : List S80) (a1_2 : Int) : laws_eqStore.g rec k [.code (body Tryz.f10)] (startSt [.ag [.row 0 .t69 a0_0,.row 0 .t80 a0_1,.sc (.int .i64 a0_2)],.ag [.row 0 .t69 a1_0,.row 0 .t80 a1_1,.sc (.int .i64 a1_2)]] []) =
 (laws_eqVolS.f k a0_0 a1_0).bind fun t1=>bif !t1 then some (laws_eqStore.e (false)) else (laws_eqArena.f k a0_1 a1_1).bind fun t2=>bif !t2 then some (laws_eqStore.e (false)) else bif !decide (a0_2 = a1_2) then some (laws_eqStore.e (false)) else some (laws_eqStore.e (true)):=by kernel_rfl
set_option maxRecDepth 100000 in
theorem laws_eqStore.oke (k : Nat) (a0_0 : List S69) (a0_1 : List S80) (a0_2 : Int) (a1_0 : List S69) (a1_1 : List S80) (a1_2 : Int) : goF Tryz.f10 laws_eqStore.ctx laws_eqStore.sp 0 laws_eqStore.en (k + 1) [.code (body Tryz.f10)] (startSt [.ag [.row 0 .t69 a0_0,.row 0 .t80 a0_1,.sc (.int .i64 a0_2)],.ag [.row 0 .t69 a1_0,.row 0 .t80 a1_1,.sc (.int .i64 a1_2)]] []) = (laws_eqStore.f k a0_0 a0_1 a0_2 a1_0 a1_1 a1_2).map laws_eqStore.e:=by
 rw [laws_eqStore.f];exact (laws_eqStore.te _ k a0_0 a0_1 a0_2 a1_0 a1_1 a1_2).trans (bn (fun t1=>(nb rfl (bn (fun t2=>(nb rfl (nd rfl rfl)))))))
theorem laws_eqStore.con (k : Nat) (a0_0 : List S69) (a0_1 : List S80) (a0_2 : Int) (a1_0 : List S69) (a1_1 : List S80) (a1_2 : Int) (r) (h : laws_eqStore.f k a0_0 a0_1 a0_2 a1_0 a1_1 a1_2 = some r) : Contract Tryz.prog kit 10 [.ag [.row 0 .t69 a0_0,.row 0 .t80 a0_1,.sc (.int .i64 a0_2)],.ag [.row 0 .t69 a1_0,.row 0 .t80 a1_1,.sc (.int .i64 a1_2)]] [] (laws_eqStore.e r).1 (laws_eqStore.e r).2.1 (laws_eqStore.e r).2.2 :=
 con_okG kitOk mix (fun k=>(CtxOk.cons (laws_eqVolS.xok k) (CtxOk.cons (laws_eqArena.xok k) CtxOk.nil))) (laws_eqStore.oke k a0_0 a0_1 a0_2 a1_0 a1_1 a1_2) h (by kernel_rfl) (by kernel_rfl) (by kernel_rfl) rfl (by kernel_rfl) rfl rfl
noncomputable def laws_eqStore.x (k : Nat) : X:=fun ins bs κ=>match ins,bs with
 | [.ag [.row 0 .t69 a0_0,.row 0 .t80 a0_1,.sc (.int .i64 a0_2)],.ag [.row 0 .t69 a1_0,.row 0 .t80 a1_1,.sc (.int .i64 a1_2)]],[]=>(laws_eqStore.f k a0_0 a0_1 a0_2 a1_0 a1_1 a1_2).bind fun r=>κ (laws_eqStore.e r).1 (laws_eqStore.e r).2.1 (laws_eqStore.e r).2.2
 | _,_=>none
theorem laws_eqStore.xok (k : Nat) : XOk 10 (laws_eqStore.x k):=by
 intro ins bs κ res h;unfold laws_eqStore.x at h
 split at h
 ·obtain ⟨r,hr,h⟩:=Option.bind_eq_some_iff.1 h;exact ⟨_,_,_,laws_eqStore.con k _ _ _ _ _ _ r hr,h⟩
 cases h
noncomputable def laws_eqRec.sp : Nat → Option (Spec Ty):=fun r=>none
noncomputable def laws_eqRec.en : Option (Spec Ty):=none
noncomputable def laws_eqRec.ctx (k : Nat) : Ctx Ty D:=(fun _ _ _ _=>none)
noncomputable def laws_eqRec.f (k : Nat) (a0_0 : Int) (a0_1 : Int) (a0_2 : Int) (a0_3 : Int) (a1_0 : Int) (a1_1 : Int) (a1_2 : Int) (a1_3 : Int) : Option (Bool):=(if a0_0 = a1_0 then (if a0_1 = a1_1 then (if a0_2 = a1_2 then (if a0_3 = a1_3 then (some (true)) else (some (false))) else (some (false))) else (some (false))) else (some (false)))
noncomputable def laws_eqRec.e (r : Bool) : Res Ty D:=(.sc (.bool r),[],[])
noncomputable abbrev laws_eqRec.g (rec : List Item → St Ty D → R) (k : Nat):=go1 Tryz.f26 (laws_eqRec.ctx k) laws_eqRec.sp 0 laws_eqRec.en rec
set_option maxRecDepth 100000 in
theorem laws_eqRec.te (rec : List Item → St Ty D → R) (k : Nat) (a0_0 : Int) (a0_1 : Int) (a0_2 : Int) (a0_3 : Int) (a1_0 : Int) (a1_1 : Int) (a1_2 : Int) (a1_3 : Int) : laws_eqRec.g rec k [.code (body Tryz.f26)] (startSt [.ag [.sc (.int .i64 a0_0),.sc (.int .i64 a0_1),.sc (.int .i64 a0_2),.sc (.int .i64 a0_3)],.ag [.sc (.int .i64 a1_0),.sc (.int .i64 a1_1),.sc (.int .i64 a1_2),.sc (.int .i64 a1_3)]] []) =
 bif !decide (a0_0 = a1_0) then some (laws_eqRec.e (false)) else bif !decide (a0_1 = a1_1) then some (laws_eqRec.e (false)) else bif !decide (a0_2 = a1_2) then some (laws_eqRec.e (false)) else bif !decide (a0_3 = a1_3) then some (laws_eqRec.e (false)) else some (laws_eqRec.e (true)):=by kernel_rfl
set_option maxRecDepth 100000 in
theorem laws_eqRec.oke (k : Nat) (a0_0 : Int) (a0_1 : Int) (a0_2 : Int) (a0_3 : Int) (a1_0 : Int) (a1_1 : Int) (a1_2 : Int) (a1_3 : Int) : goF Tryz.f26 laws_eqRec.ctx laws_eqRec.sp 0 laws_eqRec.en (k + 1) [.code (body Tryz.f26)] (startSt [.ag [.sc (.int .i64 a0_0),.sc (.int .i64 a0_1),.sc (.int .i64 a0_2),.sc (.int .i64 a0_3)],.ag [.sc (.int .i64 a1_0),.sc (.int .i64 a1_1),.sc (.int .i64 a1_2),.sc (.int .i64 a1_3)]] []) = (laws_eqRec.f k a0_0 a0_1 a0_2 a0_3 a1_0 a1_1 a1_2 a1_3).map laws_eqRec.e:=by
 rw [laws_eqRec.f];exact (laws_eqRec.te _ k a0_0 a0_1 a0_2 a0_3 a1_0 a1_1 a1_2 a1_3).trans (nd rfl (nd rfl (nd rfl (nd rfl rfl))))
theorem laws_eqRec.con (k : Nat) (a0_0 : Int) (a0_1 : Int) (a0_2 : Int) (a0_3 : Int) (a1_0 : Int) (a1_1 : Int) (a1_2 : Int) (a1_3 : Int) (r) (h : laws_eqRec.f k a0_0 a0_1 a0_2 a0_3 a1_0 a1_1 a1_2 a1_3 = some r) : Contract Tryz.prog kit 26 [.ag [.sc (.int .i64 a0_0),.sc (.int .i64 a0_1),.sc (.int .i64 a0_2),.sc (.int .i64 a0_3)],.ag [.sc (.int .i64 a1_0),.sc (.int .i64 a1_1),.sc (.int .i64 a1_2),.sc (.int .i64 a1_3)]] [] (laws_eqRec.e r).1 (laws_eqRec.e r).2.1 (laws_eqRec.e r).2.2 :=
 con_okG kitOk mix (fun k=>CtxOk.nil) (laws_eqRec.oke k a0_0 a0_1 a0_2 a0_3 a1_0 a1_1 a1_2 a1_3) h (by kernel_rfl) (by kernel_rfl) (by kernel_rfl) rfl (by kernel_rfl) rfl rfl
noncomputable def laws_eqRec.x (k : Nat) : X:=fun ins bs κ=>match ins,bs with
 | [.ag [.sc (.int .i64 a0_0),.sc (.int .i64 a0_1),.sc (.int .i64 a0_2),.sc (.int .i64 a0_3)],.ag [.sc (.int .i64 a1_0),.sc (.int .i64 a1_1),.sc (.int .i64 a1_2),.sc (.int .i64 a1_3)]],[]=>(laws_eqRec.f k a0_0 a0_1 a0_2 a0_3 a1_0 a1_1 a1_2 a1_3).bind fun r=>κ (laws_eqRec.e r).1 (laws_eqRec.e r).2.1 (laws_eqRec.e r).2.2
 | _,_=>none
theorem laws_eqRec.xok (k : Nat) : XOk 26 (laws_eqRec.x k):=by
 intro ins bs κ res h;unfold laws_eqRec.x at h
 split at h
 ·obtain ⟨r,hr,h⟩:=Option.bind_eq_some_iff.1 h;exact ⟨_,_,_,laws_eqRec.con k _ _ _ _ _ _ _ _ r hr,h⟩
 cases h
noncomputable def laws_eqRecS.sp : Nat → Option (Spec Ty):=fun r=>bif Nat.beq r 4 then some ⟨[(0,.keep),(1,.keep),(5,.keep)],[]⟩ else none
noncomputable def laws_eqRecS.en : Option (Spec Ty):=none
noncomputable def laws_eqRecS.s4 (x0 : List S52) (x1 : List S52) (x5 : Int) : St Ty D:=⟨(Env.put (Env.put (Env.put E (some 0) (.row 0 .t52 x0)) (some 1) (.row 0 .t52 x1)) (some 5) (.sc (.int .i64 x5))),H0,1000⟩
noncomputable def laws_eqRecS.ctx (k : Nat) : Ctx Ty D:=(cons 26 (laws_eqRec.x k) (fun _ _ _ _=>none))
noncomputable def laws_eqRecS.c4 : Nat → (List S52) → (List S52) → Int → Option (Bool)
 | 0,_,_,_=>none
 | k + 1,x0,x1,x5=>(if x5 < (x0.length : Int) then (if 0 ≤ x5 then (if x5 < (x0.length : Int) then (if 0 ≤ x5 then (if x5 < (x1.length : Int) then ((laws_eqRec.f k ((rd_T52 x0 x5).f0) ((rd_T52 x0 x5).f1) ((rd_T52 x0 x5).f2) ((rd_T52 x0 x5).f3) ((rd_T52 x1 x5).f0) ((rd_T52 x1 x5).f1) ((rd_T52 x1 x5).f2) ((rd_T52 x1 x5).f3)).bind fun t1=>(if t1 = true then (laws_eqRecS.c4 k x0 x1 (w64 (x5 + 1))) else (some (false)))) else none) else none) else none) else none) else (some (true)))
noncomputable def laws_eqRecS.f (k : Nat) (a0 : List S52) (a1 : List S52) : Option (Bool):=(if (a0.length : Int) = (a1.length : Int) then (laws_eqRecS.c4 k a0 a1 0) else (some (false)))
noncomputable def laws_eqRecS.e (r : Bool) : Res Ty D:=(.sc (.bool r),[],[])
noncomputable abbrev laws_eqRecS.g (rec : List Item → St Ty D → R) (k : Nat):=go1 Tryz.f11 (laws_eqRecS.ctx k) laws_eqRecS.sp 0 laws_eqRecS.en rec
set_option maxRecDepth 100000 in
theorem laws_eqRecS.t4 (rec : List Item → St Ty D → R) (k : Nat) (x0 : List S52) (x1 : List S52) (x5 : Int) : laws_eqRecS.g rec k (td Tryz.f11 4) (laws_eqRecS.s4 x0 x1 x5) =
 bif decide (x5 < (x0.length : Int)) then bif decide (0 ≤ x5) then bif decide (x5 < (x0.length : Int)) then bif decide (0 ≤ x5) then bif decide (x5 < (x1.length : Int)) then (laws_eqRec.f k ((rd_T52 x0 x5).f0) ((rd_T52 x0 x5).f1) ((rd_T52 x0 x5).f2) ((rd_T52 x0 x5).f3) ((rd_T52 x1 x5).f0) ((rd_T52 x1 x5).f1) ((rd_T52 x1 x5).f2) ((rd_T52 x1 x5).f3)).bind fun t1=>bif !t1 then some (laws_eqRecS.e (false)) else rec (td Tryz.f11 4) (laws_eqRecS.s4 x0 x1 (w64 (x5 + 1))) else none else none else none else none else some (laws_eqRecS.e (true)):=by kernel_rfl
set_option maxRecDepth 100000 in
theorem laws_eqRecS.te (rec : List Item → St Ty D → R) (k : Nat) (a0 : List S52) (a1 : List S52) : laws_eqRecS.g rec k [.code (body Tryz.f11)] (startSt [.row 0 .t52 a0,.row 0 .t52 a1] []) =
 bif !decide ((a0.length : Int) = (a1.length : Int)) then some (laws_eqRecS.e (false)) else rec (td Tryz.f11 4) (laws_eqRecS.s4 a0 a1 0):=by kernel_rfl
set_option maxRecDepth 100000 in
theorem laws_eqRecS.ok : ∀ k : Nat,(∀ (x0 : List S52) (x1 : List S52) (x5 : Int),goF Tryz.f11 laws_eqRecS.ctx laws_eqRecS.sp 0 laws_eqRecS.en k (td Tryz.f11 4) (laws_eqRecS.s4 x0 x1 x5) = (laws_eqRecS.c4 k x0 x1 x5).map laws_eqRecS.e)
 | 0=>fun _ _ _=>rfl
 | k + 1=>by
  have ih:=laws_eqRecS.ok k;have i4:=ih;intro x0 x1 x5;rw [laws_eqRecS.c4];exact (laws_eqRecS.t4 _ k x0 x1 x5).trans (cd (cd (cd (cd (cd (bn (fun t1=>(nb rfl (i4 _ _ _)))) rfl) rfl) rfl) rfl) rfl)
set_option maxRecDepth 100000 in
theorem laws_eqRecS.oke (k : Nat) (a0 : List S52) (a1 : List S52) : goF Tryz.f11 laws_eqRecS.ctx laws_eqRecS.sp 0 laws_eqRecS.en (k + 1) [.code (body Tryz.f11)] (startSt [.row 0 .t52 a0,.row 0 .t52 a1] []) = (laws_eqRecS.f k a0 a1).map laws_eqRecS.e:=by
 have i4:=laws_eqRecS.ok k;rw [laws_eqRecS.f];exact (laws_eqRecS.te _ k a0 a1).trans (nd rfl (i4 _ _ _))
theorem laws_eqRecS.con (k : Nat) (a0 : List S52) (a1 : List S52) (r) (h : laws_eqRecS.f k a0 a1 = some r) : Contract Tryz.prog kit 11 [.row 0 .t52 a0,.row 0 .t52 a1] [] (laws_eqRecS.e r).1 (laws_eqRecS.e r).2.1 (laws_eqRecS.e r).2.2 :=
 con_okG kitOk mix (fun k=>(CtxOk.cons (laws_eqRec.xok k) CtxOk.nil)) (laws_eqRecS.oke k a0 a1) h (by kernel_rfl) (by kernel_rfl) (by kernel_rfl) rfl (by kernel_rfl) rfl rfl
noncomputable def laws_eqRecS.x (k : Nat) : X:=fun ins bs κ=>match ins,bs with
 | [.row 0 .t52 a0,.row 0 .t52 a1],[]=>(laws_eqRecS.f k a0 a1).bind fun r=>κ (laws_eqRecS.e r).1 (laws_eqRecS.e r).2.1 (laws_eqRecS.e r).2.2
 | _,_=>none
theorem laws_eqRecS.xok (k : Nat) : XOk 11 (laws_eqRecS.x k):=by
 intro ins bs κ res h;unfold laws_eqRecS.x at h
 split at h
 ·obtain ⟨r,hr,h⟩:=Option.bind_eq_some_iff.1 h;exact ⟨_,_,_,laws_eqRecS.con k _ _ r hr,h⟩
 cases h
noncomputable def laws_markVolS.sp : Nat → Option (Spec Ty):=fun r=>bif Nat.beq r 2 then some ⟨[(0,.own .t69),(1,.keep),(5,.keep)],[(0,none)]⟩ else none
noncomputable def laws_markVolS.en : Option (Spec Ty):=none
noncomputable def laws_markVolS.s2 (x1 : Int) (x5 : Int) (h0 : List S69) : St Ty D:=⟨(Env.put (Env.put (Env.put E (some 0) (.sl 0 none)) (some 1) (.sc (.int .i64 x1))) (some 5) (.sc (.int .i64 x5))),Heap.put H0 [(0,some (.rowb .t69 h0 0))],1000⟩
noncomputable def laws_markVolS.ctx (k : Nat) : Ctx Ty D:=(fun _ _ _ _=>none)
noncomputable def laws_markVolS.c2 : Nat → Int → Int → (List S69) → Option (Int × (List S69))
 | 0,_,_,_=>none
 | k + 1,x1,x5,h0=>(if x5 < (h0.length : Int) then (if 0 ≤ x5 then (if x5 < (h0.length : Int) then (if 0 ≤ x5 then (if x5 < ((h0.set x5.toNat (S69.mk x1 ((rd_T69 h0 x5).f1))).length : Int) then (laws_markVolS.c2 k (w64 ((w64 (x1 + 1)) + 1)) (w64 (x5 + 1)) ((h0.set x5.toNat (S69.mk x1 ((rd_T69 h0 x5).f1))).set x5.toNat (S69.mk ((rd_T69 (h0.set x5.toNat (S69.mk x1 ((rd_T69 h0 x5).f1))) x5).f0) (w64 (x1 + 1))))) else none) else none) else none) else none) else (some (x1,h0)))
noncomputable def laws_markVolS.f (k : Nat) (a1 : Int) (a0 : List S69) : Option (Int × (List S69)):=(laws_markVolS.c2 k a1 0 a0)
noncomputable def laws_markVolS.e (r : Int × (List S69)) : Res Ty D:=(.sc (.int .i64 r.1),[some (.rowb .t69 r.2 0)],[])
noncomputable abbrev laws_markVolS.g (rec : List Item → St Ty D → R) (k : Nat):=go1 Tryz.f27 (laws_markVolS.ctx k) laws_markVolS.sp 1 laws_markVolS.en rec
set_option maxRecDepth 100000 in
theorem laws_markVolS.t2 (rec : List Item → St Ty D → R) (k : Nat) (x1 : Int) (x5 : Int) (h0 : List S69) : laws_markVolS.g rec k (td Tryz.f27 2) (laws_markVolS.s2 x1 x5 h0) =
 bif decide (x5 < (h0.length : Int)) then bif decide (0 ≤ x5) then bif decide (x5 < (h0.length : Int)) then bif decide (0 ≤ x5) then bif decide (x5 < ((h0.set x5.toNat (S69.mk x1 ((rd_T69 h0 x5).f1))).length : Int)) then rec (td Tryz.f27 2) (laws_markVolS.s2 (w64 ((w64 (x1 + 1)) + 1)) (w64 (x5 + 1)) ((h0.set x5.toNat (S69.mk x1 ((rd_T69 h0 x5).f1))).set x5.toNat (S69.mk ((rd_T69 (h0.set x5.toNat (S69.mk x1 ((rd_T69 h0 x5).f1))) x5).f0) (w64 (x1 + 1))))) else none else none else none else none else some (laws_markVolS.e (x1,h0)):=by kernel_rfl
set_option maxRecDepth 100000 in
theorem laws_markVolS.te (rec : List Item → St Ty D → R) (k : Nat) (a1 : Int) (a0 : List S69) : laws_markVolS.g rec k [.code (body Tryz.f27)] (startSt [.sl 0 none,.sc (.int .i64 a1)] [.rowb .t69 a0 0]) =
 rec (td Tryz.f27 2) (laws_markVolS.s2 a1 0 a0):=by kernel_rfl
set_option maxRecDepth 100000 in
theorem laws_markVolS.ok : ∀ k : Nat,(∀ (x1 : Int) (x5 : Int) (h0 : List S69),goF Tryz.f27 laws_markVolS.ctx laws_markVolS.sp 1 laws_markVolS.en k (td Tryz.f27 2) (laws_markVolS.s2 x1 x5 h0) = (laws_markVolS.c2 k x1 x5 h0).map laws_markVolS.e)
 | 0=>fun _ _ _=>rfl
 | k + 1=>by
  have ih:=laws_markVolS.ok k;have i2:=ih;intro x1 x5 h0;rw [laws_markVolS.c2];exact (laws_markVolS.t2 _ k x1 x5 h0).trans (cd (cd (cd (cd (cd (i2 _ _ _) rfl) rfl) rfl) rfl) rfl)
set_option maxRecDepth 100000 in
theorem laws_markVolS.oke (k : Nat) (a1 : Int) (a0 : List S69) : goF Tryz.f27 laws_markVolS.ctx laws_markVolS.sp 1 laws_markVolS.en (k + 1) [.code (body Tryz.f27)] (startSt [.sl 0 none,.sc (.int .i64 a1)] [.rowb .t69 a0 0]) = (laws_markVolS.f k a1 a0).map laws_markVolS.e:=by
 have i2:=laws_markVolS.ok k;rw [laws_markVolS.f];exact (laws_markVolS.te _ k a1 a0).trans (i2 _ _ _)
theorem laws_markVolS.con (k : Nat) (a1 : Int) (a0 : List S69) (r) (h : laws_markVolS.f k a1 a0 = some r) : Contract Tryz.prog kit 27 [.sl 0 none,.sc (.int .i64 a1)] [.rowb .t69 a0 0] (laws_markVolS.e r).1 (laws_markVolS.e r).2.1 (laws_markVolS.e r).2.2 :=
 con_okG kitOk mix (fun k=>CtxOk.nil) (laws_markVolS.oke k a1 a0) h (by kernel_rfl) (by kernel_rfl) (by kernel_rfl) rfl (by kernel_rfl) rfl rfl
noncomputable def laws_markVolS.x (k : Nat) : X:=fun ins bs κ=>match ins,bs with
 | [.sl 0 none,.sc (.int .i64 a1)],[.rowb .t69 a0 0]=>(laws_markVolS.f k a1 a0).bind fun r=>κ (laws_markVolS.e r).1 (laws_markVolS.e r).2.1 (laws_markVolS.e r).2.2
 | _,_=>none
theorem laws_markVolS.xok (k : Nat) : XOk 27 (laws_markVolS.x k):=by
 intro ins bs κ res h;unfold laws_markVolS.x at h
 split at h
 ·obtain ⟨r,hr,h⟩:=Option.bind_eq_some_iff.1 h;exact ⟨_,_,_,laws_markVolS.con k _ _ r hr,h⟩
 cases h
end Go.Proofs.YteideicglgpfiaaGreat.M2

namespace Go.Proofs.YteideicglgpfiaaGreat.M2
open Go Go.Proofs.YteideicglgpfiaaGreat.PK
set_option linter.unusedVariables false
set_option linter.unusedSimpArgs false
set_option maxHeartbeats 4000000
noncomputable def laws_markIntS.sp : Nat → Option (Spec Ty):=fun r=>bif Nat.beq r 2 then some ⟨[(0,.own .t3),(1,.keep),(5,.keep)],[(0,none)]⟩ else none
noncomputable def laws_markIntS.en : Option (Spec Ty):=none
noncomputable def laws_markIntS.s2 (x1 : Int) (x5 : Int) (h0 : List Int) : St Ty D:=⟨(Env.put (Env.put (Env.put E (some 0) (.sl 0 none)) (some 1) (.sc (.int .i64 x1))) (some 5) (.sc (.int .i64 x5))),Heap.put H0 [(0,some (.rowb .t3 h0 0))],1000⟩
noncomputable def laws_markIntS.ctx (k : Nat) : Ctx Ty D:=(fun _ _ _ _=>none)
noncomputable def laws_markIntS.c2 : Nat → Int → Int → (List Int) → Option (Int × (List Int))
 | 0,_,_,_=>none
 | k + 1,x1,x5,h0=>(if x5 < (h0.length : Int) then (if 0 ≤ x5 then (if x5 < (h0.length : Int) then (laws_markIntS.c2 k (w64 (x1 + 1)) (w64 (x5 + 1)) (h0.set x5.toNat x1)) else none) else none) else (some (x1,h0)))
noncomputable def laws_markIntS.f (k : Nat) (a1 : Int) (a0 : List Int) : Option (Int × (List Int)):=(laws_markIntS.c2 k a1 0 a0)
noncomputable def laws_markIntS.e (r : Int × (List Int)) : Res Ty D:=(.sc (.int .i64 r.1),[some (.rowb .t3 r.2 0)],[])
noncomputable abbrev laws_markIntS.g (rec : List Item → St Ty D → R) (k : Nat):=go1 Tryz.f69 (laws_markIntS.ctx k) laws_markIntS.sp 1 laws_markIntS.en rec
set_option maxRecDepth 100000 in
theorem laws_markIntS.t2 (rec : List Item → St Ty D → R) (k : Nat) (x1 : Int) (x5 : Int) (h0 : List Int) : laws_markIntS.g rec k (td Tryz.f69 2) (laws_markIntS.s2 x1 x5 h0) =
 bif decide (x5 < (h0.length : Int)) then bif decide (0 ≤ x5) then bif decide (x5 < (h0.length : Int)) then rec (td Tryz.f69 2) (laws_markIntS.s2 (w64 (x1 + 1)) (w64 (x5 + 1)) (h0.set x5.toNat x1)) else none else none else some (laws_markIntS.e (x1,h0)):=by kernel_rfl
set_option maxRecDepth 100000 in
theorem laws_markIntS.te (rec : List Item → St Ty D → R) (k : Nat) (a1 : Int) (a0 : List Int) : laws_markIntS.g rec k [.code (body Tryz.f69)] (startSt [.sl 0 none,.sc (.int .i64 a1)] [.rowb .t3 a0 0]) =
 rec (td Tryz.f69 2) (laws_markIntS.s2 a1 0 a0):=by kernel_rfl
set_option maxRecDepth 100000 in
theorem laws_markIntS.ok : ∀ k : Nat,(∀ (x1 : Int) (x5 : Int) (h0 : List Int),goF Tryz.f69 laws_markIntS.ctx laws_markIntS.sp 1 laws_markIntS.en k (td Tryz.f69 2) (laws_markIntS.s2 x1 x5 h0) = (laws_markIntS.c2 k x1 x5 h0).map laws_markIntS.e)
 | 0=>fun _ _ _=>rfl
 | k + 1=>by
  have ih:=laws_markIntS.ok k;have i2:=ih;intro x1 x5 h0;rw [laws_markIntS.c2];exact (laws_markIntS.t2 _ k x1 x5 h0).trans (cd (cd (cd (i2 _ _ _) rfl) rfl) rfl)
set_option maxRecDepth 100000 in
theorem laws_markIntS.oke (k : Nat) (a1 : Int) (a0 : List Int) : goF Tryz.f69 laws_markIntS.ctx laws_markIntS.sp 1 laws_markIntS.en (k + 1) [.code (body Tryz.f69)] (startSt [.sl 0 none,.sc (.int .i64 a1)] [.rowb .t3 a0 0]) = (laws_markIntS.f k a1 a0).map laws_markIntS.e:=by
 have i2:=laws_markIntS.ok k;rw [laws_markIntS.f];exact (laws_markIntS.te _ k a1 a0).trans (i2 _ _ _)
theorem laws_markIntS.con (k : Nat) (a1 : Int) (a0 : List Int) (r) (h : laws_markIntS.f k a1 a0 = some r) : Contract Tryz.prog kit 69 [.sl 0 none,.sc (.int .i64 a1)] [.rowb .t3 a0 0] (laws_markIntS.e r).1 (laws_markIntS.e r).2.1 (laws_markIntS.e r).2.2 :=
 con_okG kitOk mix (fun k=>CtxOk.nil) (laws_markIntS.oke k a1 a0) h (by kernel_rfl) (by kernel_rfl) (by kernel_rfl) rfl (by kernel_rfl) rfl rfl
noncomputable def laws_markIntS.x (k : Nat) : X:=fun ins bs κ=>match ins,bs with
 | [.sl 0 none,.sc (.int .i64 a1)],[.rowb .t3 a0 0]=>(laws_markIntS.f k a1 a0).bind fun r=>κ (laws_markIntS.e r).1 (laws_markIntS.e r).2.1 (laws_markIntS.e r).2.2
 | _,_=>none
theorem laws_markIntS.xok (k : Nat) : XOk 69 (laws_markIntS.x k):=by
 intro ins bs κ res h;unfold laws_markIntS.x at h
 split at h
 ·obtain ⟨r,hr,h⟩:=Option.bind_eq_some_iff.1 h;exact ⟨_,_,_,laws_markIntS.con k _ _ r hr,h⟩
 cases h
noncomputable def laws_markKnotS.sp : Nat → Option (Spec Ty):=fun r=>bif Nat.beq r 2 then some ⟨[(0,.own .t80),(1,.keep),(5,.keep)],[(0,none)]⟩ else none
noncomputable def laws_markKnotS.en : Option (Spec Ty):=none
noncomputable def laws_markKnotS.s2 (x1 : Int) (x5 : Int) (h0 : List S80) : St Ty D:=⟨(Env.put (Env.put (Env.put E (some 0) (.sl 0 none)) (some 1) (.sc (.int .i64 x1))) (some 5) (.sc (.int .i64 x5))),Heap.put H0 [(0,some (.rowb .t80 h0 0))],1000⟩
noncomputable def laws_markKnotS.ctx (k : Nat) : Ctx Ty D:=(cons 69 (laws_markIntS.x k) (fun _ _ _ _=>none))
noncomputable def laws_markKnotS.c2 : Nat → Int → Int → (List S80) → Option (Int × (List S80))
 | 0,_,_,_=>none
 | k + 1,x1,x5,h0=>(if x5 < (h0.length : Int) then (if 0 ≤ x5 then (if x5 < (h0.length : Int) then (if 0 ≤ x5 then (if x5 < ((h0.set x5.toNat (S80.mk (decide ((Int.tmod x1 3) = 0)) ((rd_T80 h0 x5).f1))).length : Int) then ((laws_markIntS.f k (w64 (x1 + 1)) ((rd_T80 (h0.set x5.toNat (S80.mk (decide ((Int.tmod x1 3) = 0)) ((rd_T80 h0 x5).f1))) x5).f1)).bind fun t1=>(laws_markKnotS.c2 k t1.1 (w64 (x5 + 1)) ((h0.set x5.toNat (S80.mk (decide ((Int.tmod x1 3) = 0)) ((rd_T80 h0 x5).f1))).set x5.toNat (S80.mk ((rd_T80 (h0.set x5.toNat (S80.mk (decide ((Int.tmod x1 3) = 0)) ((rd_T80 h0 x5).f1))) x5).f0) t1.2)))) else none) else none) else none) else none) else (some (x1,h0)))
noncomputable def laws_markKnotS.f (k : Nat) (a1 : Int) (a0 : List S80) : Option (Int × (List S80)):=(laws_markKnotS.c2 k a1 0 a0)
noncomputable def laws_markKnotS.e (r : Int × (List S80)) : Res Ty D:=(.sc (.int .i64 r.1),[some (.rowb .t80 r.2 0)],[])
noncomputable abbrev laws_markKnotS.g (rec : List Item → St Ty D → R) (k : Nat):=go1 Tryz.f48 (laws_markKnotS.ctx k) laws_markKnotS.sp 1 laws_markKnotS.en rec
set_option maxRecDepth 100000 in
theorem laws_markKnotS.t2 (rec : List Item → St Ty D → R) (k : Nat) (x1 : Int) (x5 : Int) (h0 : List S80) : laws_markKnotS.g rec k (td Tryz.f48 2) (laws_markKnotS.s2 x1 x5 h0) =
 bif decide (x5 < (h0.length : Int)) then bif decide (0 ≤ x5) then bif decide (x5 < (h0.length : Int)) then bif decide (0 ≤ x5) then bif decide (x5 < ((h0.set x5.toNat (S80.mk (decide ((Int.tmod x1 3) = 0)) ((rd_T80 h0 x5).f1))).length : Int)) then (laws_markIntS.f k (w64 (x1 + 1)) ((rd_T80 (h0.set x5.toNat (S80.mk (decide ((Int.tmod x1 3) = 0)) ((rd_T80 h0 x5).f1))) x5).f1)).bind fun t1=>rec (td Tryz.f48 2) (laws_markKnotS.s2 t1.1 (w64 (x5 + 1)) ((h0.set x5.toNat (S80.mk (decide ((Int.tmod x1 3) = 0)) ((rd_T80 h0 x5).f1))).set x5.toNat (S80.mk ((rd_T80 (h0.set x5.toNat (S80.mk (decide ((Int.tmod x1 3) = 0)) ((rd_T80 h0 x5).f1))) x5).f0) t1.2))) else none else none else none else none else some (laws_markKnotS.e (x1,h0)):=by kernel_rfl
set_option maxRecDepth 100000 in
theorem laws_markKnotS.te (rec : List Item → St Ty D → R) (k : Nat) (a1 : Int) (a0 : List S80) : laws_markKnotS.g rec k [.code (body Tryz.f48)] (startSt [.sl 0 none,.sc (.int .i64 a1)] [.rowb .t80 a0 0]) =
 rec (td Tryz.f48 2) (laws_markKnotS.s2 a1 0 a0):=by kernel_rfl
set_option maxRecDepth 100000 in
theorem laws_markKnotS.ok : ∀ k : Nat,(∀ (x1 : Int) (x5 : Int) (h0 : List S80),goF Tryz.f48 laws_markKnotS.ctx laws_markKnotS.sp 1 laws_markKnotS.en k (td Tryz.f48 2) (laws_markKnotS.s2 x1 x5 h0) = (laws_markKnotS.c2 k x1 x5 h0).map laws_markKnotS.e)
 | 0=>fun _ _ _=>rfl
 | k + 1=>by
  have ih:=laws_markKnotS.ok k;have i2:=ih;intro x1 x5 h0;rw [laws_markKnotS.c2];exact (laws_markKnotS.t2 _ k x1 x5 h0).trans (cd (cd (cd (cd (cd (bn (fun t1=>(i2 _ _ _))) rfl) rfl) rfl) rfl) rfl)
set_option maxRecDepth 100000 in
theorem laws_markKnotS.oke (k : Nat) (a1 : Int) (a0 : List S80) : goF Tryz.f48 laws_markKnotS.ctx laws_markKnotS.sp 1 laws_markKnotS.en (k + 1) [.code (body Tryz.f48)] (startSt [.sl 0 none,.sc (.int .i64 a1)] [.rowb .t80 a0 0]) = (laws_markKnotS.f k a1 a0).map laws_markKnotS.e:=by
 have i2:=laws_markKnotS.ok k;rw [laws_markKnotS.f];exact (laws_markKnotS.te _ k a1 a0).trans (i2 _ _ _)
theorem laws_markKnotS.con (k : Nat) (a1 : Int) (a0 : List S80) (r) (h : laws_markKnotS.f k a1 a0 = some r) : Contract Tryz.prog kit 48 [.sl 0 none,.sc (.int .i64 a1)] [.rowb .t80 a0 0] (laws_markKnotS.e r).1 (laws_markKnotS.e r).2.1 (laws_markKnotS.e r).2.2 :=
 con_okG kitOk mix (fun k=>(CtxOk.cons (laws_markIntS.xok k) CtxOk.nil)) (laws_markKnotS.oke k a1 a0) h (by kernel_rfl) (by kernel_rfl) (by kernel_rfl) rfl (by kernel_rfl) rfl rfl
noncomputable def laws_markKnotS.x (k : Nat) : X:=fun ins bs κ=>match ins,bs with
 | [.sl 0 none,.sc (.int .i64 a1)],[.rowb .t80 a0 0]=>(laws_markKnotS.f k a1 a0).bind fun r=>κ (laws_markKnotS.e r).1 (laws_markKnotS.e r).2.1 (laws_markKnotS.e r).2.2
 | _,_=>none
theorem laws_markKnotS.xok (k : Nat) : XOk 48 (laws_markKnotS.x k):=by
 intro ins bs κ res h;unfold laws_markKnotS.x at h
 split at h
 ·obtain ⟨r,hr,h⟩:=Option.bind_eq_some_iff.1 h;exact ⟨_,_,_,laws_markKnotS.con k _ _ r hr,h⟩
 cases h
noncomputable def laws_markArena.sp : Nat → Option (Spec Ty):=fun r=>none
noncomputable def laws_markArena.en : Option (Spec Ty):=none
noncomputable def laws_markArena.ctx (k : Nat) : Ctx Ty D:=(cons 48 (laws_markKnotS.x k) (fun _ _ _ _=>none))
noncomputable def laws_markArena.f (k : Nat) (a1 : Int) (a0_0 : List S80) : Option (Int × (List S80)):=((laws_markKnotS.f k a1 a0_0).bind fun t1=>(some (t1.1,t1.2)))
noncomputable def laws_markArena.e (r : Int × (List S80)) : Res Ty D:=(.sc (.int .i64 r.1),[some (.rowb .t80 r.2 1)],[])
noncomputable abbrev laws_markArena.g (rec : List Item → St Ty D → R) (k : Nat):=go1 Tryz.f28 (laws_markArena.ctx k) laws_markArena.sp 1 laws_markArena.en rec
set_option maxRecDepth 100000 in
theorem laws_markArena.te (rec : List Item → St Ty D → R) (k : Nat) (a1 : Int) (a0_0 : List S80) : laws_markArena.g rec k [.code (body Tryz.f28)] (startSt [.ag [.sl 0 none],.sc (.int .i64 a1)] [.rowb .t80 a0_0 0]) =
 (laws_markKnotS.f k a1 a0_0).bind fun t1=>some (laws_markArena.e (t1.1,t1.2)):=by kernel_rfl
set_option maxRecDepth 100000 in
theorem laws_markArena.oke (k : Nat) (a1 : Int) (a0_0 : List S80) : goF Tryz.f28 laws_markArena.ctx laws_markArena.sp 1 laws_markArena.en (k + 1) [.code (body Tryz.f28)] (startSt [.ag [.sl 0 none],.sc (.int .i64 a1)] [.rowb .t80 a0_0 0]) = (laws_markArena.f k a1 a0_0).map laws_markArena.e:=by
 rw [laws_markArena.f];exact (laws_markArena.te _ k a1 a0_0).trans (bn (fun t1=>rfl))
theorem laws_markArena.con (k : Nat) (a1 : Int) (a0_0 : List S80) (r) (h : laws_markArena.f k a1 a0_0 = some r) : Contract Tryz.prog kit 28 [.ag [.sl 0 none],.sc (.int .i64 a1)] [.rowb .t80 a0_0 0] (laws_markArena.e r).1 (laws_markArena.e r).2.1 (laws_markArena.e r).2.2 :=
 con_okG kitOk mix (fun k=>(CtxOk.cons (laws_markKnotS.xok k) CtxOk.nil)) (laws_markArena.oke k a1 a0_0) h (by kernel_rfl) (by kernel_rfl) (by kernel_rfl) rfl (by kernel_rfl) rfl rfl
noncomputable def laws_markArena.x (k : Nat) : X:=fun ins bs κ=>match ins,bs with
 | [.ag [.sl 0 none],.sc (.int .i64 a1)],[.rowb .t80 a0_0 0]=>(laws_markArena.f k a1 a0_0).bind fun r=>κ (laws_markArena.e r).1 (laws_markArena.e r).2.1 (laws_markArena.e r).2.2
 | _,_=>none
theorem laws_markArena.xok (k : Nat) : XOk 28 (laws_markArena.x k):=by
 intro ins bs κ res h;unfold laws_markArena.x at h
 split at h
 ·obtain ⟨r,hr,h⟩:=Option.bind_eq_some_iff.1 h;exact ⟨_,_,_,laws_markArena.con k _ _ r hr,h⟩
 cases h
noncomputable def laws_markStore.sp : Nat → Option (Spec Ty):=fun r=>none
noncomputable def laws_markStore.en : Option (Spec Ty):=none
noncomputable def laws_markStore.ctx (k : Nat) : Ctx Ty D:=(cons 27 (laws_markVolS.x k) (cons 28 (laws_markArena.x k) (fun _ _ _ _=>none)))
noncomputable def laws_markStore.f (k : Nat) (a0_2 : Int) (a1 : Int) (a0_0 : List S69) (a0_1 : List S80) : Option (Int × (List S69) × (List S80)):=((laws_markVolS.f k a1 a0_0).bind fun t1=>((laws_markArena.f k t1.1 a0_1).bind fun t2=>(some (t2.1,t1.2,t2.2))))
noncomputable def laws_markStore.e (r : Int × (List S69) × (List S80)) : Res Ty D:=(.sc (.int .i64 r.1),[some (.rowb .t69 r.2.1 1),some (.rowb .t80 r.2.2 1)],[])
noncomputable abbrev laws_markStore.g (rec : List Item → St Ty D → R) (k : Nat):=go1 Tryz.f12 (laws_markStore.ctx k) laws_markStore.sp 2 laws_markStore.en rec
set_option maxRecDepth 100000 in
theorem laws_markStore.te (rec : List Item → St Ty D → R) (k : Nat) (a0_2 : Int) (a1 : Int) (a0_0 : List S69) (a0_1 : List S80) : laws_markStore.g rec k [.code (body Tryz.f12)] (startSt [.ag [.sl 0 none,.sl 1 none,.sc (.int .i64 a0_2)],.sc (.int .i64 a1)] [.rowb .t69 a0_0 0,.rowb .t80 a0_1 0]) =
 (laws_markVolS.f k a1 a0_0).bind fun t1=>(laws_markArena.f k t1.1 a0_1).bind fun t2=>some (laws_markStore.e (t2.1,t1.2,t2.2)):=by kernel_rfl
set_option maxRecDepth 100000 in
theorem laws_markStore.oke (k : Nat) (a0_2 : Int) (a1 : Int) (a0_0 : List S69) (a0_1 : List S80) : goF Tryz.f12 laws_markStore.ctx laws_markStore.sp 2 laws_markStore.en (k + 1) [.code (body Tryz.f12)] (startSt [.ag [.sl 0 none,.sl 1 none,.sc (.int .i64 a0_2)],.sc (.int .i64 a1)] [.rowb .t69 a0_0 0,.rowb .t80 a0_1 0]) = (laws_markStore.f k a0_2 a1 a0_0 a0_1).map laws_markStore.e:=by
 rw [laws_markStore.f];exact (laws_markStore.te _ k a0_2 a1 a0_0 a0_1).trans (bn (fun t1=>(bn (fun t2=>rfl))))
theorem laws_markStore.con (k : Nat) (a0_2 : Int) (a1 : Int) (a0_0 : List S69) (a0_1 : List S80) (r) (h : laws_markStore.f k a0_2 a1 a0_0 a0_1 = some r) : Contract Tryz.prog kit 12 [.ag [.sl 0 none,.sl 1 none,.sc (.int .i64 a0_2)],.sc (.int .i64 a1)] [.rowb .t69 a0_0 0,.rowb .t80 a0_1 0] (laws_markStore.e r).1 (laws_markStore.e r).2.1 (laws_markStore.e r).2.2 :=
 con_okG kitOk mix (fun k=>(CtxOk.cons (laws_markVolS.xok k) (CtxOk.cons (laws_markArena.xok k) CtxOk.nil))) (laws_markStore.oke k a0_2 a1 a0_0 a0_1) h (by kernel_rfl) (by kernel_rfl) (by kernel_rfl) rfl (by kernel_rfl) rfl rfl
noncomputable def laws_markStore.x (k : Nat) : X:=fun ins bs κ=>match ins,bs with
 | [.ag [.sl 0 none,.sl 1 none,.sc (.int .i64 a0_2)],.sc (.int .i64 a1)],[.rowb .t69 a0_0 0,.rowb .t80 a0_1 0]=>(laws_markStore.f k a0_2 a1 a0_0 a0_1).bind fun r=>κ (laws_markStore.e r).1 (laws_markStore.e r).2.1 (laws_markStore.e r).2.2
 | _,_=>none
theorem laws_markStore.xok (k : Nat) : XOk 12 (laws_markStore.x k):=by
 intro ins bs κ res h;unfold laws_markStore.x at h
 split at h
 ·obtain ⟨r,hr,h⟩:=Option.bind_eq_some_iff.1 h;exact ⟨_,_,_,laws_markStore.con k _ _ _ _ r hr,h⟩
 cases h
noncomputable def laws_markRecS.sp : Nat → Option (Spec Ty):=fun r=>bif Nat.beq r 2 then some ⟨[(0,.own .t52),(1,.keep),(5,.keep)],[(0,none)]⟩ else none
noncomputable def laws_markRecS.en : Option (Spec Ty):=none
noncomputable def laws_markRecS.s2 (x1 : Int) (x5 : Int) (h0 : List S52) : St Ty D:=⟨(Env.put (Env.put (Env.put E (some 0) (.sl 0 none)) (some 1) (.sc (.int .i64 x1))) (some 5) (.sc (.int .i64 x5))),Heap.put H0 [(0,some (.rowb .t52 h0 0))],1000⟩
noncomputable def laws_markRecS.ctx (k : Nat) : Ctx Ty D:=(fun _ _ _ _=>none)
noncomputable def laws_markRecS.c2 : Nat → Int → Int → (List S52) → Option (Int × (List S52))
 | 0,_,_,_=>none
 | k + 1,x1,x5,h0=>(if x5 < (h0.length : Int) then (if 0 ≤ x5 then (if x5 < (h0.length : Int) then (if 0 ≤ x5 then (if x5 < ((h0.set x5.toNat (S52.mk x1 ((rd_T52 h0 x5).f1) ((rd_T52 h0 x5).f2) ((rd_T52 h0 x5).f3))).length : Int) then (if 0 ≤ x5 then (if x5 < (((h0.set x5.toNat (S52.mk x1 ((rd_T52 h0 x5).f1) ((rd_T52 h0 x5).f2) ((rd_T52 h0 x5).f3))).set x5.toNat (S52.mk ((rd_T52 (h0.set x5.toNat (S52.mk x1 ((rd_T52 h0 x5).f1) ((rd_T52 h0 x5).f2) ((rd_T52 h0 x5).f3))) x5).f0) (w64 (x1 + 1)) ((rd_T52 (h0.set x5.toNat (S52.mk x1 ((rd_T52 h0 x5).f1) ((rd_T52 h0 x5).f2) ((rd_T52 h0 x5).f3))) x5).f2) ((rd_T52 (h0.set x5.toNat (S52.mk x1 ((rd_T52 h0 x5).f1) ((rd_T52 h0 x5).f2) ((rd_T52 h0 x5).f3))) x5).f3))).length : Int) then (if 0 ≤ x5 then (if x5 < ((((h0.set x5.toNat (S52.mk x1 ((rd_T52 h0 x5).f1) ((rd_T52 h0 x5).f2) ((rd_T52 h0 x5).f3))).set x5.toNat (S52.mk ((rd_T52 (h0.set x5.toNat (S52.mk x1 ((rd_T52 h0 x5).f1) ((rd_T52 h0 x5).f2) ((rd_T52 h0 x5).f3))) x5).f0) (w64 (x1 + 1)) ((rd_T52 (h0.set x5.toNat (S52.mk x1 ((rd_T52 h0 x5).f1) ((rd_T52 h0 x5).f2) ((rd_T52 h0 x5).f3))) x5).f2) ((rd_T52 (h0.set x5.toNat (S52.mk x1 ((rd_T52 h0 x5).f1) ((rd_T52 h0 x5).f2) ((rd_T52 h0 x5).f3))) x5).f3))).set x5.toNat (S52.mk ((rd_T52 ((h0.set x5.toNat (S52.mk x1 ((rd_T52 h0 x5).f1) ((rd_T52 h0 x5).f2) ((rd_T52 h0 x5).f3))).set x5.toNat (S52.mk ((rd_T52 (h0.set x5.toNat (S52.mk x1 ((rd_T52 h0 x5).f1) ((rd_T52 h0 x5).f2) ((rd_T52 h0 x5).f3))) x5).f0) (w64 (x1 + 1)) ((rd_T52 (h0.set x5.toNat (S52.mk x1 ((rd_T52 h0 x5).f1) ((rd_T52 h0 x5).f2) ((rd_T52 h0 x5).f3))) x5).f2) ((rd_T52 (h0.set x5.toNat (S52.mk x1 ((rd_T52 h0 x5).f1) ((rd_T52 h0 x5).f2) ((rd_T52 h0 x5).f3))) x5).f3))) x5).f0) ((rd_T52 ((h0.set x5.toNat (S52.mk x1 ((rd_T52 h0 x5).f1) ((rd_T52 h0 x5).f2) ((rd_T52 h0 x5).f3))).set x5.toNat (S52.mk ((rd_T52 (h0.set x5.toNat (S52.mk x1 ((rd_T52 h0 x5).f1) ((rd_T52 h0 x5).f2) ((rd_T52 h0 x5).f3))) x5).f0) (w64 (x1 + 1)) ((rd_T52 (h0.set x5.toNat (S52.mk x1 ((rd_T52 h0 x5).f1) ((rd_T52 h0 x5).f2) ((rd_T52 h0 x5).f3))) x5).f2) ((rd_T52 (h0.set x5.toNat (S52.mk x1 ((rd_T52 h0 x5).f1) ((rd_T52 h0 x5).f2) ((rd_T52 h0 x5).f3))) x5).f3))) x5).f1) (w64 ((w64 (x1 + 1)) + 1)) ((rd_T52 ((h0.set x5.toNat (S52.mk x1 ((rd_T52 h0 x5).f1) ((rd_T52 h0 x5).f2) ((rd_T52 h0 x5).f3))).set x5.toNat (S52.mk ((rd_T52 (h0.set x5.toNat (S52.mk x1 ((rd_T52 h0 x5).f1) ((rd_T52 h0 x5).f2) ((rd_T52 h0 x5).f3))) x5).f0) (w64 (x1 + 1)) ((rd_T52 (h0.set x5.toNat (S52.mk x1 ((rd_T52 h0 x5).f1) ((rd_T52 h0 x5).f2) ((rd_T52 h0 x5).f3))) x5).f2) ((rd_T52 (h0.set x5.toNat (S52.mk x1 ((rd_T52 h0 x5).f1) ((rd_T52 h0 x5).f2) ((rd_T52 h0 x5).f3))) x5).f3))) x5).f3))).length : Int) then (laws_markRecS.c2 k (w64 ((w64 ((w64 ((w64 (x1 + 1)) + 1)) + 1)) + 1)) (w64 (x5 + 1)) ((((h0.set x5.toNat (S52.mk x1 ((rd_T52 h0 x5).f1) ((rd_T52 h0 x5).f2) ((rd_T52 h0 x5).f3))).set x5.toNat (S52.mk ((rd_T52 (h0.set x5.toNat (S52.mk x1 ((rd_T52 h0 x5).f1) ((rd_T52 h0 x5).f2) ((rd_T52 h0 x5).f3))) x5).f0) (w64 (x1 + 1)) ((rd_T52 (h0.set x5.toNat (S52.mk x1 ((rd_T52 h0 x5).f1) ((rd_T52 h0 x5).f2) ((rd_T52 h0 x5).f3))) x5).f2) ((rd_T52 (h0.set x5.toNat (S52.mk x1 ((rd_T52 h0 x5).f1) ((rd_T52 h0 x5).f2) ((rd_T52 h0 x5).f3))) x5).f3))).set x5.toNat (S52.mk ((rd_T52 ((h0.set x5.toNat (S52.mk x1 ((rd_T52 h0 x5).f1) ((rd_T52 h0 x5).f2) ((rd_T52 h0 x5).f3))).set x5.toNat (S52.mk ((rd_T52 (h0.set x5.toNat (S52.mk x1 ((rd_T52 h0 x5).f1) ((rd_T52 h0 x5).f2) ((rd_T52 h0 x5).f3))) x5).f0) (w64 (x1 + 1)) ((rd_T52 (h0.set x5.toNat (S52.mk x1 ((rd_T52 h0 x5).f1) ((rd_T52 h0 x5).f2) ((rd_T52 h0 x5).f3))) x5).f2) ((rd_T52 (h0.set x5.toNat (S52.mk x1 ((rd_T52 h0 x5).f1) ((rd_T52 h0 x5).f2) ((rd_T52 h0 x5).f3))) x5).f3))) x5).f0) ((rd_T52 ((h0.set x5.toNat (S52.mk x1 ((rd_T52 h0 x5).f1) ((rd_T52 h0 x5).f2) ((rd_T52 h0 x5).f3))).set x5.toNat (S52.mk ((rd_T52 (h0.set x5.toNat (S52.mk x1 ((rd_T52 h0 x5).f1) ((rd_T52 h0 x5).f2) ((rd_T52 h0 x5).f3))) x5).f0) (w64 (x1 + 1)) ((rd_T52 (h0.set x5.toNat (S52.mk x1 ((rd_T52 h0 x5).f1) ((rd_T52 h0 x5).f2) ((rd_T52 h0 x5).f3))) x5).f2) ((rd_T52 (h0.set x5.toNat (S52.mk x1 ((rd_T52 h0 x5).f1) ((rd_T52 h0 x5).f2) ((rd_T52 h0 x5).f3))) x5).f3))) x5).f1) (w64 ((w64 (x1 + 1)) + 1)) ((rd_T52 ((h0.set x5.toNat (S52.mk x1 ((rd_T52 h0 x5).f1) ((rd_T52 h0 x5).f2) ((rd_T52 h0 x5).f3))).set x5.toNat (S52.mk ((rd_T52 (h0.set x5.toNat (S52.mk x1 ((rd_T52 h0 x5).f1) ((rd_T52 h0 x5).f2) ((rd_T52 h0 x5).f3))) x5).f0) (w64 (x1 + 1)) ((rd_T52 (h0.set x5.toNat (S52.mk x1 ((rd_T52 h0 x5).f1) ((rd_T52 h0 x5).f2) ((rd_T52 h0 x5).f3))) x5).f2) ((rd_T52 (h0.set x5.toNat (S52.mk x1 ((rd_T52 h0 x5).f1) ((rd_T52 h0 x5).f2) ((rd_T52 h0 x5).f3))) x5).f3))) x5).f3))).set x5.toNat (S52.mk ((rd_T52 (((h0.set x5.toNat (S52.mk x1 ((rd_T52 h0 x5).f1) ((rd_T52 h0 x5).f2) ((rd_T52 h0 x5).f3))).set x5.toNat (S52.mk ((rd_T52 (h0.set x5.toNat (S52.mk x1 ((rd_T52 h0 x5).f1) ((rd_T52 h0 x5).f2) ((rd_T52 h0 x5).f3))) x5).f0) (w64 (x1 + 1)) ((rd_T52 (h0.set x5.toNat (S52.mk x1 ((rd_T52 h0 x5).f1) ((rd_T52 h0 x5).f2) ((rd_T52 h0 x5).f3))) x5).f2) ((rd_T52 (h0.set x5.toNat (S52.mk x1 ((rd_T52 h0 x5).f1) ((rd_T52 h0 x5).f2) ((rd_T52 h0 x5).f3))) x5).f3))).set x5.toNat (S52.mk ((rd_T52 ((h0.set x5.toNat (S52.mk x1 ((rd_T52 h0 x5).f1) ((rd_T52 h0 x5).f2) ((rd_T52 h0 x5).f3))).set x5.toNat (S52.mk ((rd_T52 (h0.set x5.toNat (S52.mk x1 ((rd_T52 h0 x5).f1) ((rd_T52 h0 x5).f2) ((rd_T52 h0 x5).f3))) x5).f0) (w64 (x1 + 1)) ((rd_T52 (h0.set x5.toNat (S52.mk x1 ((rd_T52 h0 x5).f1) ((rd_T52 h0 x5).f2) ((rd_T52 h0 x5).f3))) x5).f2) ((rd_T52 (h0.set x5.toNat (S52.mk x1 ((rd_T52 h0 x5).f1) ((rd_T52 h0 x5).f2) ((rd_T52 h0 x5).f3))) x5).f3))) x5).f0) ((rd_T52 ((h0.set x5.toNat (S52.mk x1 ((rd_T52 h0 x5).f1) ((rd_T52 h0 x5).f2) ((rd_T52 h0 x5).f3))).set x5.toNat (S52.mk ((rd_T52 (h0.set x5.toNat (S52.mk x1 ((rd_T52 h0 x5).f1) ((rd_T52 h0 x5).f2) ((rd_T52 h0 x5).f3))) x5).f0) (w64 (x1 + 1)) ((rd_T52 (h0.set x5.toNat (S52.mk x1 ((rd_T52 h0 x5).f1) ((rd_T52 h0 x5).f2) ((rd_T52 h0 x5).f3))) x5).f2) ((rd_T52 (h0.set x5.toNat (S52.mk x1 ((rd_T52 h0 x5).f1) ((rd_T52 h0 x5).f2) ((rd_T52 h0 x5).f3))) x5).f3))) x5).f1) (w64 ((w64 (x1 + 1)) + 1)) ((rd_T52 ((h0.set x5.toNat (S52.mk x1 ((rd_T52 h0 x5).f1) ((rd_T52 h0 x5).f2) ((rd_T52 h0 x5).f3))).set x5.toNat (S52.mk ((rd_T52 (h0.set x5.toNat (S52.mk x1 ((rd_T52 h0 x5).f1) ((rd_T52 h0 x5).f2) ((rd_T52 h0 x5).f3))) x5).f0) (w64 (x1 + 1)) ((rd_T52 (h0.set x5.toNat (S52.mk x1 ((rd_T52 h0 x5).f1) ((rd_T52 h0 x5).f2) ((rd_T52 h0 x5).f3))) x5).f2) ((rd_T52 (h0.set x5.toNat (S52.mk x1 ((rd_T52 h0 x5).f1) ((rd_T52 h0 x5).f2) ((rd_T52 h0 x5).f3))) x5).f3))) x5).f3))) x5).f0) ((rd_T52 (((h0.set x5.toNat (S52.mk x1 ((rd_T52 h0 x5).f1) ((rd_T52 h0 x5).f2) ((rd_T52 h0 x5).f3))).set x5.toNat (S52.mk ((rd_T52 (h0.set x5.toNat (S52.mk x1 ((rd_T52 h0 x5).f1) ((rd_T52 h0 x5).f2) ((rd_T52 h0 x5).f3))) x5).f0) (w64 (x1 + 1)) ((rd_T52 (h0.set x5.toNat (S52.mk x1 ((rd_T52 h0 x5).f1) ((rd_T52 h0 x5).f2) ((rd_T52 h0 x5).f3))) x5).f2) ((rd_T52 (h0.set x5.toNat (S52.mk x1 ((rd_T52 h0 x5).f1) ((rd_T52 h0 x5).f2) ((rd_T52 h0 x5).f3))) x5).f3))).set x5.toNat (S52.mk ((rd_T52 ((h0.set x5.toNat (S52.mk x1 ((rd_T52 h0 x5).f1) ((rd_T52 h0 x5).f2) ((rd_T52 h0 x5).f3))).set x5.toNat (S52.mk ((rd_T52 (h0.set x5.toNat (S52.mk x1 ((rd_T52 h0 x5).f1) ((rd_T52 h0 x5).f2) ((rd_T52 h0 x5).f3))) x5).f0) (w64 (x1 + 1)) ((rd_T52 (h0.set x5.toNat (S52.mk x1 ((rd_T52 h0 x5).f1) ((rd_T52 h0 x5).f2) ((rd_T52 h0 x5).f3))) x5).f2) ((rd_T52 (h0.set x5.toNat (S52.mk x1 ((rd_T52 h0 x5).f1) ((rd_T52 h0 x5).f2) ((rd_T52 h0 x5).f3))) x5).f3))) x5).f0) ((rd_T52 ((h0.set x5.toNat (S52.mk x1 ((rd_T52 h0 x5).f1) ((rd_T52 h0 x5).f2) ((rd_T52 h0 x5).f3))).set x5.toNat (S52.mk ((rd_T52 (h0.set x5.toNat (S52.mk x1 ((rd_T52 h0 x5).f1) ((rd_T52 h0 x5).f2) ((rd_T52 h0 x5).f3))) x5).f0) (w64 (x1 + 1)) ((rd_T52 (h0.set x5.toNat (S52.mk x1 ((rd_T52 h0 x5).f1) ((rd_T52 h0 x5).f2) ((rd_T52 h0 x5).f3))) x5).f2) ((rd_T52 (h0.set x5.toNat (S52.mk x1 ((rd_T52 h0 x5).f1) ((rd_T52 h0 x5).f2) ((rd_T52 h0 x5).f3))) x5).f3))) x5).f1) (w64 ((w64 (x1 + 1)) + 1)) ((rd_T52 ((h0.set x5.toNat (S52.mk x1 ((rd_T52 h0 x5).f1) ((rd_T52 h0 x5).f2) ((rd_T52 h0 x5).f3))).set x5.toNat (S52.mk ((rd_T52 (h0.set x5.toNat (S52.mk x1 ((rd_T52 h0 x5).f1) ((rd_T52 h0 x5).f2) ((rd_T52 h0 x5).f3))) x5).f0) (w64 (x1 + 1)) ((rd_T52 (h0.set x5.toNat (S52.mk x1 ((rd_T52 h0 x5).f1) ((rd_T52 h0 x5).f2) ((rd_T52 h0 x5).f3))) x5).f2) ((rd_T52 (h0.set x5.toNat (S52.mk x1 ((rd_T52 h0 x5).f1) ((rd_T52 h0 x5).f2) ((rd_T52 h0 x5).f3))) x5).f3))) x5).f3))) x5).f1) ((rd_T52 (((h0.set x5.toNat (S52.mk x1 ((rd_T52 h0 x5).f1) ((rd_T52 h0 x5).f2) ((rd_T52 h0 x5).f3))).set x5.toNat (S52.mk ((rd_T52 (h0.set x5.toNat (S52.mk x1 ((rd_T52 h0 x5).f1) ((rd_T52 h0 x5).f2) ((rd_T52 h0 x5).f3))) x5).f0) (w64 (x1 + 1)) ((rd_T52 (h0.set x5.toNat (S52.mk x1 ((rd_T52 h0 x5).f1) ((rd_T52 h0 x5).f2) ((rd_T52 h0 x5).f3))) x5).f2) ((rd_T52 (h0.set x5.toNat (S52.mk x1 ((rd_T52 h0 x5).f1) ((rd_T52 h0 x5).f2) ((rd_T52 h0 x5).f3))) x5).f3))).set x5.toNat (S52.mk ((rd_T52 ((h0.set x5.toNat (S52.mk x1 ((rd_T52 h0 x5).f1) ((rd_T52 h0 x5).f2) ((rd_T52 h0 x5).f3))).set x5.toNat (S52.mk ((rd_T52 (h0.set x5.toNat (S52.mk x1 ((rd_T52 h0 x5).f1) ((rd_T52 h0 x5).f2) ((rd_T52 h0 x5).f3))) x5).f0) (w64 (x1 + 1)) ((rd_T52 (h0.set x5.toNat (S52.mk x1 ((rd_T52 h0 x5).f1) ((rd_T52 h0 x5).f2) ((rd_T52 h0 x5).f3))) x5).f2) ((rd_T52 (h0.set x5.toNat (S52.mk x1 ((rd_T52 h0 x5).f1) ((rd_T52 h0 x5).f2) ((rd_T52 h0 x5).f3))) x5).f3))) x5).f0) ((rd_T52 ((h0.set x5.toNat (S52.mk x1 ((rd_T52 h0 x5).f1) ((rd_T52 h0 x5).f2) ((rd_T52 h0 x5).f3))).set x5.toNat (S52.mk ((rd_T52 (h0.set x5.toNat (S52.mk x1 ((rd_T52 h0 x5).f1) ((rd_T52 h0 x5).f2) ((rd_T52 h0 x5).f3))) x5).f0) (w64 (x1 + 1)) ((rd_T52 (h0.set x5.toNat (S52.mk x1 ((rd_T52 h0 x5).f1) ((rd_T52 h0 x5).f2) ((rd_T52 h0 x5).f3))) x5).f2) ((rd_T52 (h0.set x5.toNat (S52.mk x1 ((rd_T52 h0 x5).f1) ((rd_T52 h0 x5).f2) ((rd_T52 h0 x5).f3))) x5).f3))) x5).f1) (w64 ((w64 (x1 + 1)) + 1)) ((rd_T52 ((h0.set x5.toNat (S52.mk x1 ((rd_T52 h0 x5).f1) ((rd_T52 h0 x5).f2) ((rd_T52 h0 x5).f3))).set x5.toNat (S52.mk ((rd_T52 (h0.set x5.toNat (S52.mk x1 ((rd_T52 h0 x5).f1) ((rd_T52 h0 x5).f2) ((rd_T52 h0 x5).f3))) x5).f0) (w64 (x1 + 1)) ((rd_T52 (h0.set x5.toNat (S52.mk x1 ((rd_T52 h0 x5).f1) ((rd_T52 h0 x5).f2) ((rd_T52 h0 x5).f3))) x5).f2) ((rd_T52 (h0.set x5.toNat (S52.mk x1 ((rd_T52 h0 x5).f1) ((rd_T52 h0 x5).f2) ((rd_T52 h0 x5).f3))) x5).f3))) x5).f3))) x5).f2) (w64 ((w64 ((w64 (x1 + 1)) + 1)) + 1))))) else none) else none) else none) else none) else none) else none) else none) else none) else (some (x1,h0)))
noncomputable def laws_markRecS.f (k : Nat) (a1 : Int) (a0 : List S52) : Option (Int × (List S52)):=(laws_markRecS.c2 k a1 0 a0)
noncomputable def laws_markRecS.e (r : Int × (List S52)) : Res Ty D:=(.sc (.int .i64 r.1),[some (.rowb .t52 r.2 0)],[])
noncomputable abbrev laws_markRecS.g (rec : List Item → St Ty D → R) (k : Nat):=go1 Tryz.f13 (laws_markRecS.ctx k) laws_markRecS.sp 1 laws_markRecS.en rec
set_option maxRecDepth 100000 in
theorem laws_markRecS.t2 (rec : List Item → St Ty D → R) (k : Nat) (x1 : Int) (x5 : Int) (h0 : List S52) : laws_markRecS.g rec k (td Tryz.f13 2) (laws_markRecS.s2 x1 x5 h0) =
 bif decide (x5 < (h0.length : Int)) then bif decide (0 ≤ x5) then bif decide (x5 < (h0.length : Int)) then bif decide (0 ≤ x5) then bif decide (x5 < ((h0.set x5.toNat (S52.mk x1 ((rd_T52 h0 x5).f1) ((rd_T52 h0 x5).f2) ((rd_T52 h0 x5).f3))).length : Int)) then bif decide (0 ≤ x5) then bif decide (x5 < (((h0.set x5.toNat (S52.mk x1 ((rd_T52 h0 x5).f1) ((rd_T52 h0 x5).f2) ((rd_T52 h0 x5).f3))).set x5.toNat (S52.mk ((rd_T52 (h0.set x5.toNat (S52.mk x1 ((rd_T52 h0 x5).f1) ((rd_T52 h0 x5).f2) ((rd_T52 h0 x5).f3))) x5).f0) (w64 (x1 + 1)) ((rd_T52 (h0.set x5.toNat (S52.mk x1 ((rd_T52 h0 x5).f1) ((rd_T52 h0 x5).f2) ((rd_T52 h0 x5).f3))) x5).f2) ((rd_T52 (h0.set x5.toNat (S52.mk x1 ((rd_T52 h0 x5).f1) ((rd_T52 h0 x5).f2) ((rd_T52 h0 x5).f3))) x5).f3))).length : Int)) then bif decide (0 ≤ x5) then bif decide (x5 < ((((h0.set x5.toNat (S52.mk x1 ((rd_T52 h0 x5).f1) ((rd_T52 h0 x5).f2) ((rd_T52 h0 x5).f3))).set x5.toNat (S52.mk ((rd_T52 (h0.set x5.toNat (S52.mk x1 ((rd_T52 h0 x5).f1) ((rd_T52 h0 x5).f2) ((rd_T52 h0 x5).f3))) x5).f0) (w64 (x1 + 1)) ((rd_T52 (h0.set x5.toNat (S52.mk x1 ((rd_T52 h0 x5).f1) ((rd_T52 h0 x5).f2) ((rd_T52 h0 x5).f3))) x5).f2) ((rd_T52 (h0.set x5.toNat (S52.mk x1 ((rd_T52 h0 x5).f1) ((rd_T52 h0 x5).f2) ((rd_T52 h0 x5).f3))) x5).f3))).set x5.toNat (S52.mk ((rd_T52 ((h0.set x5.toNat (S52.mk x1 ((rd_T52 h0 x5).f1) ((rd_T52 h0 x5).f2) ((rd_T52 h0 x5).f3))).set x5.toNat (S52.mk ((rd_T52 (h0.set x5.toNat (S52.mk x1 ((rd_T52 h0 x5).f1) ((rd_T52 h0 x5).f2) ((rd_T52 h0 x5).f3))) x5).f0) (w64 (x1 + 1)) ((rd_T52 (h0.set x5.toNat (S52.mk x1 ((rd_T52 h0 x5).f1) ((rd_T52 h0 x5).f2) ((rd_T52 h0 x5).f3))) x5).f2) ((rd_T52 (h0.set x5.toNat (S52.mk x1 ((rd_T52 h0 x5).f1) ((rd_T52 h0 x5).f2) ((rd_T52 h0 x5).f3))) x5).f3))) x5).f0) ((rd_T52 ((h0.set x5.toNat (S52.mk x1 ((rd_T52 h0 x5).f1) ((rd_T52 h0 x5).f2) ((rd_T52 h0 x5).f3))).set x5.toNat (S52.mk ((rd_T52 (h0.set x5.toNat (S52.mk x1 ((rd_T52 h0 x5).f1) ((rd_T52 h0 x5).f2) ((rd_T52 h0 x5).f3))) x5).f0) (w64 (x1 + 1)) ((rd_T52 (h0.set x5.toNat (S52.mk x1 ((rd_T52 h0 x5).f1) ((rd_T52 h0 x5).f2) ((rd_T52 h0 x5).f3))) x5).f2) ((rd_T52 (h0.set x5.toNat (S52.mk x1 ((rd_T52 h0 x5).f1) ((rd_T52 h0 x5).f2) ((rd_T52 h0 x5).f3))) x5).f3))) x5).f1) (w64 ((w64 (x1 + 1)) + 1)) ((rd_T52 ((h0.set x5.toNat (S52.mk x1 ((rd_T52 h0 x5).f1) ((rd_T52 h0 x5).f2) ((rd_T52 h0 x5).f3))).set x5.toNat (S52.mk ((rd_T52 (h0.set x5.toNat (S52.mk x1 ((rd_T52 h0 x5).f1) ((rd_T52 h0 x5).f2) ((rd_T52 h0 x5).f3))) x5).f0) (w64 (x1 + 1)) ((rd_T52 (h0.set x5.toNat (S52.mk x1 ((rd_T52 h0 x5).f1) ((rd_T52 h0 x5).f2) ((rd_T52 h0 x5).f3))) x5).f2) ((rd_T52 (h0.set x5.toNat (S52.mk x1 ((rd_T52 h0 x5).f1) ((rd_T52 h0 x5).f2) ((rd_T52 h0 x5).f3))) x5).f3))) x5).f3))).length : Int)) then rec (td Tryz.f13 2) (laws_markRecS.s2 (w64 ((w64 ((w64 ((w64 (x1 + 1)) + 1)) + 1)) + 1)) (w64 (x5 + 1)) ((((h0.set x5.toNat (S52.mk x1 ((rd_T52 h0 x5).f1) ((rd_T52 h0 x5).f2) ((rd_T52 h0 x5).f3))).set x5.toNat (S52.mk ((rd_T52 (h0.set x5.toNat (S52.mk x1 ((rd_T52 h0 x5).f1) ((rd_T52 h0 x5).f2) ((rd_T52 h0 x5).f3))) x5).f0) (w64 (x1 + 1)) ((rd_T52 (h0.set x5.toNat (S52.mk x1 ((rd_T52 h0 x5).f1) ((rd_T52 h0 x5).f2) ((rd_T52 h0 x5).f3))) x5).f2) ((rd_T52 (h0.set x5.toNat (S52.mk x1 ((rd_T52 h0 x5).f1) ((rd_T52 h0 x5).f2) ((rd_T52 h0 x5).f3))) x5).f3))).set x5.toNat (S52.mk ((rd_T52 ((h0.set x5.toNat (S52.mk x1 ((rd_T52 h0 x5).f1) ((rd_T52 h0 x5).f2) ((rd_T52 h0 x5).f3))).set x5.toNat (S52.mk ((rd_T52 (h0.set x5.toNat (S52.mk x1 ((rd_T52 h0 x5).f1) ((rd_T52 h0 x5).f2) ((rd_T52 h0 x5).f3))) x5).f0) (w64 (x1 + 1)) ((rd_T52 (h0.set x5.toNat (S52.mk x1 ((rd_T52 h0 x5).f1) ((rd_T52 h0 x5).f2) ((rd_T52 h0 x5).f3))) x5).f2) ((rd_T52 (h0.set x5.toNat (S52.mk x1 ((rd_T52 h0 x5).f1) ((rd_T52 h0 x5).f2) ((rd_T52 h0 x5).f3))) x5).f3))) x5).f0) ((rd_T52 ((h0.set x5.toNat (S52.mk x1 ((rd_T52 h0 x5).f1) ((rd_T52 h0 x5).f2) ((rd_T52 h0 x5).f3))).set x5.toNat (S52.mk ((rd_T52 (h0.set x5.toNat (S52.mk x1 ((rd_T52 h0 x5).f1) ((rd_T52 h0 x5).f2) ((rd_T52 h0 x5).f3))) x5).f0) (w64 (x1 + 1)) ((rd_T52 (h0.set x5.toNat (S52.mk x1 ((rd_T52 h0 x5).f1) ((rd_T52 h0 x5).f2) ((rd_T52 h0 x5).f3))) x5).f2) ((rd_T52 (h0.set x5.toNat (S52.mk x1 ((rd_T52 h0 x5).f1) ((rd_T52 h0 x5).f2) ((rd_T52 h0 x5).f3))) x5).f3))) x5).f1) (w64 ((w64 (x1 + 1)) + 1)) ((rd_T52 ((h0.set x5.toNat (S52.mk x1 ((rd_T52 h0 x5).f1) ((rd_T52 h0 x5).f2) ((rd_T52 h0 x5).f3))).set x5.toNat (S52.mk ((rd_T52 (h0.set x5.toNat (S52.mk x1 ((rd_T52 h0 x5).f1) ((rd_T52 h0 x5).f2) ((rd_T52 h0 x5).f3))) x5).f0) (w64 (x1 + 1)) ((rd_T52 (h0.set x5.toNat (S52.mk x1 ((rd_T52 h0 x5).f1) ((rd_T52 h0 x5).f2) ((rd_T52 h0 x5).f3))) x5).f2) ((rd_T52 (h0.set x5.toNat (S52.mk x1 ((rd_T52 h0 x5).f1) ((rd_T52 h0 x5).f2) ((rd_T52 h0 x5).f3))) x5).f3))) x5).f3))).set x5.toNat (S52.mk ((rd_T52 (((h0.set x5.toNat (S52.mk x1 ((rd_T52 h0 x5).f1) ((rd_T52 h0 x5).f2) ((rd_T52 h0 x5).f3))).set x5.toNat (S52.mk ((rd_T52 (h0.set x5.toNat (S52.mk x1 ((rd_T52 h0 x5).f1) ((rd_T52 h0 x5).f2) ((rd_T52 h0 x5).f3))) x5).f0) (w64 (x1 + 1)) ((rd_T52 (h0.set x5.toNat (S52.mk x1 ((rd_T52 h0 x5).f1) ((rd_T52 h0 x5).f2) ((rd_T52 h0 x5).f3))) x5).f2) ((rd_T52 (h0.set x5.toNat (S52.mk x1 ((rd_T52 h0 x5).f1) ((rd_T52 h0 x5).f2) ((rd_T52 h0 x5).f3))) x5).f3))).set x5.toNat (S52.mk ((rd_T52 ((h0.set x5.toNat (S52.mk x1 ((rd_T52 h0 x5).f1) ((rd_T52 h0 x5).f2) ((rd_T52 h0 x5).f3))).set x5.toNat (S52.mk ((rd_T52 (h0.set x5.toNat (S52.mk x1 ((rd_T52 h0 x5).f1) ((rd_T52 h0 x5).f2) ((rd_T52 h0 x5).f3))) x5).f0) (w64 (x1 + 1)) ((rd_T52 (h0.set x5.toNat (S52.mk x1 ((rd_T52 h0 x5).f1) ((rd_T52 h0 x5).f2) ((rd_T52 h0 x5).f3))) x5).f2) ((rd_T52 (h0.set x5.toNat (S52.mk x1 ((rd_T52 h0 x5).f1) ((rd_T52 h0 x5).f2) ((rd_T52 h0 x5).f3))) x5).f3))) x5).f0) ((rd_T52 ((h0.set x5.toNat (S52.mk x1 ((rd_T52 h0 x5).f1) ((rd_T52 h0 x5).f2) ((rd_T52 h0 x5).f3))).set x5.toNat (S52.mk ((rd_T52 (h0.set x5.toNat (S52.mk x1 ((rd_T52 h0 x5).f1) ((rd_T52 h0 x5).f2) ((rd_T52 h0 x5).f3))) x5).f0) (w64 (x1 + 1)) ((rd_T52 (h0.set x5.toNat (S52.mk x1 ((rd_T52 h0 x5).f1) ((rd_T52 h0 x5).f2) ((rd_T52 h0 x5).f3))) x5).f2) ((rd_T52 (h0.set x5.toNat (S52.mk x1 ((rd_T52 h0 x5).f1) ((rd_T52 h0 x5).f2) ((rd_T52 h0 x5).f3))) x5).f3))) x5).f1) (w64 ((w64 (x1 + 1)) + 1)) ((rd_T52 ((h0.set x5.toNat (S52.mk x1 ((rd_T52 h0 x5).f1) ((rd_T52 h0 x5).f2) ((rd_T52 h0 x5).f3))).set x5.toNat (S52.mk ((rd_T52 (h0.set x5.toNat (S52.mk x1 ((rd_T52 h0 x5).f1) ((rd_T52 h0 x5).f2) ((rd_T52 h0 x5).f3))) x5).f0) (w64 (x1 + 1)) ((rd_T52 (h0.set x5.toNat (S52.mk x1 ((rd_T52 h0 x5).f1) ((rd_T52 h0 x5).f2) ((rd_T52 h0 x5).f3))) x5).f2) ((rd_T52 (h0.set x5.toNat (S52.mk x1 ((rd_T52 h0 x5).f1) ((rd_T52 h0 x5).f2) ((rd_T52 h0 x5).f3))) x5).f3))) x5).f3))) x5).f0) ((rd_T52 (((h0.set x5.toNat (S52.mk x1 ((rd_T52 h0 x5).f1) ((rd_T52 h0 x5).f2) ((rd_T52 h0 x5).f3))).set x5.toNat (S52.mk ((rd_T52 (h0.set x5.toNat (S52.mk x1 ((rd_T52 h0 x5).f1) ((rd_T52 h0 x5).f2) ((rd_T52 h0 x5).f3))) x5).f0) (w64 (x1 + 1)) ((rd_T52 (h0.set x5.toNat (S52.mk x1 ((rd_T52 h0 x5).f1) ((rd_T52 h0 x5).f2) ((rd_T52 h0 x5).f3))) x5).f2) ((rd_T52 (h0.set x5.toNat (S52.mk x1 ((rd_T52 h0 x5).f1) ((rd_T52 h0 x5).f2) ((rd_T52 h0 x5).f3))) x5).f3))).set x5.toNat (S52.mk ((rd_T52 ((h0.set x5.toNat (S52.mk x1 ((rd_T52 h0 x5).f1) ((rd_T52 h0 x5).f2) ((rd_T52 h0 x5).f3))).set x5.toNat (S52.mk ((rd_T52 (h0.set x5.toNat (S52.mk x1 ((rd_T52 h0 x5).f1) ((rd_T52 h0 x5).f2) ((rd_T52 h0 x5).f3))) x5).f0) (w64 (x1 + 1)) ((rd_T52 (h0.set x5.toNat (S52.mk x1 ((rd_T52 h0 x5).f1) ((rd_T52 h0 x5).f2) ((rd_T52 h0 x5).f3))) x5).f2) ((rd_T52 (h0.set x5.toNat (S52.mk x1 ((rd_T52 h0 x5).f1) ((rd_T52 h0 x5).f2) ((rd_T52 h0 x5).f3))) x5).f3))) x5).f0) ((rd_T52 ((h0.set x5.toNat (S52.mk x1 ((rd_T52 h0 x5).f1) ((rd_T52 h0 x5).f2) ((rd_T52 h0 x5).f3))).set x5.toNat (S52.mk ((rd_T52 (h0.set x5.toNat (S52.mk x1 ((rd_T52 h0 x5).f1) ((rd_T52 h0 x5).f2) ((rd_T52 h0 x5).f3))) x5).f0) (w64 (x1 + 1)) ((rd_T52 (h0.set x5.toNat (S52.mk x1 ((rd_T52 h0 x5).f1) ((rd_T52 h0 x5).f2) ((rd_T52 h0 x5).f3))) x5).f2) ((rd_T52 (h0.set x5.toNat (S52.mk x1 ((rd_T52 h0 x5).f1) ((rd_T52 h0 x5).f2) ((rd_T52 h0 x5).f3))) x5).f3))) x5).f1) (w64 ((w64 (x1 + 1)) + 1)) ((rd_T52 ((h0.set x5.toNat (S52.mk x1 ((rd_T52 h0 x5).f1) ((rd_T52 h0 x5).f2) ((rd_T52 h0 x5).f3))).set x5.toNat (S52.mk ((rd_T52 (h0.set x5.toNat (S52.mk x1 ((rd_T52 h0 x5).f1) ((rd_T52 h0 x5).f2) ((rd_T52 h0 x5).f3))) x5).f0) (w64 (x1 + 1)) ((rd_T52 (h0.set x5.toNat (S52.mk x1 ((rd_T52 h0 x5).f1) ((rd_T52 h0 x5).f2) ((rd_T52 h0 x5).f3))) x5).f2) ((rd_T52 (h0.set x5.toNat (S52.mk x1 ((rd_T52 h0 x5).f1) ((rd_T52 h0 x5).f2) ((rd_T52 h0 x5).f3))) x5).f3))) x5).f3))) x5).f1) ((rd_T52 (((h0.set x5.toNat (S52.mk x1 ((rd_T52 h0 x5).f1) ((rd_T52 h0 x5).f2) ((rd_T52 h0 x5).f3))).set x5.toNat (S52.mk ((rd_T52 (h0.set x5.toNat (S52.mk x1 ((rd_T52 h0 x5).f1) ((rd_T52 h0 x5).f2) ((rd_T52 h0 x5).f3))) x5).f0) (w64 (x1 + 1)) ((rd_T52 (h0.set x5.toNat (S52.mk x1 ((rd_T52 h0 x5).f1) ((rd_T52 h0 x5).f2) ((rd_T52 h0 x5).f3))) x5).f2) ((rd_T52 (h0.set x5.toNat (S52.mk x1 ((rd_T52 h0 x5).f1) ((rd_T52 h0 x5).f2) ((rd_T52 h0 x5).f3))) x5).f3))).set x5.toNat (S52.mk ((rd_T52 ((h0.set x5.toNat (S52.mk x1 ((rd_T52 h0 x5).f1) ((rd_T52 h0 x5).f2) ((rd_T52 h0 x5).f3))).set x5.toNat (S52.mk ((rd_T52 (h0.set x5.toNat (S52.mk x1 ((rd_T52 h0 x5).f1) ((rd_T52 h0 x5).f2) ((rd_T52 h0 x5).f3))) x5).f0) (w64 (x1 + 1)) ((rd_T52 (h0.set x5.toNat (S52.mk x1 ((rd_T52 h0 x5).f1) ((rd_T52 h0 x5).f2) ((rd_T52 h0 x5).f3))) x5).f2) ((rd_T52 (h0.set x5.toNat (S52.mk x1 ((rd_T52 h0 x5).f1) ((rd_T52 h0 x5).f2) ((rd_T52 h0 x5).f3))) x5).f3))) x5).f0) ((rd_T52 ((h0.set x5.toNat (S52.mk x1 ((rd_T52 h0 x5).f1) ((rd_T52 h0 x5).f2) ((rd_T52 h0 x5).f3))).set x5.toNat (S52.mk ((rd_T52 (h0.set x5.toNat (S52.mk x1 ((rd_T52 h0 x5).f1) ((rd_T52 h0 x5).f2) ((rd_T52 h0 x5).f3))) x5).f0) (w64 (x1 + 1)) ((rd_T52 (h0.set x5.toNat (S52.mk x1 ((rd_T52 h0 x5).f1) ((rd_T52 h0 x5).f2) ((rd_T52 h0 x5).f3))) x5).f2) ((rd_T52 (h0.set x5.toNat (S52.mk x1 ((rd_T52 h0 x5).f1) ((rd_T52 h0 x5).f2) ((rd_T52 h0 x5).f3))) x5).f3))) x5).f1) (w64 ((w64 (x1 + 1)) + 1)) ((rd_T52 ((h0.set x5.toNat (S52.mk x1 ((rd_T52 h0 x5).f1) ((rd_T52 h0 x5).f2) ((rd_T52 h0 x5).f3))).set x5.toNat (S52.mk ((rd_T52 (h0.set x5.toNat (S52.mk x1 ((rd_T52 h0 x5).f1) ((rd_T52 h0 x5).f2) ((rd_T52 h0 x5).f3))) x5).f0) (w64 (x1 + 1)) ((rd_T52 (h0.set x5.toNat (S52.mk x1 ((rd_T52 h0 x5).f1) ((rd_T52 h0 x5).f2) ((rd_T52 h0 x5).f3))) x5).f2) ((rd_T52 (h0.set x5.toNat (S52.mk x1 ((rd_T52 h0 x5).f1) ((rd_T52 h0 x5).f2) ((rd_T52 h0 x5).f3))) x5).f3))) x5).f3))) x5).f2) (w64 ((w64 ((w64 (x1 + 1)) + 1)) + 1))))) else none else none else none else none else none else none else none else none else some (laws_markRecS.e (x1,h0)):=by kernel_rfl
set_option maxRecDepth 100000 in
theorem laws_markRecS.te (rec : List Item → St Ty D → R) (k : Nat) (a1 : Int) (a0 : List S52) : laws_markRecS.g rec k [.code (body Tryz.f13)] (startSt [.sl 0 none,.sc (.int .i64 a1)] [.rowb .t52 a0 0]) =
 rec (td Tryz.f13 2) (laws_markRecS.s2 a1 0 a0):=by kernel_rfl
set_option maxRecDepth 100000 in
theorem laws_markRecS.ok : ∀ k : Nat,(∀ (x1 : Int) (x5 : Int) (h0 : List S52),goF Tryz.f13 laws_markRecS.ctx laws_markRecS.sp 1 laws_markRecS.en k (td Tryz.f13 2) (laws_markRecS.s2 x1 x5 h0) = (laws_markRecS.c2 k x1 x5 h0).map laws_markRecS.e)
 | 0=>fun _ _ _=>rfl
 | k + 1=>by
  have ih:=laws_markRecS.ok k;have i2:=ih;intro x1 x5 h0;rw [laws_markRecS.c2];exact (laws_markRecS.t2 _ k x1 x5 h0).trans (cd (cd (cd (cd (cd (cd (cd (cd (cd (i2 _ _ _) rfl) rfl) rfl) rfl) rfl) rfl) rfl) rfl) rfl)
set_option maxRecDepth 100000 in
theorem laws_markRecS.oke (k : Nat) (a1 : Int) (a0 : List S52) : goF Tryz.f13 laws_markRecS.ctx laws_markRecS.sp 1 laws_markRecS.en (k + 1) [.code (body Tryz.f13)] (startSt [.sl 0 none,.sc (.int .i64 a1)] [.rowb .t52 a0 0]) = (laws_markRecS.f k a1 a0).map laws_markRecS.e:=by
 have i2:=laws_markRecS.ok k;rw [laws_markRecS.f];exact (laws_markRecS.te _ k a1 a0).trans (i2 _ _ _)
theorem laws_markRecS.con (k : Nat) (a1 : Int) (a0 : List S52) (r) (h : laws_markRecS.f k a1 a0 = some r) : Contract Tryz.prog kit 13 [.sl 0 none,.sc (.int .i64 a1)] [.rowb .t52 a0 0] (laws_markRecS.e r).1 (laws_markRecS.e r).2.1 (laws_markRecS.e r).2.2 :=
 con_okG kitOk mix (fun k=>CtxOk.nil) (laws_markRecS.oke k a1 a0) h (by kernel_rfl) (by kernel_rfl) (by kernel_rfl) rfl (by kernel_rfl) rfl rfl
noncomputable def laws_markRecS.x (k : Nat) : X:=fun ins bs κ=>match ins,bs with
 | [.sl 0 none,.sc (.int .i64 a1)],[.rowb .t52 a0 0]=>(laws_markRecS.f k a1 a0).bind fun r=>κ (laws_markRecS.e r).1 (laws_markRecS.e r).2.1 (laws_markRecS.e r).2.2
 | _,_=>none
theorem laws_markRecS.xok (k : Nat) : XOk 13 (laws_markRecS.x k):=by
 intro ins bs κ res h;unfold laws_markRecS.x at h
 split at h
 ·obtain ⟨r,hr,h⟩:=Option.bind_eq_some_iff.1 h;exact ⟨_,_,_,laws_markRecS.con k _ _ r hr,h⟩
 cases h
noncomputable def laws_heldVolS.sp : Nat → Option (Spec Ty):=fun r=>bif Nat.beq r 2 then some ⟨[(0,.keep),(1,.keep),(5,.keep)],[]⟩ else none
noncomputable def laws_heldVolS.en : Option (Spec Ty):=none
noncomputable def laws_heldVolS.s2 (x0 : List S69) (x1 : Int) (x5 : Int) : St Ty D:=⟨(Env.put (Env.put (Env.put E (some 0) (.row 0 .t69 x0)) (some 1) (.sc (.int .i64 x1))) (some 5) (.sc (.int .i64 x5))),H0,1000⟩
noncomputable def laws_heldVolS.ctx (k : Nat) : Ctx Ty D:=(fun _ _ _ _=>none)
noncomputable def laws_heldVolS.c2 : Nat → (List S69) → Int → Int → Option (Int)
 | 0,_,_,_=>none
 | k + 1,x0,x1,x5=>(if x5 < (x0.length : Int) then (if 0 ≤ x5 then (if x5 < (x0.length : Int) then (if ((rd_T69 x0 x5).f0) = x1 then (if 0 ≤ x5 then (if x5 < (x0.length : Int) then (if ((rd_T69 x0 x5).f1) = (w64 (x1 + 1)) then (laws_heldVolS.c2 k x0 (w64 ((w64 (x1 + 1)) + 1)) (w64 (x5 + 1))) else (some ((-1)))) else none) else none) else (some ((-1)))) else none) else none) else (some (x1)))
noncomputable def laws_heldVolS.f (k : Nat) (a0 : List S69) (a1 : Int) : Option (Int):=(laws_heldVolS.c2 k a0 a1 0)
noncomputable def laws_heldVolS.e (r : Int) : Res Ty D:=(.sc (.int .i64 r),[],[])
noncomputable abbrev laws_heldVolS.g (rec : List Item → St Ty D → R) (k : Nat):=go1 Tryz.f29 (laws_heldVolS.ctx k) laws_heldVolS.sp 0 laws_heldVolS.en rec
set_option maxRecDepth 100000 in
theorem laws_heldVolS.t2 (rec : List Item → St Ty D → R) (k : Nat) (x0 : List S69) (x1 : Int) (x5 : Int) : laws_heldVolS.g rec k (td Tryz.f29 2) (laws_heldVolS.s2 x0 x1 x5) =
 bif decide (x5 < (x0.length : Int)) then bif decide (0 ≤ x5) then bif decide (x5 < (x0.length : Int)) then bif !decide (((rd_T69 x0 x5).f0) = x1) then some (laws_heldVolS.e ((-1))) else bif decide (0 ≤ x5) then bif decide (x5 < (x0.length : Int)) then bif !decide (((rd_T69 x0 x5).f1) = (w64 (x1 + 1))) then some (laws_heldVolS.e ((-1))) else rec (td Tryz.f29 2) (laws_heldVolS.s2 x0 (w64 ((w64 (x1 + 1)) + 1)) (w64 (x5 + 1))) else none else none else none else none else some (laws_heldVolS.e (x1)):=by kernel_rfl
set_option maxRecDepth 100000 in
theorem laws_heldVolS.te (rec : List Item → St Ty D → R) (k : Nat) (a0 : List S69) (a1 : Int) : laws_heldVolS.g rec k [.code (body Tryz.f29)] (startSt [.row 0 .t69 a0,.sc (.int .i64 a1)] []) =
 rec (td Tryz.f29 2) (laws_heldVolS.s2 a0 a1 0):=by kernel_rfl
set_option maxRecDepth 100000 in
theorem laws_heldVolS.ok : ∀ k : Nat,(∀ (x0 : List S69) (x1 : Int) (x5 : Int),goF Tryz.f29 laws_heldVolS.ctx laws_heldVolS.sp 0 laws_heldVolS.en k (td Tryz.f29 2) (laws_heldVolS.s2 x0 x1 x5) = (laws_heldVolS.c2 k x0 x1 x5).map laws_heldVolS.e)
 | 0=>fun _ _ _=>rfl
 | k + 1=>by
  have ih:=laws_heldVolS.ok k;have i2:=ih;intro x0 x1 x5;rw [laws_heldVolS.c2];exact (laws_heldVolS.t2 _ k x0 x1 x5).trans (cd (cd (cd (nd rfl (cd (cd (nd rfl (i2 _ _ _)) rfl) rfl)) rfl) rfl) rfl)
set_option maxRecDepth 100000 in
theorem laws_heldVolS.oke (k : Nat) (a0 : List S69) (a1 : Int) : goF Tryz.f29 laws_heldVolS.ctx laws_heldVolS.sp 0 laws_heldVolS.en (k + 1) [.code (body Tryz.f29)] (startSt [.row 0 .t69 a0,.sc (.int .i64 a1)] []) = (laws_heldVolS.f k a0 a1).map laws_heldVolS.e:=by
 have i2:=laws_heldVolS.ok k;rw [laws_heldVolS.f];exact (laws_heldVolS.te _ k a0 a1).trans (i2 _ _ _)
theorem laws_heldVolS.con (k : Nat) (a0 : List S69) (a1 : Int) (r) (h : laws_heldVolS.f k a0 a1 = some r) : Contract Tryz.prog kit 29 [.row 0 .t69 a0,.sc (.int .i64 a1)] [] (laws_heldVolS.e r).1 (laws_heldVolS.e r).2.1 (laws_heldVolS.e r).2.2 :=
 con_okG kitOk mix (fun k=>CtxOk.nil) (laws_heldVolS.oke k a0 a1) h (by kernel_rfl) (by kernel_rfl) (by kernel_rfl) rfl (by kernel_rfl) rfl rfl
noncomputable def laws_heldVolS.x (k : Nat) : X:=fun ins bs κ=>match ins,bs with
 | [.row 0 .t69 a0,.sc (.int .i64 a1)],[]=>(laws_heldVolS.f k a0 a1).bind fun r=>κ (laws_heldVolS.e r).1 (laws_heldVolS.e r).2.1 (laws_heldVolS.e r).2.2
 | _,_=>none
theorem laws_heldVolS.xok (k : Nat) : XOk 29 (laws_heldVolS.x k):=by
 intro ins bs κ res h;unfold laws_heldVolS.x at h
 split at h
 ·obtain ⟨r,hr,h⟩:=Option.bind_eq_some_iff.1 h;exact ⟨_,_,_,laws_heldVolS.con k _ _ r hr,h⟩
 cases h
end Go.Proofs.YteideicglgpfiaaGreat.M2

namespace Go.Proofs.YteideicglgpfiaaGreat.M2
open Go Go.Proofs.YteideicglgpfiaaGreat.PK
set_option linter.unusedVariables false
set_option linter.unusedSimpArgs false
set_option maxHeartbeats 4000000
noncomputable def laws_heldIntS.sp : Nat → Option (Spec Ty):=fun r=>bif Nat.beq r 2 then some ⟨[(0,.keep),(1,.keep),(5,.keep)],[]⟩ else none
noncomputable def laws_heldIntS.en : Option (Spec Ty):=none
noncomputable def laws_heldIntS.s2 (x0 : List Int) (x1 : Int) (x5 : Int) : St Ty D:=⟨(Env.put (Env.put (Env.put E (some 0) (.row 0 .t3 x0)) (some 1) (.sc (.int .i64 x1))) (some 5) (.sc (.int .i64 x5))),H0,1000⟩
noncomputable def laws_heldIntS.ctx (k : Nat) : Ctx Ty D:=(fun _ _ _ _=>none)
noncomputable def laws_heldIntS.c2 : Nat → (List Int) → Int → Int → Option (Int)
 | 0,_,_,_=>none
 | k + 1,x0,x1,x5=>(if x5 < (x0.length : Int) then (if 0 ≤ x5 then (if x5 < (x0.length : Int) then (if (rd_T3 x0 x5) = x1 then (laws_heldIntS.c2 k x0 (w64 (x1 + 1)) (w64 (x5 + 1))) else (some ((-1)))) else none) else none) else (some (x1)))
noncomputable def laws_heldIntS.f (k : Nat) (a0 : List Int) (a1 : Int) : Option (Int):=(laws_heldIntS.c2 k a0 a1 0)
noncomputable def laws_heldIntS.e (r : Int) : Res Ty D:=(.sc (.int .i64 r),[],[])
noncomputable abbrev laws_heldIntS.g (rec : List Item → St Ty D → R) (k : Nat):=go1 Tryz.f70 (laws_heldIntS.ctx k) laws_heldIntS.sp 0 laws_heldIntS.en rec
set_option maxRecDepth 100000 in
theorem laws_heldIntS.t2 (rec : List Item → St Ty D → R) (k : Nat) (x0 : List Int) (x1 : Int) (x5 : Int) : laws_heldIntS.g rec k (td Tryz.f70 2) (laws_heldIntS.s2 x0 x1 x5) =
 bif decide (x5 < (x0.length : Int)) then bif decide (0 ≤ x5) then bif decide (x5 < (x0.length : Int)) then bif !decide ((rd_T3 x0 x5) = x1) then some (laws_heldIntS.e ((-1))) else rec (td Tryz.f70 2) (laws_heldIntS.s2 x0 (w64 (x1 + 1)) (w64 (x5 + 1))) else none else none else some (laws_heldIntS.e (x1)):=by kernel_rfl
set_option maxRecDepth 100000 in
theorem laws_heldIntS.te (rec : List Item → St Ty D → R) (k : Nat) (a0 : List Int) (a1 : Int) : laws_heldIntS.g rec k [.code (body Tryz.f70)] (startSt [.row 0 .t3 a0,.sc (.int .i64 a1)] []) =
 rec (td Tryz.f70 2) (laws_heldIntS.s2 a0 a1 0):=by kernel_rfl
set_option maxRecDepth 100000 in
theorem laws_heldIntS.ok : ∀ k : Nat,(∀ (x0 : List Int) (x1 : Int) (x5 : Int),goF Tryz.f70 laws_heldIntS.ctx laws_heldIntS.sp 0 laws_heldIntS.en k (td Tryz.f70 2) (laws_heldIntS.s2 x0 x1 x5) = (laws_heldIntS.c2 k x0 x1 x5).map laws_heldIntS.e)
 | 0=>fun _ _ _=>rfl
 | k + 1=>by
  have ih:=laws_heldIntS.ok k;have i2:=ih;intro x0 x1 x5;rw [laws_heldIntS.c2];exact (laws_heldIntS.t2 _ k x0 x1 x5).trans (cd (cd (cd (nd rfl (i2 _ _ _)) rfl) rfl) rfl)
set_option maxRecDepth 100000 in
theorem laws_heldIntS.oke (k : Nat) (a0 : List Int) (a1 : Int) : goF Tryz.f70 laws_heldIntS.ctx laws_heldIntS.sp 0 laws_heldIntS.en (k + 1) [.code (body Tryz.f70)] (startSt [.row 0 .t3 a0,.sc (.int .i64 a1)] []) = (laws_heldIntS.f k a0 a1).map laws_heldIntS.e:=by
 have i2:=laws_heldIntS.ok k;rw [laws_heldIntS.f];exact (laws_heldIntS.te _ k a0 a1).trans (i2 _ _ _)
theorem laws_heldIntS.con (k : Nat) (a0 : List Int) (a1 : Int) (r) (h : laws_heldIntS.f k a0 a1 = some r) : Contract Tryz.prog kit 70 [.row 0 .t3 a0,.sc (.int .i64 a1)] [] (laws_heldIntS.e r).1 (laws_heldIntS.e r).2.1 (laws_heldIntS.e r).2.2 :=
 con_okG kitOk mix (fun k=>CtxOk.nil) (laws_heldIntS.oke k a0 a1) h (by kernel_rfl) (by kernel_rfl) (by kernel_rfl) rfl (by kernel_rfl) rfl rfl
noncomputable def laws_heldIntS.x (k : Nat) : X:=fun ins bs κ=>match ins,bs with
 | [.row 0 .t3 a0,.sc (.int .i64 a1)],[]=>(laws_heldIntS.f k a0 a1).bind fun r=>κ (laws_heldIntS.e r).1 (laws_heldIntS.e r).2.1 (laws_heldIntS.e r).2.2
 | _,_=>none
theorem laws_heldIntS.xok (k : Nat) : XOk 70 (laws_heldIntS.x k):=by
 intro ins bs κ res h;unfold laws_heldIntS.x at h
 split at h
 ·obtain ⟨r,hr,h⟩:=Option.bind_eq_some_iff.1 h;exact ⟨_,_,_,laws_heldIntS.con k _ _ r hr,h⟩
 cases h
noncomputable def laws_heldKnotS.sp : Nat → Option (Spec Ty):=fun r=>bif Nat.beq r 2 then some ⟨[(0,.keep),(1,.keep),(5,.keep)],[]⟩ else none
noncomputable def laws_heldKnotS.en : Option (Spec Ty):=none
noncomputable def laws_heldKnotS.s2 (x0 : List S80) (x1 : Int) (x5 : Int) : St Ty D:=⟨(Env.put (Env.put (Env.put E (some 0) (.row 0 .t80 x0)) (some 1) (.sc (.int .i64 x1))) (some 5) (.sc (.int .i64 x5))),H0,1000⟩
noncomputable def laws_heldKnotS.ctx (k : Nat) : Ctx Ty D:=(cons 70 (laws_heldIntS.x k) (fun _ _ _ _=>none))
noncomputable def laws_heldKnotS.c2 : Nat → (List S80) → Int → Int → Option (Int)
 | 0,_,_,_=>none
 | k + 1,x0,x1,x5=>(if x5 < (x0.length : Int) then (if 0 ≤ x5 then (if x5 < (x0.length : Int) then (if (((rd_T80 x0 x5).f0) == (decide ((Int.tmod x1 3) = 0))) = true then (if 0 ≤ x5 then (if x5 < (x0.length : Int) then ((laws_heldIntS.f k ((rd_T80 x0 x5).f1) (w64 (x1 + 1))).bind fun t1=>(if t1 < 0 then (some ((-1))) else (laws_heldKnotS.c2 k x0 t1 (w64 (x5 + 1))))) else none) else none) else (some ((-1)))) else none) else none) else (some (x1)))
noncomputable def laws_heldKnotS.f (k : Nat) (a0 : List S80) (a1 : Int) : Option (Int):=(laws_heldKnotS.c2 k a0 a1 0)
noncomputable def laws_heldKnotS.e (r : Int) : Res Ty D:=(.sc (.int .i64 r),[],[])
noncomputable abbrev laws_heldKnotS.g (rec : List Item → St Ty D → R) (k : Nat):=go1 Tryz.f49 (laws_heldKnotS.ctx k) laws_heldKnotS.sp 0 laws_heldKnotS.en rec
set_option maxRecDepth 100000 in
theorem laws_heldKnotS.t2 (rec : List Item → St Ty D → R) (k : Nat) (x0 : List S80) (x1 : Int) (x5 : Int) : laws_heldKnotS.g rec k (td Tryz.f49 2) (laws_heldKnotS.s2 x0 x1 x5) =
 bif decide (x5 < (x0.length : Int)) then bif decide (0 ≤ x5) then bif decide (x5 < (x0.length : Int)) then bif !(((rd_T80 x0 x5).f0) == (decide ((Int.tmod x1 3) = 0))) then some (laws_heldKnotS.e ((-1))) else bif decide (0 ≤ x5) then bif decide (x5 < (x0.length : Int)) then (laws_heldIntS.f k ((rd_T80 x0 x5).f1) (w64 (x1 + 1))).bind fun t1=>bif decide (t1 < 0) then some (laws_heldKnotS.e ((-1))) else rec (td Tryz.f49 2) (laws_heldKnotS.s2 x0 t1 (w64 (x5 + 1))) else none else none else none else none else some (laws_heldKnotS.e (x1)):=by kernel_rfl
set_option maxRecDepth 100000 in
theorem laws_heldKnotS.te (rec : List Item → St Ty D → R) (k : Nat) (a0 : List S80) (a1 : Int) : laws_heldKnotS.g rec k [.code (body Tryz.f49)] (startSt [.row 0 .t80 a0,.sc (.int .i64 a1)] []) =
 rec (td Tryz.f49 2) (laws_heldKnotS.s2 a0 a1 0):=by kernel_rfl
set_option maxRecDepth 100000 in
theorem laws_heldKnotS.ok : ∀ k : Nat,(∀ (x0 : List S80) (x1 : Int) (x5 : Int),goF Tryz.f49 laws_heldKnotS.ctx laws_heldKnotS.sp 0 laws_heldKnotS.en k (td Tryz.f49 2) (laws_heldKnotS.s2 x0 x1 x5) = (laws_heldKnotS.c2 k x0 x1 x5).map laws_heldKnotS.e)
 | 0=>fun _ _ _=>rfl
 | k + 1=>by
  have ih:=laws_heldKnotS.ok k;have i2:=ih;intro x0 x1 x5;rw [laws_heldKnotS.c2];exact (laws_heldKnotS.t2 _ k x0 x1 x5).trans (cd (cd (cd (nb rfl (cd (cd (bn (fun t1=>(cd rfl (i2 _ _ _)))) rfl) rfl)) rfl) rfl) rfl)
set_option maxRecDepth 100000 in
theorem laws_heldKnotS.oke (k : Nat) (a0 : List S80) (a1 : Int) : goF Tryz.f49 laws_heldKnotS.ctx laws_heldKnotS.sp 0 laws_heldKnotS.en (k + 1) [.code (body Tryz.f49)] (startSt [.row 0 .t80 a0,.sc (.int .i64 a1)] []) = (laws_heldKnotS.f k a0 a1).map laws_heldKnotS.e:=by
 have i2:=laws_heldKnotS.ok k;rw [laws_heldKnotS.f];exact (laws_heldKnotS.te _ k a0 a1).trans (i2 _ _ _)
theorem laws_heldKnotS.con (k : Nat) (a0 : List S80) (a1 : Int) (r) (h : laws_heldKnotS.f k a0 a1 = some r) : Contract Tryz.prog kit 49 [.row 0 .t80 a0,.sc (.int .i64 a1)] [] (laws_heldKnotS.e r).1 (laws_heldKnotS.e r).2.1 (laws_heldKnotS.e r).2.2 :=
 con_okG kitOk mix (fun k=>(CtxOk.cons (laws_heldIntS.xok k) CtxOk.nil)) (laws_heldKnotS.oke k a0 a1) h (by kernel_rfl) (by kernel_rfl) (by kernel_rfl) rfl (by kernel_rfl) rfl rfl
noncomputable def laws_heldKnotS.x (k : Nat) : X:=fun ins bs κ=>match ins,bs with
 | [.row 0 .t80 a0,.sc (.int .i64 a1)],[]=>(laws_heldKnotS.f k a0 a1).bind fun r=>κ (laws_heldKnotS.e r).1 (laws_heldKnotS.e r).2.1 (laws_heldKnotS.e r).2.2
 | _,_=>none
theorem laws_heldKnotS.xok (k : Nat) : XOk 49 (laws_heldKnotS.x k):=by
 intro ins bs κ res h;unfold laws_heldKnotS.x at h
 split at h
 ·obtain ⟨r,hr,h⟩:=Option.bind_eq_some_iff.1 h;exact ⟨_,_,_,laws_heldKnotS.con k _ _ r hr,h⟩
 cases h
noncomputable def laws_heldArena.sp : Nat → Option (Spec Ty):=fun r=>none
noncomputable def laws_heldArena.en : Option (Spec Ty):=none
noncomputable def laws_heldArena.ctx (k : Nat) : Ctx Ty D:=(cons 49 (laws_heldKnotS.x k) (fun _ _ _ _=>none))
noncomputable def laws_heldArena.f (k : Nat) (a0_0 : List S80) (a1 : Int) : Option (Int):=((laws_heldKnotS.f k a0_0 a1).bind fun t1=>(if t1 < 0 then (some ((-1))) else (some (t1))))
noncomputable def laws_heldArena.e (r : Int) : Res Ty D:=(.sc (.int .i64 r),[],[])
noncomputable abbrev laws_heldArena.g (rec : List Item → St Ty D → R) (k : Nat):=go1 Tryz.f30 (laws_heldArena.ctx k) laws_heldArena.sp 0 laws_heldArena.en rec
set_option maxRecDepth 100000 in
theorem laws_heldArena.te (rec : List Item → St Ty D → R) (k : Nat) (a0_0 : List S80) (a1 : Int) : laws_heldArena.g rec k [.code (body Tryz.f30)] (startSt [.ag [.row 0 .t80 a0_0],.sc (.int .i64 a1)] []) =
 (laws_heldKnotS.f k a0_0 a1).bind fun t1=>bif decide (t1 < 0) then some (laws_heldArena.e ((-1))) else some (laws_heldArena.e (t1)):=by kernel_rfl
set_option maxRecDepth 100000 in
theorem laws_heldArena.oke (k : Nat) (a0_0 : List S80) (a1 : Int) : goF Tryz.f30 laws_heldArena.ctx laws_heldArena.sp 0 laws_heldArena.en (k + 1) [.code (body Tryz.f30)] (startSt [.ag [.row 0 .t80 a0_0],.sc (.int .i64 a1)] []) = (laws_heldArena.f k a0_0 a1).map laws_heldArena.e:=by
 rw [laws_heldArena.f];exact (laws_heldArena.te _ k a0_0 a1).trans (bn (fun t1=>(cd rfl rfl)))
theorem laws_heldArena.con (k : Nat) (a0_0 : List S80) (a1 : Int) (r) (h : laws_heldArena.f k a0_0 a1 = some r) : Contract Tryz.prog kit 30 [.ag [.row 0 .t80 a0_0],.sc (.int .i64 a1)] [] (laws_heldArena.e r).1 (laws_heldArena.e r).2.1 (laws_heldArena.e r).2.2 :=
 con_okG kitOk mix (fun k=>(CtxOk.cons (laws_heldKnotS.xok k) CtxOk.nil)) (laws_heldArena.oke k a0_0 a1) h (by kernel_rfl) (by kernel_rfl) (by kernel_rfl) rfl (by kernel_rfl) rfl rfl
noncomputable def laws_heldArena.x (k : Nat) : X:=fun ins bs κ=>match ins,bs with
 | [.ag [.row 0 .t80 a0_0],.sc (.int .i64 a1)],[]=>(laws_heldArena.f k a0_0 a1).bind fun r=>κ (laws_heldArena.e r).1 (laws_heldArena.e r).2.1 (laws_heldArena.e r).2.2
 | _,_=>none
theorem laws_heldArena.xok (k : Nat) : XOk 30 (laws_heldArena.x k):=by
 intro ins bs κ res h;unfold laws_heldArena.x at h
 split at h
 ·obtain ⟨r,hr,h⟩:=Option.bind_eq_some_iff.1 h;exact ⟨_,_,_,laws_heldArena.con k _ _ r hr,h⟩
 cases h
noncomputable def laws_heldStore.sp : Nat → Option (Spec Ty):=fun r=>none
noncomputable def laws_heldStore.en : Option (Spec Ty):=none
noncomputable def laws_heldStore.ctx (k : Nat) : Ctx Ty D:=(cons 29 (laws_heldVolS.x k) (cons 30 (laws_heldArena.x k) (fun _ _ _ _=>none)))
noncomputable def laws_heldStore.f (k : Nat) (a0_0 : List S69) (a0_1 : List S80) (a0_2 : Int) (a1 : Int) : Option (Int):=((laws_heldVolS.f k a0_0 a1).bind fun t1=>(if t1 < 0 then (some ((-1))) else ((laws_heldArena.f k a0_1 t1).bind fun t2=>(if t2 < 0 then (some ((-1))) else (some (t2))))))
noncomputable def laws_heldStore.e (r : Int) : Res Ty D:=(.sc (.int .i64 r),[],[])
noncomputable abbrev laws_heldStore.g (rec : List Item → St Ty D → R) (k : Nat):=go1 Tryz.f14 (laws_heldStore.ctx k) laws_heldStore.sp 0 laws_heldStore.en rec
set_option maxRecDepth 100000 in
theorem laws_heldStore.te (rec : List Item → St Ty D → R) (k : Nat) (a0_0 : List S69) (a0_1 : List S80) (a0_2 : Int) (a1 : Int) : laws_heldStore.g rec k [.code (body Tryz.f14)] (startSt [.ag [.row 0 .t69 a0_0,.row 0 .t80 a0_1,.sc (.int .i64 a0_2)],.sc (.int .i64 a1)] []) =
 (laws_heldVolS.f k a0_0 a1).bind fun t1=>bif decide (t1 < 0) then some (laws_heldStore.e ((-1))) else (laws_heldArena.f k a0_1 t1).bind fun t2=>bif decide (t2 < 0) then some (laws_heldStore.e ((-1))) else some (laws_heldStore.e (t2)):=by kernel_rfl
set_option maxRecDepth 100000 in
theorem laws_heldStore.oke (k : Nat) (a0_0 : List S69) (a0_1 : List S80) (a0_2 : Int) (a1 : Int) : goF Tryz.f14 laws_heldStore.ctx laws_heldStore.sp 0 laws_heldStore.en (k + 1) [.code (body Tryz.f14)] (startSt [.ag [.row 0 .t69 a0_0,.row 0 .t80 a0_1,.sc (.int .i64 a0_2)],.sc (.int .i64 a1)] []) = (laws_heldStore.f k a0_0 a0_1 a0_2 a1).map laws_heldStore.e:=by
 rw [laws_heldStore.f];exact (laws_heldStore.te _ k a0_0 a0_1 a0_2 a1).trans (bn (fun t1=>(cd rfl (bn (fun t2=>(cd rfl rfl))))))
theorem laws_heldStore.con (k : Nat) (a0_0 : List S69) (a0_1 : List S80) (a0_2 : Int) (a1 : Int) (r) (h : laws_heldStore.f k a0_0 a0_1 a0_2 a1 = some r) : Contract Tryz.prog kit 14 [.ag [.row 0 .t69 a0_0,.row 0 .t80 a0_1,.sc (.int .i64 a0_2)],.sc (.int .i64 a1)] [] (laws_heldStore.e r).1 (laws_heldStore.e r).2.1 (laws_heldStore.e r).2.2 :=
 con_okG kitOk mix (fun k=>(CtxOk.cons (laws_heldVolS.xok k) (CtxOk.cons (laws_heldArena.xok k) CtxOk.nil))) (laws_heldStore.oke k a0_0 a0_1 a0_2 a1) h (by kernel_rfl) (by kernel_rfl) (by kernel_rfl) rfl (by kernel_rfl) rfl rfl
noncomputable def laws_heldStore.x (k : Nat) : X:=fun ins bs κ=>match ins,bs with
 | [.ag [.row 0 .t69 a0_0,.row 0 .t80 a0_1,.sc (.int .i64 a0_2)],.sc (.int .i64 a1)],[]=>(laws_heldStore.f k a0_0 a0_1 a0_2 a1).bind fun r=>κ (laws_heldStore.e r).1 (laws_heldStore.e r).2.1 (laws_heldStore.e r).2.2
 | _,_=>none
theorem laws_heldStore.xok (k : Nat) : XOk 14 (laws_heldStore.x k):=by
 intro ins bs κ res h;unfold laws_heldStore.x at h
 split at h
 ·obtain ⟨r,hr,h⟩:=Option.bind_eq_some_iff.1 h;exact ⟨_,_,_,laws_heldStore.con k _ _ _ _ r hr,h⟩
 cases h
noncomputable def laws_FnExactEnterAll.sp : Nat → Option (Spec Ty):=fun r=>none
noncomputable def laws_FnExactEnterAll.en : Option (Spec Ty):=none
noncomputable def laws_FnExactEnterAll.ctx (k : Nat) : Ctx Ty D:=(cons 4 (laws_szStore.x k) (cons 5 (laws_szRecS.x k) (cons 6 (spec_EnterAll.x k) (cons 7 (laws_toStore.x k) (cons 8 (laws_toRecS.x k) (cons 9 (impl_EnterAll.x k) (cons 10 (laws_eqStore.x k) (cons 11 (laws_eqRecS.x k) (cons 12 (laws_markStore.x k) (cons 13 (laws_markRecS.x k) (cons 14 (laws_heldStore.x k) (fun _ _ _ _=>none))))))))))))
noncomputable def laws_FnExactEnterAll.f (k : Nat) (a0_0 : List S71) (a0_1 : List S79) (a0_2 : Int) (a1 : List S56) : Option (Bool):=((laws_szStore.f k a0_0 a0_1 a0_2 1048576).bind fun t1=>(if t1 < 0 then (some (true)) else ((laws_szRecS.f k a1 t1).bind fun t2=>(if t2 < 0 then (some (true)) else ((laws_toStore.f k a0_0 a0_1 a0_2).bind fun t3=>((laws_toRecS.f k a1).bind fun t4=>((spec_EnterAll.f k t3.1 t3.2.1 t3.2.2 t4).bind fun t5=>((laws_toStore.f k a0_0 a0_1 a0_2).bind fun t6=>((laws_toRecS.f k a1).bind fun t7=>((impl_EnterAll.f k t6.1 t6.2.1 t6.2.2 t7).bind fun t8=>((laws_eqStore.f k t8.1 t8.2.1 t8.2.2.1 t5.1 t5.2.1 t5.2.2.1).bind fun t9=>(if t9 = true then (if (t8.2.2.2 == t5.2.2.2) = true then ((laws_toStore.f k a0_0 a0_1 a0_2).bind fun t10=>((laws_eqStore.f k t6.1 t6.2.1 t6.2.2 t10.1 t10.2.1 t10.2.2).bind fun t11=>(if t11 = true then ((laws_toRecS.f k a1).bind fun t12=>((laws_eqRecS.f k t7 t12).bind fun t13=>(if t13 = true then ((laws_markStore.f k t6.2.2 1 t6.1 t6.2.1).bind fun t14=>((laws_markRecS.f k t14.1 t7).bind fun t15=>(if t15.1 < 0 then (some (false)) else ((laws_eqStore.f k t8.1 t8.2.1 t8.2.2.1 t5.1 t5.2.1 t5.2.2.1).bind fun t16=>(if t16 = true then (if (t8.2.2.2 == t5.2.2.2) = true then ((laws_markStore.f k t8.2.2.1 1 t8.1 t8.2.1).bind fun t17=>((laws_heldStore.f k t17.2.1 t17.2.2 t8.2.2.1 1).bind fun t18=>(if t18 < 0 then (some (false)) else (if t18 = t17.1 then ((laws_toStore.f k a0_0 a0_1 a0_2).bind fun t19=>((laws_toRecS.f k a1).bind fun t20=>((impl_EnterAll.f k t19.1 t19.2.1 t19.2.2 t20).bind fun t21=>((laws_eqStore.f k t21.1 t21.2.1 t21.2.2.1 t5.1 t5.2.1 t5.2.2.1).bind fun t22=>(if t22 = true then (if (t21.2.2.2 == t5.2.2.2) = true then ((laws_heldStore.f k t17.2.1 t17.2.2 t8.2.2.1 1).bind fun t23=>(if t23 < 0 then (some (false)) else (if t23 = t17.1 then (some (true)) else (some (false))))) else (some (false))) else (some (false))))))) else (some (false)))))) else (some (false))) else (some (false))))))) else (some (false))))) else (some (false))))) else (some (false))) else (some (false))))))))))))))
noncomputable def laws_FnExactEnterAll.e (r : Bool) : Res Ty D:=(.sc (.bool r),[],[])
noncomputable abbrev laws_FnExactEnterAll.g (rec : List Item → St Ty D → R) (k : Nat):=go1 Tryz.f3 (laws_FnExactEnterAll.ctx k) laws_FnExactEnterAll.sp 0 laws_FnExactEnterAll.en rec
set_option maxRecDepth 100000 in
theorem laws_FnExactEnterAll.te (rec : List Item → St Ty D → R) (k : Nat) (a0_0 : List S71) (a0_1 : List S79) (a0_2 : Int) (a1 : List S56) : laws_FnExactEnterAll.g rec k [.code (body Tryz.f3)] (startSt [.ag [.row 0 .t71 a0_0,.row 0 .t79 a0_1,.sc (.int .i64 a0_2)],.row 0 .t56 a1] []) =
 (laws_szStore.f k a0_0 a0_1 a0_2 1048576).bind fun t1=>bif decide (t1 < 0) then some (laws_FnExactEnterAll.e (true)) else (laws_szRecS.f k a1 t1).bind fun t2=>bif decide (t2 < 0) then some (laws_FnExactEnterAll.e (true)) else (laws_toStore.f k a0_0 a0_1 a0_2).bind fun t3=>(laws_toRecS.f k a1).bind fun t4=>(spec_EnterAll.f k t3.1 t3.2.1 t3.2.2 t4).bind fun t5=>(laws_toStore.f k a0_0 a0_1 a0_2).bind fun t6=>(laws_toRecS.f k a1).bind fun t7=>(impl_EnterAll.f k t6.1 t6.2.1 t6.2.2 t7).bind fun t8=>(laws_eqStore.f k t8.1 t8.2.1 t8.2.2.1 t5.1 t5.2.1 t5.2.2.1).bind fun t9=>bif !t9 then some (laws_FnExactEnterAll.e (false)) else bif !(t8.2.2.2 == t5.2.2.2) then some (laws_FnExactEnterAll.e (false)) else (laws_toStore.f k a0_0 a0_1 a0_2).bind fun t10=>(laws_eqStore.f k t6.1 t6.2.1 t6.2.2 t10.1 t10.2.1 t10.2.2).bind fun t11=>bif !t11 then some (laws_FnExactEnterAll.e (false)) else (laws_toRecS.f k a1).bind fun t12=>(laws_eqRecS.f k t7 t12).bind fun t13=>bif !t13 then some (laws_FnExactEnterAll.e (false)) else (laws_markStore.f k t6.2.2 1 t6.1 t6.2.1).bind fun t14=>(laws_markRecS.f k t14.1 t7).bind fun t15=>bif decide (t15.1 < 0) then some (laws_FnExactEnterAll.e (false)) else (laws_eqStore.f k t8.1 t8.2.1 t8.2.2.1 t5.1 t5.2.1 t5.2.2.1).bind fun t16=>bif !t16 then some (laws_FnExactEnterAll.e (false)) else bif !(t8.2.2.2 == t5.2.2.2) then some (laws_FnExactEnterAll.e (false)) else (laws_markStore.f k t8.2.2.1 1 t8.1 t8.2.1).bind fun t17=>(laws_heldStore.f k t17.2.1 t17.2.2 t8.2.2.1 1).bind fun t18=>bif decide (t18 < 0) then some (laws_FnExactEnterAll.e (false)) else bif !decide (t18 = t17.1) then some (laws_FnExactEnterAll.e (false)) else (laws_toStore.f k a0_0 a0_1 a0_2).bind fun t19=>(laws_toRecS.f k a1).bind fun t20=>(impl_EnterAll.f k t19.1 t19.2.1 t19.2.2 t20).bind fun t21=>(laws_eqStore.f k t21.1 t21.2.1 t21.2.2.1 t5.1 t5.2.1 t5.2.2.1).bind fun t22=>bif !t22 then some (laws_FnExactEnterAll.e (false)) else bif !(t21.2.2.2 == t5.2.2.2) then some (laws_FnExactEnterAll.e (false)) else (laws_heldStore.f k t17.2.1 t17.2.2 t8.2.2.1 1).bind fun t23=>bif decide (t23 < 0) then some (laws_FnExactEnterAll.e (false)) else bif !decide (t23 = t17.1) then some (laws_FnExactEnterAll.e (false)) else some (laws_FnExactEnterAll.e (true)):=by kernel_rfl
set_option maxRecDepth 100000 in
theorem laws_FnExactEnterAll.oke (k : Nat) (a0_0 : List S71) (a0_1 : List S79) (a0_2 : Int) (a1 : List S56) : goF Tryz.f3 laws_FnExactEnterAll.ctx laws_FnExactEnterAll.sp 0 laws_FnExactEnterAll.en (k + 1) [.code (body Tryz.f3)] (startSt [.ag [.row 0 .t71 a0_0,.row 0 .t79 a0_1,.sc (.int .i64 a0_2)],.row 0 .t56 a1] []) = (laws_FnExactEnterAll.f k a0_0 a0_1 a0_2 a1).map laws_FnExactEnterAll.e:=by
 rw [laws_FnExactEnterAll.f];exact (laws_FnExactEnterAll.te _ k a0_0 a0_1 a0_2 a1).trans (bn (fun t1=>(cd rfl (bn (fun t2=>(cd rfl (bn (fun t3=>(bn (fun t4=>(bn (fun t5=>(bn (fun t6=>(bn (fun t7=>(bn (fun t8=>(bn (fun t9=>(nb rfl (nb rfl (bn (fun t10=>(bn (fun t11=>(nb rfl (bn (fun t12=>(bn (fun t13=>(nb rfl (bn (fun t14=>(bn (fun t15=>(cd rfl (bn (fun t16=>(nb rfl (nb rfl (bn (fun t17=>(bn (fun t18=>(cd rfl (nd rfl (bn (fun t19=>(bn (fun t20=>(bn (fun t21=>(bn (fun t22=>(nb rfl (nb rfl (bn (fun t23=>(cd rfl (nd rfl rfl)))))))))))))))))))))))))))))))))))))))))))))))))))))))))))))
theorem laws_FnExactEnterAll.con (k : Nat) (a0_0 : List S71) (a0_1 : List S79) (a0_2 : Int) (a1 : List S56) (r) (h : laws_FnExactEnterAll.f k a0_0 a0_1 a0_2 a1 = some r) : Contract Tryz.prog kit 3 [.ag [.row 0 .t71 a0_0,.row 0 .t79 a0_1,.sc (.int .i64 a0_2)],.row 0 .t56 a1] [] (laws_FnExactEnterAll.e r).1 (laws_FnExactEnterAll.e r).2.1 (laws_FnExactEnterAll.e r).2.2 :=
 con_okG kitOk mix (fun k=>(CtxOk.cons (laws_szStore.xok k) (CtxOk.cons (laws_szRecS.xok k) (CtxOk.cons (spec_EnterAll.xok k) (CtxOk.cons (laws_toStore.xok k) (CtxOk.cons (laws_toRecS.xok k) (CtxOk.cons (impl_EnterAll.xok k) (CtxOk.cons (laws_eqStore.xok k) (CtxOk.cons (laws_eqRecS.xok k) (CtxOk.cons (laws_markStore.xok k) (CtxOk.cons (laws_markRecS.xok k) (CtxOk.cons (laws_heldStore.xok k) CtxOk.nil)))))))))))) (laws_FnExactEnterAll.oke k a0_0 a0_1 a0_2 a1) h (by kernel_rfl) (by kernel_rfl) (by kernel_rfl) rfl (by kernel_rfl) rfl rfl
noncomputable def laws_FnExactEnterAll.x (k : Nat) : X:=fun ins bs κ=>match ins,bs with
 | [.ag [.row 0 .t71 a0_0,.row 0 .t79 a0_1,.sc (.int .i64 a0_2)],.row 0 .t56 a1],[]=>(laws_FnExactEnterAll.f k a0_0 a0_1 a0_2 a1).bind fun r=>κ (laws_FnExactEnterAll.e r).1 (laws_FnExactEnterAll.e r).2.1 (laws_FnExactEnterAll.e r).2.2
 | _,_=>none
theorem laws_FnExactEnterAll.xok (k : Nat) : XOk 3 (laws_FnExactEnterAll.x k):=by
 intro ins bs κ res h;unfold laws_FnExactEnterAll.x at h
 split at h
 ·obtain ⟨r,hr,h⟩:=Option.bind_eq_some_iff.1 h;exact ⟨_,_,_,laws_FnExactEnterAll.con k _ _ _ _ r hr,h⟩
 cases h
end Go.Proofs.YteideicglgpfiaaGreat.M2

namespace Go.Proofs.YteideicglgpfiaaGreat.PK
open Go Go.RowKit Go.Proofs.YteideicglgpfiaaGreatW.PrintWords Go.Proofs.YteideicglgpfiaaGreatW.PrintLast Go.Proofs.YteideicglgpfiaaGreatW.PrintMore
set_option linter.unusedVariables false
def laws_szVolS.f (l0 : List (S71)) (a1 : Int) : Option (Int):=if (wrap64 (a1 - (l0.length : Int))) < 0 then (some (-1)) else (some (wrap64 (a1 - (l0.length : Int))))
def laws_szIntS.f (l0 : List Int) (a1 : Int) : Option (Int):=if (wrap64 (a1 - (l0.length : Int))) < 0 then (some (-1)) else (some (wrap64 (a1 - (l0.length : Int))))
def laws_szKnot.f (a0_0 : Bool) (l0_1 : List Int) (a1 : Int) : Option (Int):=(laws_szIntS.f l0_1 a1).bind fun t102=>(if t102 < 0 then (some (-1)) else (some t102))
def laws_szKnotS.l0 : Nat → List (S79) → Int → Int → Option (Int)
 | 0,_,_,_=>none
 | k + 1,x0,x1,x5=>if x5 < (x0.length : Int) then (if 0 ≤ x5 then ((laws_szKnot.f ((rd_T79 x0 x5).f0) ((rd_T79 x0 x5).f1) x1).bind fun t104=>(if t104 < 0 then (some (-1)) else (laws_szKnotS.l0 k x0 t104 (wrap64 (x5 + 1))))) else (none)) else (some x1)
def laws_szKnotS.f (k : Nat) (l0 : List (S79)) (a1 : Int) : Option (Int):=if (wrap64 (a1 - (l0.length : Int))) < 0 then (some (-1)) else (laws_szKnotS.l0 k l0 (wrap64 (a1 - (l0.length : Int))) 0)
def laws_szArena.f (k : Nat) (l0_0 : List (S79)) (a1 : Int) : Option (Int):=(laws_szKnotS.f k l0_0 a1).bind fun t106=>(if t106 < 0 then (some (-1)) else (some t106))
def laws_szStore.f (k : Nat) (l0_0 : List (S71)) (l0_1 : List (S79)) (a0_2 : Int) (a1 : Int) : Option (Int):=(laws_szVolS.f l0_0 a1).bind fun t108=>(if t108 < 0 then (some (-1)) else ((laws_szArena.f k l0_1 t108).bind fun t109=>(if t109 < 0 then (some (-1)) else (some t109))))
def laws_toVol.f (a0_0 : Int) (a0_1 : Int) : Option (Int × Int):=some (a0_0,a0_1)
def laws_toVolS.l0 : Nat → List (S71) → List (S69) → Int → Option ((List (S69)))
 | 0,_,_,_=>none
 | k + 1,x0,x3,x4=>if x4 < (x0.length : Int) then (if 0 ≤ x4 then ((laws_toVol.f ((rd_T71 x0 x4).f0) ((rd_T71 x0 x4).f1)).bind fun bt481=>(if x4 < (x3.length : Int) then (laws_toVolS.l0 k x0 (x3.set (x4 : Int).toNat (⟨bt481.1,bt481.2⟩ : S69)) (wrap64 (x4 + 1))) else (none))) else (none)) else (some x3)
def laws_toVolS.f (k : Nat) (l0 : List (S71)) : Option ((List (S69))):=if 0 ≤ (l0.length : Int) then (if ((l0.length : Int) : Int).toNat ≤ 17592186044416 then (laws_toVolS.l0 k l0 (List.replicate ((l0.length : Int) : Int).toNat z69) 0) else (none)) else (none)
def laws_toIntS.l0 : Nat → List Int → List Int → Int → Option (List Int)
 | 0,_,_,_=>none
 | k + 1,x0,x3,x4=>if x4 < (x0.length : Int) then (if 0 ≤ x4 then (if x4 < (x3.length : Int) then (laws_toIntS.l0 k x0 (x3.set (x4 : Int).toNat (rd x0 x4)) (wrap64 (x4 + 1))) else (none)) else (none)) else (some x3)
def laws_toIntS.f (k : Nat) (l0 : List Int) : Option (List Int):=if 0 ≤ (l0.length : Int) then (if ((l0.length : Int) : Int).toNat ≤ 35184372088832 then (laws_toIntS.l0 k l0 (List.replicate ((l0.length : Int) : Int).toNat 0) 0) else (none)) else (none)
def laws_toKnot.f (k : Nat) (a0_0 : Bool) (l0_1 : List Int) : Option (Bool × List Int):=(laws_toIntS.f k l0_1).bind fun t492=>(some (a0_0,t492))
def laws_toKnotS.l0 : Nat → List (S79) → List (S80) → Int → Option ((List (S80)))
 | 0,_,_,_=>none
 | k + 1,x0,x3,x4=>if x4 < (x0.length : Int) then (if 0 ≤ x4 then ((laws_toKnot.f k ((rd_T79 x0 x4).f0) ((rd_T79 x0 x4).f1)).bind fun bt499=>(if x4 < (x3.length : Int) then (laws_toKnotS.l0 k x0 (x3.set (x4 : Int).toNat (⟨bt499.1,bt499.2⟩ : S80)) (wrap64 (x4 + 1))) else (none))) else (none)) else (some x3)
def laws_toKnotS.f (k : Nat) (l0 : List (S79)) : Option ((List (S80))):=if 0 ≤ (l0.length : Int) then (if ((l0.length : Int) : Int).toNat ≤ 8796093022208 then (laws_toKnotS.l0 k l0 (List.replicate ((l0.length : Int) : Int).toNat z80) 0) else (none)) else (none)
def laws_toArena.f (k : Nat) (l0_0 : List (S79)) : Option ((List (S80))):=(laws_toKnotS.f k l0_0).bind fun t507=>(some t507)
def laws_toStore.f (k : Nat) (l0_0 : List (S71)) (l0_1 : List (S79)) (a0_2 : Int) : Option ((List (S69)) × (List (S80)) × Int):=(laws_toVolS.f k l0_0).bind fun t513=>((laws_toArena.f k l0_1).bind fun t516=>(some (t513,t516,a0_2)))
def laws_eqVol.f (a0_0 : Int) (a0_1 : Int) (a1_0 : Int) (a1_1 : Int) : Option (Bool):=if a0_0 = a1_0 then (if a0_1 = a1_1 then (some true) else (some false)) else (some false)
def laws_eqVolS.l0 : Nat → List (S69) → List (S69) → Int → Option (Bool)
 | 0,_,_,_=>none
 | k + 1,x0,x1,x5=>if x5 < (x0.length : Int) then (if 0 ≤ x5 then (if x5 < (x1.length : Int) then ((laws_eqVol.f ((rd_T69 x0 x5).f0) ((rd_T69 x0 x5).f1) ((rd_T69 x1 x5).f0) ((rd_T69 x1 x5).f1)).bind fun t772=>(if t772 = true then (laws_eqVolS.l0 k x0 x1 (wrap64 (x5 + 1))) else (some false))) else (none)) else (none)) else (some true)
def laws_eqVolS.f (k : Nat) (l0 : List (S69)) (l1 : List (S69)) : Option (Bool):=if (l0.length : Int) = (l1.length : Int) then (laws_eqVolS.l0 k l0 l1 0) else (some false)
def laws_eqIntS.l0 : Nat → List Int → List Int → Int → Option (Bool)
 | 0,_,_,_=>none
 | k + 1,x0,x1,x5=>if x5 < (x0.length : Int) then (if 0 ≤ x5 then (if x5 < (x1.length : Int) then (if (rd x0 x5) = (rd x1 x5) then (laws_eqIntS.l0 k x0 x1 (wrap64 (x5 + 1))) else (some false)) else (none)) else (none)) else (some true)
def laws_eqIntS.f (k : Nat) (l0 : List Int) (l1 : List Int) : Option (Bool):=if (l0.length : Int) = (l1.length : Int) then (laws_eqIntS.l0 k l0 l1 0) else (some false)
def laws_eqKnot.f (k : Nat) (a0_0 : Bool) (l0_1 : List Int) (a1_0 : Bool) (l1_1 : List Int) : Option (Bool):=if (a0_0 != a1_0) = true then (some false) else ((laws_eqIntS.f k l0_1 l1_1).bind fun t777=>(if t777 = true then (some true) else (some false)))
def laws_eqKnotS.l0 : Nat → List (S80) → List (S80) → Int → Option (Bool)
 | 0,_,_,_=>none
 | k + 1,x0,x1,x5=>if x5 < (x0.length : Int) then (if 0 ≤ x5 then (if x5 < (x1.length : Int) then ((laws_eqKnot.f k ((rd_T80 x0 x5).f0) ((rd_T80 x0 x5).f1) ((rd_T80 x1 x5).f0) ((rd_T80 x1 x5).f1)).bind fun t780=>(if t780 = true then (laws_eqKnotS.l0 k x0 x1 (wrap64 (x5 + 1))) else (some false))) else (none)) else (none)) else (some true)
def laws_eqKnotS.f (k : Nat) (l0 : List (S80)) (l1 : List (S80)) : Option (Bool):=if (l0.length : Int) = (l1.length : Int) then (laws_eqKnotS.l0 k l0 l1 0) else (some false)
def laws_eqArena.f (k : Nat) (l0_0 : List (S80)) (l1_0 : List (S80)) : Option (Bool):=(laws_eqKnotS.f k l0_0 l1_0).bind fun t783=>(if t783 = true then (some true) else (some false))
def laws_eqStore.f (k : Nat) (l0_0 : List (S69)) (l0_1 : List (S80)) (a0_2 : Int) (l1_0 : List (S69)) (l1_1 : List (S80)) (a1_2 : Int) : Option (Bool):=(laws_eqVolS.f k l0_0 l1_0).bind fun t786=>(if t786 = true then ((laws_eqArena.f k l0_1 l1_1).bind fun t787=>(if t787 = true then (if a0_2 = a1_2 then (some true) else (some false)) else (some false))) else (some false))
def laws_szRecS.f (l0 : List (S56)) (a1 : Int) : Option (Int):=if (wrap64 (a1 - (l0.length : Int))) < 0 then (some (-1)) else (some (wrap64 (a1 - (l0.length : Int))))
def laws_toRec.f (a0_0 : Int) (a0_1 : Int) (a0_2 : Int) (a0_3 : Int) : Option (Int × Int × Int × Int):=some (a0_0,a0_1,a0_2,a0_3)
def laws_toRecS.l0 : Nat → List (S56) → List (S52) → Int → Option ((List (S52)))
 | 0,_,_,_=>none
 | k + 1,x0,x3,x4=>if x4 < (x0.length : Int) then (if 0 ≤ x4 then ((laws_toRec.f ((rd_T56 x0 x4).f0) ((rd_T56 x0 x4).f1) ((rd_T56 x0 x4).f2) ((rd_T56 x0 x4).f3)).bind fun bt526=>(if x4 < (x3.length : Int) then (laws_toRecS.l0 k x0 (x3.set (x4 : Int).toNat (⟨bt526.1,bt526.2.1,bt526.2.2.1,bt526.2.2.2⟩ : S52)) (wrap64 (x4 + 1))) else (none))) else (none)) else (some x3)
def laws_toRecS.f (k : Nat) (l0 : List (S56)) : Option ((List (S52))):=if 0 ≤ (l0.length : Int) then (if ((l0.length : Int) : Int).toNat ≤ 8796093022208 then (laws_toRecS.l0 k l0 (List.replicate ((l0.length : Int) : Int).toNat z52) 0) else (none)) else (none)
def laws_eqRec.f (a0_0 : Int) (a0_1 : Int) (a0_2 : Int) (a0_3 : Int) (a1_0 : Int) (a1_1 : Int) (a1_2 : Int) (a1_3 : Int) : Option (Bool):=if a0_0 = a1_0 then (if a0_1 = a1_1 then (if a0_2 = a1_2 then (if a0_3 = a1_3 then (some true) else (some false)) else (some false)) else (some false)) else (some false)
def laws_eqRecS.l0 : Nat → List (S52) → List (S52) → Int → Option (Bool)
 | 0,_,_,_=>none
 | k + 1,x0,x1,x5=>if x5 < (x0.length : Int) then (if 0 ≤ x5 then (if x5 < (x1.length : Int) then ((laws_eqRec.f ((rd_T52 x0 x5).f0) ((rd_T52 x0 x5).f1) ((rd_T52 x0 x5).f2) ((rd_T52 x0 x5).f3) ((rd_T52 x1 x5).f0) ((rd_T52 x1 x5).f1) ((rd_T52 x1 x5).f2) ((rd_T52 x1 x5).f3)).bind fun t792=>(if t792 = true then (laws_eqRecS.l0 k x0 x1 (wrap64 (x5 + 1))) else (some false))) else (none)) else (none)) else (some true)
def laws_eqRecS.f (k : Nat) (l0 : List (S52)) (l1 : List (S52)) : Option (Bool):=if (l0.length : Int) = (l1.length : Int) then (laws_eqRecS.l0 k l0 l1 0) else (some false)
def spec_l01In.f (a0 : Int) (a1 : Int) (a2 : Int) : Option (Bool):=if a0 ≥ a1 then (some (decide (a0 ≤ a2))) else (some false)
mutual
def spec_ArenaOk.l0 : Nat → Int → List (S80) → Option (Bool)
 | 0,_,_=>none
 | k + 1,x3,x136000=>if x3 < (x136000.length : Int) then (if 0 ≤ x3 then (if (((rd_T80 x136000 x3).f1).length : Int) = 4 then (spec_ArenaOk.l1 k x3 0 x136000 ((rd_T80 x136000 x3).f0) ((rd_T80 x136000 x3).f1)) else (some false)) else (none)) else (some true)
def spec_ArenaOk.l1 : Nat → Int → Int → List (S80) → Bool → List Int → Option (Bool)
 | 0,_,_,_,_,_=>none
 | k + 1,x3,x5,x136000,x138000,x138001=>if x5 < 4 then (if 0 ≤ x5 then (if x5 < (x138001.length : Int) then (if x138000 = true then (if (rd x138001 x5) < 0 then (some false) else (spec_ArenaOk.l1 k x3 (wrap64 (x5 + 1)) x136000 x138000 x138001)) else (if (rd x138001 x5) = (-1) then (spec_ArenaOk.l1 k x3 (wrap64 (x5 + 1)) x136000 x138000 x138001) else ((spec_l01In.f (rd x138001 x5) 0 (wrap64 (x3 - 1))).bind fun t139=>(if t139 = true then (if 0 ≤ (rd x138001 x5) then (if (rd x138001 x5) < (x136000.length : Int) then (if ((rd_T80 x136000 (rd x138001 x5)).f0 = true) then (spec_ArenaOk.l1 k x3 (wrap64 (x5 + 1)) x136000 x138000 x138001) else (some false)) else (none)) else (none)) else (some false))))) else (none)) else (none)) else (spec_ArenaOk.l0 k (wrap64 (x3 + 1)) x136000)
end
def spec_ArenaOk.f (k : Nat) (l0_0 : List (S80)) : Option (Bool):=spec_ArenaOk.l0 k 0 l0_0
def spec_RecOk.j0 : Nat → Bool → Int → Int → Int → Int → Option (Bool)
 | 0,_,_,_,_,_=>none
 | k + 1,x37,x239000,x239001,x239002,x239003=>if x37 = true then (some false) else (if x239000 = 2 then (some (decide (x239002 ≤ 9))) else (if x239000 = 3 then (some (x239002 == 0)) else (if x239000 = 4 then (if x239002 < 16 then ((spec_l01In.f x239003 1 1000000000).bind fun t242=>(some t242)) else (some false)) else (some (decide (x239002 < 16))))))
def spec_RecOk.f (k : Nat) (a0_0 : Int) (a0_1 : Int) (a0_2 : Int) (a0_3 : Int) : Option (Bool):=(spec_l01In.f a0_2 0 1000000000).bind fun t239=>(if t239 = true then (if a0_0 = 1 then (if a0_1 = 0 then (some (a0_3 == 0)) else (some false)) else ((spec_l01In.f a0_0 2 5).bind fun t240=>(if t240 = true then ((spec_l01In.f a0_1 1 9).bind fun t241=>(if t241 = true then (if a0_0 = 4 then (spec_RecOk.j0 k false a0_0 a0_1 a0_2 a0_3) else (spec_RecOk.j0 k (a0_3 != 0) a0_0 a0_1 a0_2 a0_3)) else (spec_RecOk.j0 k true a0_0 a0_1 a0_2 a0_3))) else (spec_RecOk.j0 k true a0_0 a0_1 a0_2 a0_3)))) else (some false))
def spec_l11Copy.l0 : Nat → Int → List (S80) → List (S80) → Option ((List (S80)))
 | 0,_,_,_=>none
 | k + 1,x4,x111000,x113000=>if x4 < (x111000.length : Int) then (if 0 ≤ x4 then ((some (([] : List Int) : List Int)).bind fun y114=>(if y114.length + ((rd_T80 x111000 x4).f1).length < 17592186044416 then (if x113000.length < 4398046511104 then (spec_l11Copy.l0 k (wrap64 (x4 + 1)) x111000 (x113000 ++ [(⟨(rd_T80 x111000 x4).f0,(y114 ++ ((rd_T80 x111000 x4).f1))⟩ : S80)])) else (none)) else (none))) else (none)) else (some x113000)
def spec_l11Copy.f (k : Nat) (l0_0 : List (S80)) : Option ((List (S80))):=spec_l11Copy.l0 k 0 l0_0 ([] : List (S80))
def spec_l11Root.f (l0_0 : List (S80)) (a1 : Int) : Option (Bool):=if a1 = (-1) then (some true) else ((spec_l01In.f a1 0 (wrap64 ((l0_0.length : Int) - 1))).bind fun t142=>(if t142 = true then (if 0 ≤ a1 then (if a1 < (l0_0.length : Int) then (some (!((rd_T80 l0_0 a1).f0))) else (none)) else (none)) else (some false)))
def spec_l11Get.f (l0_0 : List (S80)) (a1 : Int) (a2 : Int) : Option (Int):=if a1 < 0 then (some 0) else (if 0 ≤ a1 then (if a1 < (l0_0.length : Int) then (if 0 ≤ (wrap64 (Int.tdiv a2 4)) then (if (wrap64 (Int.tdiv a2 4)) < (((rd_T80 l0_0 a1).f1).length : Int) then (if (rd ((rd_T80 l0_0 a1).f1) (wrap64 (Int.tdiv a2 4))) < 0 then (some 0) else (if 0 ≤ (rd ((rd_T80 l0_0 a1).f1) (wrap64 (Int.tdiv a2 4))) then (if (rd ((rd_T80 l0_0 a1).f1) (wrap64 (Int.tdiv a2 4))) < (l0_0.length : Int) then (if 0 ≤ (Int.tmod a2 4) then (if (Int.tmod a2 4) < (((rd_T80 l0_0 (rd ((rd_T80 l0_0 a1).f1) (wrap64 (Int.tdiv a2 4)))).f1).length : Int) then (some (rd ((rd_T80 l0_0 (rd ((rd_T80 l0_0 a1).f1) (wrap64 (Int.tdiv a2 4)))).f1) (Int.tmod a2 4))) else (none)) else (none)) else (none)) else (none))) else (none)) else (none)) else (none)) else (none))
def spec_l12At.l0 : Nat → Int → Int → List (S69) → List (S80) → Int → Option (Int)
 | 0,_,_,_,_,_=>none
 | k + 1,x1,x5,x244000,x244001,x244002=>if x5 < (x244000.length : Int) then (if 0 ≤ x5 then (if ((rd_T69 x244000 x5).f0) = x1 then (some x5) else (spec_l12At.l0 k x1 (wrap64 (x5 + 1)) x244000 x244001 x244002)) else (none)) else (some (-1))
def spec_l12At.f (k : Nat) (l0_0 : List (S69)) (l0_1 : List (S80)) (a0_2 : Int) (a1 : Int) : Option (Int):=spec_l12At.l0 k a1 0 l0_0 l0_1 a0_2
def spec_l11Has.l0 : Nat → Int → List Bool → Int → List (S80) → Option (List Bool)
 | 0,_,_,_,_=>none
 | k + 1,x1,x5,x6,x150000=>if x6 < 4 then (if 0 ≤ x1 then (if x1 < (x150000.length : Int) then (if 0 ≤ x6 then (if x6 < (((rd_T80 x150000 x1).f1).length : Int) then (if (rd ((rd_T80 x150000 x1).f1) x6) ≥ 0 then (if 0 ≤ (rd ((rd_T80 x150000 x1).f1) x6) then (if (rd ((rd_T80 x150000 x1).f1) x6) < (x5.length : Int) then (spec_l11Has.l0 k x1 (x5.set ((rd ((rd_T80 x150000 x1).f1) x6) : Int).toNat true) (wrap64 (x6 + 1)) x150000) else (none)) else (none)) else (spec_l11Has.l0 k x1 x5 (wrap64 (x6 + 1)) x150000)) else (none)) else (none)) else (none)) else (none)) else (some x5)
def spec_l11Has.f (k : Nat) (l0_0 : List (S80)) (a1 : Int) : Option (List Bool):=if 0 ≤ (l0_0.length : Int) then (if ((l0_0.length : Int) : Int).toNat ≤ 281474976710656 then ((some (List.replicate ((l0_0.length : Int) : Int).toNat false : List Bool)).bind fun y150=>(if a1 < 0 then (some y150) else (if 0 ≤ a1 then (if a1 < (y150.length : Int) then (spec_l11Has.l0 k a1 (y150.set (a1 : Int).toNat true) 0 l0_0) else (none)) else (none)))) else (none)) else (none)
mutual
def spec_SweepArena.j1 : Nat → List Int → List Int → Bool → List (S80) → Option ((List (S80)) × List Int)
 | 0,_,_,_,_=>none
 | k + 1,x1,x6,x7,x160000=>if x7 = true then (if 0 ≤ (x160000.length : Int) then (if ((x160000.length : Int) : Int).toNat ≤ 281474976710656 then (spec_SweepArena.l1 k x1 x6 (List.replicate ((x160000.length : Int) : Int).toNat false) 0 x160000) else (none)) else (none)) else ((spec_l11Copy.f k x160000).bind fun t170=>(some (t170,x6)))
def spec_SweepArena.l1 : Nat → List Int → List Int → List Bool → Int → List (S80) → Option ((List (S80)) × List Int)
 | 0,_,_,_,_,_=>none
 | k + 1,x1,x6,x9,x10,x160000=>if x10 < (x1.length : Int) then (if 0 ≤ x10 then ((spec_l11Has.f k x160000 (rd x1 x10)).bind fun t177=>(spec_SweepArena.l2 k x1 x6 x9 x10 t177 0 x160000)) else (none)) else (if 0 ≤ (x160000.length : Int) then (if ((x160000.length : Int) : Int).toNat ≤ 35184372088832 then (spec_SweepArena.l3 k x6 x9 (List.replicate ((x160000.length : Int) : Int).toNat 0) 0 x160000 ([] : List (S80))) else (none)) else (none))
def spec_SweepArena.l2 : Nat → List Int → List Int → List Bool → Int → List Bool → Int → List (S80) → Option ((List (S80)) × List Int)
 | 0,_,_,_,_,_,_,_=>none
 | k + 1,x1,x6,x9,x10,x11,x12,x160000=>if x12 < (x11.length : Int) then (if 0 ≤ x12 then (if x12 < (x9.length : Int) then (if rdOf false x9 x12 = true then (spec_SweepArena.l2 k x1 x6 (x9.set (x12 : Int).toNat true) x10 x11 (wrap64 (x12 + 1)) x160000) else (spec_SweepArena.l2 k x1 x6 (x9.set (x12 : Int).toNat (rdOf false x11 x12)) x10 x11 (wrap64 (x12 + 1)) x160000)) else (none)) else (none)) else (spec_SweepArena.l1 k x1 x6 x9 (wrap64 (x10 + 1)) x160000)
def spec_SweepArena.l3 : Nat → List Int → List Bool → List Int → Int → List (S80) → List (S80) → Option ((List (S80)) × List Int)
 | 0,_,_,_,_,_,_=>none
 | k + 1,x6,x9,x13,x15,x160000,x188000=>if x15 < (x160000.length : Int) then (if 0 ≤ x15 then (if x15 < (x9.length : Int) then (if rdOf false x9 x15 = true then ((some (([] : List Int) : List Int)).bind fun y190=>(if y190.length + ((rd_T80 x160000 x15).f1).length < 17592186044416 then (spec_SweepArena.l4 k x6 x9 x13 x15 0 x160000 x188000 ((rd_T80 x160000 x15).f0) (y190 ++ ((rd_T80 x160000 x15).f1))) else (none))) else (spec_SweepArena.l3 k x6 x9 x13 (wrap64 (x15 + 1)) x160000 x188000)) else (none)) else (none)) else (spec_SweepArena.l5 k x6 x13 0 x188000)
def spec_SweepArena.l4 : Nat → List Int → List Bool → List Int → Int → Int → List (S80) → List (S80) → Bool → List Int → Option ((List (S80)) × List Int)
 | 0,_,_,_,_,_,_,_,_,_=>none
 | k + 1,x6,x9,x13,x15,x17,x160000,x188000,x198000,x198001=>if x17 < 4 then (spec_SweepArena.j6 k x6 x9 x13 x15 x17 (!x198000) x160000 x188000 x198000 x198001) else (spec_SweepArena.j6 k x6 x9 x13 x15 x17 false x160000 x188000 x198000 x198001)
def spec_SweepArena.j6 : Nat → List Int → List Bool → List Int → Int → Int → Bool → List (S80) → List (S80) → Bool → List Int → Option ((List (S80)) × List Int)
 | 0,_,_,_,_,_,_,_,_,_,_=>none
 | k + 1,x6,x9,x13,x15,x17,x117,x160000,x188000,x198000,x198001=>if x117 = true then (if 0 ≤ x17 then (if x17 < (x198001.length : Int) then (if (rd x198001 x17) ≥ 0 then (if 0 ≤ (rd x198001 x17) then (if (rd x198001 x17) < (x13.length : Int) then (spec_SweepArena.l4 k x6 x9 x13 x15 (wrap64 (x17 + 1)) x160000 x188000 x198000 (x198001.set (x17 : Int).toNat (rd x13 (rd x198001 x17)))) else (none)) else (none)) else (spec_SweepArena.l4 k x6 x9 x13 x15 (wrap64 (x17 + 1)) x160000 x188000 x198000 x198001)) else (none)) else (none)) else (if 0 ≤ x15 then (if x15 < (x13.length : Int) then (if x188000.length < 4398046511104 then (spec_SweepArena.l3 k x6 x9 (x13.set (x15 : Int).toNat (x188000.length : Int)) (wrap64 (x15 + 1)) x160000 (x188000 ++ [(⟨x198000,x198001⟩ : S80)])) else (none)) else (none)) else (none))
def spec_SweepArena.l5 : Nat → List Int → List Int → Int → List (S80) → Option ((List (S80)) × List Int)
 | 0,_,_,_,_=>none
 | k + 1,x6,x13,x18,x188000=>if x18 < (x6.length : Int) then (if 0 ≤ x18 then (if (rd x6 x18) ≥ 0 then (if 0 ≤ (rd x6 x18) then (if (rd x6 x18) < (x13.length : Int) then (spec_SweepArena.l5 k (x6.set (x18 : Int).toNat (rd x13 (rd x6 x18))) x13 (wrap64 (x18 + 1)) x188000) else (none)) else (none)) else (spec_SweepArena.l5 k x6 x13 (wrap64 (x18 + 1)) x188000)) else (none)) else (some (x188000,x6))
def spec_SweepArena.l0 : Nat → List Int → List Int → Bool → Int → List (S80) → Option ((List (S80)) × List Int)
 | 0,_,_,_,_,_=>none
 | k + 1,x1,x6,x7,x8,x160000=>if x8 < (x1.length : Int) then (if x7 = true then (if 0 ≤ x8 then ((spec_l11Root.f x160000 (rd x1 x8)).bind fun t169=>(spec_SweepArena.l0 k x1 x6 t169 (wrap64 (x8 + 1)) x160000)) else (none)) else (spec_SweepArena.j1 k x1 x6 x7 x160000)) else (spec_SweepArena.j1 k x1 x6 x7 x160000)
end
def spec_SweepArena.f (k : Nat) (l0_0 : List (S80)) (l1 : List Int) : Option ((List (S80)) × List Int):=(some (([] : List Int) : List Int)).bind fun y161=>(if y161.length + l1.length < 17592186044416 then ((spec_ArenaOk.f k l0_0).bind fun t167=>(spec_SweepArena.l0 k l1 (y161 ++ l1) t167 0 l0_0)) else (none))
def spec_l12Roots.l0 : Nat → List Int → Int → List (S69) → List (S80) → Int → Option (List Int)
 | 0,_,_,_,_,_=>none
 | k + 1,x3,x4,x211000,x211001,x211002=>if x4 < (x211000.length : Int) then (if 0 ≤ x4 then (if x3.length < 17592186044416 then (spec_l12Roots.l0 k (x3 ++ [(rd_T69 x211000 x4).f1]) (wrap64 (x4 + 1)) x211000 x211001 x211002) else (none)) else (none)) else (some x3)
def spec_l12Roots.f (k : Nat) (l0_0 : List (S69)) (l0_1 : List (S80)) (a0_2 : Int) : Option (List Int):=spec_l12Roots.l0 k (([] : List Int)) 0 l0_0 l0_1 a0_2
def impl_volAt.l0 : Nat → Int → List (S69) → Int → Int → Option (Int)
 | 0,_,_,_,_=>none
 | k + 1,x1,x8,x9,x10=>if x10 < x9 then (if 0 ≤ x10 then (if x10 < (x8.length : Int) then (if ((rd_T69 x8 x10).f0) = x1 then (some x10) else (impl_volAt.l0 k x1 x8 x9 (wrap64 (x10 + 1)))) else (none)) else (none)) else (some (-1))
def impl_volAt.f (k : Nat) (l0_0 : List (S69)) (l0_1 : List (S80)) (a0_2 : Int) (a1 : Int) : Option (Int):=impl_volAt.l0 k a1 l0_0 (l0_0.length : Int) 0
def impl_in.f (a0 : Int) (a1 : Int) (a2 : Int) : Option (Bool):=if a0 ≥ a1 then (some (decide (a0 ≤ a2))) else (some false)
def impl_RecOk.j0 : Nat → Bool → Int → Int → Int → Int → Option (Bool)
 | 0,_,_,_,_,_=>none
 | k + 1,x32,x613000,x613001,x613002,x613003=>if x32 = true then (some false) else (if x613000 = 2 then ((impl_in.f x613002 0 9).bind fun t615=>(some t615)) else (if x613000 = 3 then (some (x613002 == 0)) else (if x613000 = 4 then ((impl_in.f x613002 0 15).bind fun t616=>(if t616 = true then ((impl_in.f x613003 1 1000000000).bind fun t617=>(some t617)) else (some false))) else (if x613000 = 5 then ((impl_in.f x613002 0 15).bind fun t618=>(some t618)) else (some false)))))
def impl_RecOk.f (k : Nat) (a0_0 : Int) (a0_1 : Int) (a0_2 : Int) (a0_3 : Int) : Option (Bool):=if a0_0 = 1 then (if a0_1 = 0 then ((impl_in.f a0_2 0 1000000000).bind fun t613=>(if t613 = true then (some (a0_3 == 0)) else (some false))) else (some false)) else ((impl_in.f a0_1 1 9).bind fun t614=>(if t614 = true then (if a0_0 = 4 then (impl_RecOk.j0 k false a0_0 a0_1 a0_2 a0_3) else (impl_RecOk.j0 k (a0_3 != 0) a0_0 a0_1 a0_2 a0_3)) else (impl_RecOk.j0 k true a0_0 a0_1 a0_2 a0_3)))
mutual
def impl_ArenaOk.l0 : Nat → List (S80) → Int → Int → List (S80) → Option (Bool)
 | 0,_,_,_,_=>none
 | k + 1,x8,x9,x10,x554000=>if x10 < x9 then (if 0 ≤ x10 then (if x10 < (x8.length : Int) then (if (((rd_T80 x8 x10).f1).length : Int) = 4 then (impl_ArenaOk.l1 k x10 x8 x9 x10 ((rd_T80 x8 x10).f1) (((rd_T80 x8 x10).f1).length : Int) 0 x554000 ((rd_T80 x8 x10).f0) ((rd_T80 x8 x10).f1)) else (some false)) else (none)) else (none)) else (some true)
def impl_ArenaOk.l1 : Nat → Int → List (S80) → Int → Int → List Int → Int → Int → List (S80) → Bool → List Int → Option (Bool)
 | 0,_,_,_,_,_,_,_,_,_,_=>none
 | k + 1,x3,x8,x9,x10,x20,x21,x22,x554000,x556000,x556001=>if x22 < x21 then (if 0 ≤ x22 then (if x22 < (x20.length : Int) then (if x556000 = true then (if (rd x20 x22) < 0 then (some false) else (impl_ArenaOk.l1 k x3 x8 x9 x10 x20 x21 (wrap64 (x22 + 1)) x554000 x556000 x556001)) else (if (rd x20 x22) = (-1) then (impl_ArenaOk.l1 k x3 x8 x9 x10 x20 x21 (wrap64 (x22 + 1)) x554000 x556000 x556001) else ((impl_in.f (rd x20 x22) 0 (wrap64 (x3 - 1))).bind fun t557=>(if t557 = true then (if 0 ≤ (rd x20 x22) then (if (rd x20 x22) < (x554000.length : Int) then (if ((rd_T80 x554000 (rd x20 x22)).f0 = true) then (impl_ArenaOk.l1 k x3 x8 x9 x10 x20 x21 (wrap64 (x22 + 1)) x554000 x556000 x556001) else (some false)) else (none)) else (none)) else (some false))))) else (none)) else (none)) else (impl_ArenaOk.l0 k x8 x9 (wrap64 (x10 + 1)) x554000)
end
def impl_ArenaOk.f (k : Nat) (l0_0 : List (S80)) : Option (Bool):=impl_ArenaOk.l0 k l0_0 (l0_0.length : Int) 0 l0_0
def impl_hasInt.l0 : Nat → Int → List Int → Int → Int → Option (Bool)
 | 0,_,_,_,_=>none
 | k + 1,x1,x7,x8,x9=>if x9 < x8 then (if 0 ≤ x9 then (if x9 < (x7.length : Int) then (if (rd x7 x9) = x1 then (some true) else (impl_hasInt.l0 k x1 x7 x8 (wrap64 (x9 + 1)))) else (none)) else (none)) else (some false)
def impl_hasInt.f (k : Nat) (l0 : List Int) (a1 : Int) : Option (Bool):=impl_hasInt.l0 k a1 l0 (l0.length : Int) 0
def impl_isRoot.f (l0_0 : List (S80)) (a1 : Int) : Option (Bool):=(impl_in.f a1 0 (wrap64 ((l0_0.length : Int) - 1))).bind fun t560=>(if t560 = true then (if 0 ≤ a1 then (if a1 < (l0_0.length : Int) then (some (!((rd_T80 l0_0 a1).f0))) else (none)) else (none)) else (some false))
def impl_knotsOf.l0 : Nat → List Int → List Int → Int → Int → List (S80) → Option (List Int)
 | 0,_,_,_,_,_=>none
 | k + 1,x5,x19,x20,x21,x564000=>if x21 < x20 then (if 0 ≤ x21 then (if x21 < (x19.length : Int) then ((impl_in.f (rd x19 x21) 0 (wrap64 ((x564000.length : Int) - 1))).bind fun t570=>(if t570 = true then ((impl_hasInt.f k x5 (rd x19 x21)).bind fun t571=>(if t571 = true then (impl_knotsOf.l0 k x5 x19 x20 (wrap64 (x21 + 1)) x564000) else (if x5.length < 17592186044416 then (impl_knotsOf.l0 k (x5 ++ [rd x19 x21]) x19 x20 (wrap64 (x21 + 1)) x564000) else (none)))) else (impl_knotsOf.l0 k x5 x19 x20 (wrap64 (x21 + 1)) x564000))) else (none)) else (none)) else (some x5)
def impl_knotsOf.f (k : Nat) (l0_0 : List (S80)) (a1 : Int) : Option (List Int):=(impl_isRoot.f l0_0 a1).bind fun t564=>(if t564 = true then (if 0 ≤ a1 then (if a1 < (l0_0.length : Int) then (impl_knotsOf.l0 k (([a1] : List Int)) ((rd_T80 l0_0 a1).f1) (((rd_T80 l0_0 a1).f1).length : Int) 0 l0_0) else (none)) else (none)) else (some ([] : List Int)))
mutual
def impl_StoreOk.j0 : Nat → Bool → List (S69) → List (S80) → Int → Option (Bool)
 | 0,_,_,_,_=>none
 | k + 1,x25,x576000,x576001,x576002=>if x25 = true then (some false) else (impl_StoreOk.l0 k ([] : List Int) x576000 (x576000.length : Int) 0 x576000 x576001 x576002)
def impl_StoreOk.l0 : Nat → List Int → List (S69) → Int → Int → List (S69) → List (S80) → Int → Option (Bool)
 | 0,_,_,_,_,_,_,_=>none
 | k + 1,x3,x27,x28,x29,x576000,x576001,x576002=>if x29 < x28 then (if 0 ≤ x29 then (if x29 < (x27.length : Int) then ((impl_in.f ((rd_T69 x27 x29).f0) 1 9).bind fun t580=>(if t580 = true then (if x29 > 0 then (if 0 ≤ (wrap64 (x29 - 1)) then (if (wrap64 (x29 - 1)) < (x576000.length : Int) then (if ((rd_T69 x576000 (wrap64 (x29 - 1))).f0) ≥ ((rd_T69 x27 x29).f0) then (some false) else (if ((rd_T69 x27 x29).f1) = (-1) then ((impl_knotsOf.f k x576001 ((rd_T69 x27 x29).f1)).bind fun t582=>(if x3.length + t582.length < 17592186044416 then (impl_StoreOk.l0 k (x3 ++ t582) x27 x28 (wrap64 (x29 + 1)) x576000 x576001 x576002) else (none))) else ((impl_isRoot.f x576001 ((rd_T69 x27 x29).f1)).bind fun t588=>(if t588 = true then ((impl_knotsOf.f k x576001 ((rd_T69 x27 x29).f1)).bind fun t589=>(if x3.length + t589.length < 17592186044416 then (impl_StoreOk.l0 k (x3 ++ t589) x27 x28 (wrap64 (x29 + 1)) x576000 x576001 x576002) else (none))) else (some false))))) else (none)) else (none)) else (if ((rd_T69 x27 x29).f1) = (-1) then ((impl_knotsOf.f k x576001 ((rd_T69 x27 x29).f1)).bind fun t595=>(if x3.length + t595.length < 17592186044416 then (impl_StoreOk.l0 k (x3 ++ t595) x27 x28 (wrap64 (x29 + 1)) x576000 x576001 x576002) else (none))) else ((impl_isRoot.f x576001 ((rd_T69 x27 x29).f1)).bind fun t601=>(if t601 = true then ((impl_knotsOf.f k x576001 ((rd_T69 x27 x29).f1)).bind fun t602=>(if x3.length + t602.length < 17592186044416 then (impl_StoreOk.l0 k (x3 ++ t602) x27 x28 (wrap64 (x29 + 1)) x576000 x576001 x576002) else (none))) else (some false))))) else (some false))) else (none)) else (none)) else (impl_StoreOk.l1 k x3 x576001 (x576001.length : Int) 0 x576000 x576001 x576002)
def impl_StoreOk.l1 : Nat → List Int → List (S80) → Int → Int → List (S69) → List (S80) → Int → Option (Bool)
 | 0,_,_,_,_,_,_,_=>none
 | k + 1,x3,x77,x78,x79,x576000,x576001,x576002=>if x79 < x78 then (if 0 ≤ x79 then (if x79 < (x77.length : Int) then ((impl_hasInt.f k x3 x79).bind fun t610=>(if t610 = true then (impl_StoreOk.l2 k x3 x77 x78 x79 ((rd_T80 x77 x79).f1) (((rd_T80 x77 x79).f1).length : Int) 0 x576000 x576001 x576002 ((rd_T80 x77 x79).f0) ((rd_T80 x77 x79).f1)) else (some false))) else (none)) else (none)) else (some true)
def impl_StoreOk.l2 : Nat → List Int → List (S80) → Int → Int → List Int → Int → Int → List (S69) → List (S80) → Int → Bool → List Int → Option (Bool)
 | 0,_,_,_,_,_,_,_,_,_,_,_,_=>none
 | k + 1,x3,x77,x78,x79,x89,x90,x91,x576000,x576001,x576002,x610000,x610001=>if x91 < x90 then (if 0 ≤ x91 then (if x91 < (x89.length : Int) then (if x610000 = true then (if (rd x89 x91) ≥ x576002 then (some false) else (impl_StoreOk.l2 k x3 x77 x78 x79 x89 x90 (wrap64 (x91 + 1)) x576000 x576001 x576002 x610000 x610001)) else (impl_StoreOk.l2 k x3 x77 x78 x79 x89 x90 (wrap64 (x91 + 1)) x576000 x576001 x576002 x610000 x610001)) else (none)) else (none)) else (impl_StoreOk.l1 k x3 x77 x78 (wrap64 (x79 + 1)) x576000 x576001 x576002)
end
def impl_StoreOk.f (k : Nat) (l0_0 : List (S69)) (l0_1 : List (S80)) (a0_2 : Int) : Option (Bool):=if (l0_0.length : Int) > 3 then (impl_StoreOk.j0 k true l0_0 l0_1 a0_2) else ((impl_ArenaOk.f k l0_1).bind fun t576=>(if t576 = true then ((impl_in.f a0_2 1 1000000000).bind fun t577=>(impl_StoreOk.j0 k (!t577) l0_0 l0_1 a0_2)) else (impl_StoreOk.j0 k true l0_0 l0_1 a0_2)))
def impl_copyInts.f (l0 : List Int) : Option (List Int):=if ([] : List Int).length + l0.length < 17592186044416 then (some (([] : List Int) ++ l0)) else (none)
def impl_copyArena.l0 : Nat → List (S80) → Int → Int → List (S80) → Option ((List (S80)))
 | 0,_,_,_,_=>none
 | k + 1,x7,x8,x9,x537000=>if x9 < x8 then (if 0 ≤ x9 then (if x9 < (x7.length : Int) then ((impl_copyInts.f ((rd_T80 x7 x9).f1)).bind fun t539=>(if x537000.length < 4398046511104 then (impl_copyArena.l0 k x7 x8 (wrap64 (x9 + 1)) (x537000 ++ [(⟨(rd_T80 x7 x9).f0,t539⟩ : S80)])) else (none))) else (none)) else (none)) else (some x537000)
def impl_copyArena.f (k : Nat) (l0_0 : List (S80)) : Option ((List (S80))):=impl_copyArena.l0 k l0_0 (l0_0.length : Int) 0 ([] : List (S80))
mutual
def impl_SweepArena.l0 : Nat → List Int → List Int → List Int → List Int → Int → Int → List (S80) → Option ((List (S80)) × List Int)
 | 0,_,_,_,_,_,_,_=>none
 | k + 1,x1,x6,x7,x21,x22,x23,x691000=>if x23 < x22 then (if 0 ≤ x23 then (if x23 < (x21.length : Int) then (if (rd x21 x23) = (-1) then (impl_SweepArena.j1 k x1 x6 x7 (rd x21 x23) x21 x22 x23 false x691000) else ((impl_isRoot.f x691000 (rd x21 x23)).bind fun t696=>(impl_SweepArena.j1 k x1 x6 x7 (rd x21 x23) x21 x22 x23 (!t696) x691000))) else (none)) else (none)) else ((impl_ArenaOk.f k x691000).bind fun t706=>(if t706 = true then (if 0 ≤ (x691000.length : Int) then (if ((x691000.length : Int) : Int).toNat ≤ 35184372088832 then (impl_SweepArena.l1 k x1 x6 x7 (List.replicate ((x691000.length : Int) : Int).toNat 0) x691000 (x691000.length : Int) 0 ([] : List (S80))) else (none)) else (none)) else ((impl_copyArena.f k x691000).bind fun t707=>(some (t707,x6)))))
def impl_SweepArena.j1 : Nat → List Int → List Int → List Int → Int → List Int → Int → Int → Bool → List (S80) → Option ((List (S80)) × List Int)
 | 0,_,_,_,_,_,_,_,_,_=>none
 | k + 1,x1,x6,x7,x9,x21,x22,x23,x34,x691000=>if x34 = true then ((impl_copyArena.f k x691000).bind fun t697=>(some (t697,x6))) else ((impl_knotsOf.f k x691000 x9).bind fun t700=>(if x7.length + t700.length < 17592186044416 then (impl_SweepArena.l0 k x1 x6 (x7 ++ t700) x21 x22 (wrap64 (x23 + 1)) x691000) else (none)))
def impl_SweepArena.l1 : Nat → List Int → List Int → List Int → List Int → List (S80) → Int → Int → List (S80) → Option ((List (S80)) × List Int)
 | 0,_,_,_,_,_,_,_,_=>none
 | k + 1,x1,x6,x7,x11,x55,x56,x57,x711000=>if x57 < x56 then (if 0 ≤ x57 then (if x57 < (x55.length : Int) then ((impl_hasInt.f k x7 x57).bind fun t716=>(if t716 = true then (if x57 < (x11.length : Int) then ((impl_copyInts.f ((rd_T80 x55 x57).f1)).bind fun t718=>(impl_SweepArena.l2 k x1 x6 x7 (x11.set (x57 : Int).toNat (x711000.length : Int)) x55 x56 x57 ((rd_T80 x55 x57).f1) (((rd_T80 x55 x57).f1).length : Int) 0 x711000 ((rd_T80 x55 x57).f0) ((rd_T80 x55 x57).f1) ((rd_T80 x55 x57).f0) t718)) else (none)) else (impl_SweepArena.l1 k x1 x6 x7 x11 x55 x56 (wrap64 (x57 + 1)) x711000))) else (none)) else (none)) else (impl_SweepArena.l3 k x6 x11 x1 (x1.length : Int) 0 x711000)
def impl_SweepArena.l2 : Nat → List Int → List Int → List Int → List Int → List (S80) → Int → Int → List Int → Int → Int → List (S80) → Bool → List Int → Bool → List Int → Option ((List (S80)) × List Int)
 | 0,_,_,_,_,_,_,_,_,_,_,_,_,_,_,_=>none
 | k + 1,x1,x6,x7,x11,x55,x56,x57,x79,x80,x81,x711000,x716000,x716001,x722000,x722001=>if x81 < x80 then (if 0 ≤ x81 then (if x81 < (x79.length : Int) then (if x716000 = true then (impl_SweepArena.l2 k x1 x6 x7 x11 x55 x56 x57 x79 x80 (wrap64 (x81 + 1)) x711000 x716000 x716001 x722000 x722001) else (if (rd x79 x81) ≥ 0 then (if 0 ≤ (rd x79 x81) then (if (rd x79 x81) < (x11.length : Int) then (if x81 < (x722001.length : Int) then (impl_SweepArena.l2 k x1 x6 x7 x11 x55 x56 x57 x79 x80 (wrap64 (x81 + 1)) x711000 x716000 x716001 x722000 (x722001.set (x81 : Int).toNat (rd x11 (rd x79 x81)))) else (none)) else (none)) else (none)) else (impl_SweepArena.l2 k x1 x6 x7 x11 x55 x56 x57 x79 x80 (wrap64 (x81 + 1)) x711000 x716000 x716001 x722000 x722001))) else (none)) else (none)) else (if x711000.length < 4398046511104 then (impl_SweepArena.l1 k x1 x6 x7 x11 x55 x56 (wrap64 (x57 + 1)) (x711000 ++ [(⟨x722000,x722001⟩ : S80)])) else (none))
def impl_SweepArena.l3 : Nat → List Int → List Int → List Int → Int → Int → List (S80) → Option ((List (S80)) × List Int)
 | 0,_,_,_,_,_,_=>none
 | k + 1,x6,x11,x109,x110,x111,x711000=>if x111 < x110 then (if 0 ≤ x111 then (if x111 < (x109.length : Int) then (if (rd x109 x111) ≥ 0 then (if 0 ≤ (rd x109 x111) then (if (rd x109 x111) < (x11.length : Int) then (if x111 < (x6.length : Int) then (impl_SweepArena.l3 k (x6.set (x111 : Int).toNat (rd x11 (rd x109 x111))) x11 x109 x110 (wrap64 (x111 + 1)) x711000) else (none)) else (none)) else (none)) else (impl_SweepArena.l3 k x6 x11 x109 x110 (wrap64 (x111 + 1)) x711000)) else (none)) else (none)) else (some (x711000,x6))
end
def impl_SweepArena.f (k : Nat) (l0_0 : List (S80)) (l1 : List Int) : Option ((List (S80)) × List Int):=(impl_copyInts.f l1).bind fun t692=>(impl_SweepArena.l0 k l1 t692 ([] : List Int) l1 (l1.length : Int) 0 l0_0)
end Go.Proofs.YteideicglgpfiaaGreat.PK

namespace Go.Proofs.YteideicglgpfiaaGreat.M2
open Go Go.RowKit Go.Proofs.YteideicglgpfiaaGreatW.PrintWords Go.Proofs.YteideicglgpfiaaGreat.PK
theorem w64_eq (n : Int) : w64 n = wrap64 n:=IntWalk.i64_left n
theorem wu8_eq (n : Int) : Go.IntKind.wrap .u8 n = n % 256:=by simp [IntKind.wrap,IntKind.signed,IntKind.bits]
theorem int_beq (a b : Int) : (a == b) = decide (a = b):=rfl
theorem emp_eq : (⟨#[]⟩ : ByteArray).toList = []:=by kernel_rfl
theorem itE {α : Type} {c : Prop} [Decidable c] {a b : Option α} {r : α} {G : Prop} (h : (if c then a else b) = some r) (x : c → a = some r → G) (y : ¬ c → b = some r → G) : G:=by
 by_cases hc : c
 ·rw [if_pos hc] at h;exact x hc h
 rw [if_neg hc] at h;exact y hc h
theorem bnE {α β : Type} {o : Option α} {f : α → Option β} {r : β} {G : Prop} (h : o.bind f = some r) (x : ∀ t,o = some t → f t = some r → G) : G:=by
 obtain ⟨t,h1,h2⟩:=Option.bind_eq_some_iff.1 h;exact x t h1 h2
theorem bsE {α β : Type} {a : α} {f : α → Option β} {r : β} {G : Prop} (h : (some a).bind f = some r) (x : f a = some r → G) : G:=x h
theorem noE {α : Type} {r : α} {G : Prop} (h : none = some r) : G:=by cases h
theorem ite_inv {α : Type} {c : Prop} [Decidable c] {a b : Option α} {r : α} (h : (if c then a else b) = some r) : (c ∧ a = some r) ∨ (¬ c ∧ b = some r):=by
 by_cases hc : c
 ·rw [if_pos hc] at h;exact .inl ⟨hc,h⟩
 rw [if_neg hc] at h;exact .inr ⟨hc,h⟩
theorem fdiv33 (a : Int) : Int.fdiv a 8589934592 = a / 8589934592:=Int.fdiv_eq_ediv_of_nonneg a (by decide)
theorem fdiv45 (a : Int) : Int.fdiv a 35184372088832 = a / 35184372088832:=Int.fdiv_eq_ediv_of_nonneg a (by decide)
theorem shlR (x y : Int) : w64 (x * 2 ^ (min y.toNat 64)) = Go.Proofs.YteideicglgpfiaaGreatW.PrintWords.shl .i64 x y:=rfl
theorem bt_eq (s : ByteArray) (i : Int) : bt s i = Go.Proofs.YteideicglgpfiaaGreatW.PrintWords.bt s i:=rfl
theorem tmodN (n : Nat) (k : Int) : Int.tmod (n : Int) k = (n : Int) % k:=Int.tmod_eq_emod_of_nonneg (Int.natCast_nonneg n)
theorem rdOfB (a b : Int) : (a - b < 0) = (a < b):=by simp only [eq_iff_iff];omega
theorem rdOfL (l : List Bool) (i : Int) : rdOf false l i = rd_T4 l i:=rfl
theorem rdT3_eq (l : List Int) (i : Int) : rd_T3 l i = rd l i:=rfl
theorem rdn71 (l : List S71) (i : Int) : rd_T71 l ((i.toNat : Nat) : Int) = rd_T71 l i:=rfl
theorem rdset71 (l : List S71) (i : Int) (y : S71) (h : i < (l.length : Int)) (h0 : 0 ≤ i) : rd_T71 (l.set i.toNat y) i = y:=by
 unfold rd_T71;rw [List.getD_eq_getElem?_getD,List.getElem?_set_self (by omega)];rfl
theorem rdn3 (l : List Int) (i : Int) : rd_T3 l ((i.toNat : Nat) : Int) = rd_T3 l i:=rfl
theorem rdset3 (l : List Int) (i : Int) (y : Int) (h : i < (l.length : Int)) (h0 : 0 ≤ i) : rd_T3 (l.set i.toNat y) i = y:=by
 unfold rd_T3;rw [List.getD_eq_getElem?_getD,List.getElem?_set_self (by omega)];rfl
theorem rdn79 (l : List S79) (i : Int) : rd_T79 l ((i.toNat : Nat) : Int) = rd_T79 l i:=rfl
theorem rdset79 (l : List S79) (i : Int) (y : S79) (h : i < (l.length : Int)) (h0 : 0 ≤ i) : rd_T79 (l.set i.toNat y) i = y:=by
 unfold rd_T79;rw [List.getD_eq_getElem?_getD,List.getElem?_set_self (by omega)];rfl
theorem rdn56 (l : List S56) (i : Int) : rd_T56 l ((i.toNat : Nat) : Int) = rd_T56 l i:=rfl
theorem rdset56 (l : List S56) (i : Int) (y : S56) (h : i < (l.length : Int)) (h0 : 0 ≤ i) : rd_T56 (l.set i.toNat y) i = y:=by
 unfold rd_T56;rw [List.getD_eq_getElem?_getD,List.getElem?_set_self (by omega)];rfl
theorem rdn80 (l : List S80) (i : Int) : rd_T80 l ((i.toNat : Nat) : Int) = rd_T80 l i:=rfl
theorem rdset80 (l : List S80) (i : Int) (y : S80) (h : i < (l.length : Int)) (h0 : 0 ≤ i) : rd_T80 (l.set i.toNat y) i = y:=by
 unfold rd_T80;rw [List.getD_eq_getElem?_getD,List.getElem?_set_self (by omega)];rfl
theorem rdn69 (l : List S69) (i : Int) : rd_T69 l ((i.toNat : Nat) : Int) = rd_T69 l i:=rfl
theorem rdset69 (l : List S69) (i : Int) (y : S69) (h : i < (l.length : Int)) (h0 : 0 ≤ i) : rd_T69 (l.set i.toNat y) i = y:=by
 unfold rd_T69;rw [List.getD_eq_getElem?_getD,List.getElem?_set_self (by omega)];rfl
theorem rdn4 (l : List Bool) (i : Int) : rd_T4 l ((i.toNat : Nat) : Int) = rd_T4 l i:=rfl
theorem rdset4 (l : List Bool) (i : Int) (y : Bool) (h : i < (l.length : Int)) (h0 : 0 ≤ i) : rd_T4 (l.set i.toNat y) i = y:=by
 unfold rd_T4;rw [List.getD_eq_getElem?_getD,List.getElem?_set_self (by omega)];rfl
theorem rdn52 (l : List S52) (i : Int) : rd_T52 l ((i.toNat : Nat) : Int) = rd_T52 l i:=rfl
theorem rdset52 (l : List S52) (i : Int) (y : S52) (h : i < (l.length : Int)) (h0 : 0 ≤ i) : rd_T52 (l.set i.toNat y) i = y:=by
 unfold rd_T52;rw [List.getD_eq_getElem?_getD,List.getElem?_set_self (by omega)];rfl
end Go.Proofs.YteideicglgpfiaaGreat.M2

namespace Go.Proofs.YteideicglgpfiaaGreat.M2
open Go Go.RowKit Go.Proofs.YteideicglgpfiaaGreatW.PrintWords Go.Proofs.YteideicglgpfiaaGreat.PK
set_option linter.unusedVariables false
set_option linter.unusedSimpArgs false
theorem laws_szVolS.rel (k : Nat) (l0 : List (S71)) (a1 : Int) (r) (h : PK.laws_szVolS.f l0 a1 = some r) (m : Nat) (hm : k ≤ m) : laws_szVolS.f m l0 a1 = some r:=by
 rw [PK.laws_szVolS.f] at h;rw [laws_szVolS.f]
 try simp only [w64_eq,wu8_eq,gt_iff_lt,ge_iff_le,int_beq,fdiv33,fdiv45,bt_eq,tmodN,rdOfB,rdOfL] at h
 try simp only [shlR]
 try simp only [w64_eq,wu8_eq,gt_iff_lt,ge_iff_le,int_beq,fdiv33,fdiv45,bt_eq,tmodN,rdOfB,rdOfL,rdT3_eq,seq,maxI,minI,emp_eq,rdn71,rdn3,rdn79,rdn56,rdn80,rdn69,rdn4,rdn52]
 refine (itE h (fun q h=>?_) (fun q h=>?_))
 all_goals (try cases h)
 all_goals (try simp only [*,if_true,if_false,↓reduceIte,Option.bind_some,List.length_cons,List.length_nil,List.length_append,Bool.not_true,Bool.not_false,Bool.true_eq_false,Bool.false_eq_true])
 all_goals (repeat first | rw [if_pos (by omega)] | rw [if_neg (by omega)])
 all_goals first | exact h | apply h | rfl | (simp_all [-Bool.forall_bool];done) | (simp_all [-Bool.forall_bool];first | exact h | apply h) | (simp_all [-Bool.forall_bool,emp_eq,int_beq];done) | (simp_all [-Bool.forall_bool];(intros;simp_all;done)) | (simp_all [-Bool.forall_bool,rdset71,rdset3,rdset79,rdset56,rdset80,rdset69,rdset4,rdset52];done) | grind
theorem laws_szIntS.rel (k : Nat) (l0 : List Int) (a1 : Int) (r) (h : PK.laws_szIntS.f l0 a1 = some r) (m : Nat) (hm : k ≤ m) : laws_szIntS.f m l0 a1 = some r:=by
 rw [PK.laws_szIntS.f] at h;rw [laws_szIntS.f]
 try simp only [w64_eq,wu8_eq,gt_iff_lt,ge_iff_le,int_beq,fdiv33,fdiv45,bt_eq,tmodN,rdOfB,rdOfL] at h
 try simp only [shlR]
 try simp only [w64_eq,wu8_eq,gt_iff_lt,ge_iff_le,int_beq,fdiv33,fdiv45,bt_eq,tmodN,rdOfB,rdOfL,rdT3_eq,seq,maxI,minI,emp_eq,rdn71,rdn3,rdn79,rdn56,rdn80,rdn69,rdn4,rdn52]
 refine (itE h (fun q h=>?_) (fun q h=>?_))
 all_goals (try cases h)
 all_goals (try simp only [*,if_true,if_false,↓reduceIte,Option.bind_some,List.length_cons,List.length_nil,List.length_append,Bool.not_true,Bool.not_false,Bool.true_eq_false,Bool.false_eq_true])
 all_goals (repeat first | rw [if_pos (by omega)] | rw [if_neg (by omega)])
 all_goals first | exact h | apply h | rfl | (simp_all [-Bool.forall_bool];done) | (simp_all [-Bool.forall_bool];first | exact h | apply h) | (simp_all [-Bool.forall_bool,emp_eq,int_beq];done) | (simp_all [-Bool.forall_bool];(intros;simp_all;done)) | (simp_all [-Bool.forall_bool,rdset71,rdset3,rdset79,rdset56,rdset80,rdset69,rdset4,rdset52];done) | grind
theorem laws_szKnot.rel (k : Nat) (a0_0 : Bool) (l0_1 : List Int) (a1 : Int) (r) (h : PK.laws_szKnot.f a0_0 l0_1 a1 = some r) (m : Nat) (hm : k ≤ m) : laws_szKnot.f m a0_0 l0_1 a1 = some r:=by
 rw [PK.laws_szKnot.f] at h;rw [laws_szKnot.f]
 try simp only [w64_eq,wu8_eq,gt_iff_lt,ge_iff_le,int_beq,fdiv33,fdiv45,bt_eq,tmodN,rdOfB,rdOfL] at h
 try simp only [shlR]
 try simp only [w64_eq,wu8_eq,gt_iff_lt,ge_iff_le,int_beq,fdiv33,fdiv45,bt_eq,tmodN,rdOfB,rdOfL,rdT3_eq,seq,maxI,minI,emp_eq,rdn71,rdn3,rdn79,rdn56,rdn80,rdn69,rdn4,rdn52]
 refine (bnE h (fun _ g h=>(fun g=>(itE h (fun q h=>?_) (fun q h=>?_))) (laws_szIntS.rel m _ _ _ g m (by omega))))
 all_goals (try cases h)
 all_goals (try simp only [*,if_true,if_false,↓reduceIte,Option.bind_some,List.length_cons,List.length_nil,List.length_append,Bool.not_true,Bool.not_false,Bool.true_eq_false,Bool.false_eq_true])
 all_goals (repeat first | rw [if_pos (by omega)] | rw [if_neg (by omega)])
 all_goals first | exact h | apply h | rfl | (simp_all [-Bool.forall_bool];done) | (simp_all [-Bool.forall_bool];first | exact h | apply h) | (simp_all [-Bool.forall_bool,emp_eq,int_beq];done) | (simp_all [-Bool.forall_bool];(intros;simp_all;done)) | (simp_all [-Bool.forall_bool,rdset71,rdset3,rdset79,rdset56,rdset80,rdset69,rdset4,rdset52];done) | grind
theorem laws_szKnotS.rel_l (k : Nat) : (∀ x0 x1 x5 r,PK.laws_szKnotS.l0 k x0 x1 x5 = some r → ∀ m,k ≤ m → laws_szKnotS.c5 m x0 x1 x5 = some r):=by
 induction k using Nat.strongRecOn with
 | _ k ih =>
 have il0:=fun k' hk'=>(ih k' hk');clear ih;intro x0 x1 x5 r h m hm;cases k with
 | zero=>simp only [PK.laws_szKnotS.l0] at h;cases h
 | succ k =>
  obtain ⟨m,rfl⟩ : ∃ m',m = m' + 1:=⟨m - 1,by omega⟩;rw [PK.laws_szKnotS.l0] at h;rw [laws_szKnotS.c5]
  try simp only [w64_eq,wu8_eq,gt_iff_lt,ge_iff_le,int_beq,fdiv33,fdiv45,bt_eq,tmodN,rdOfB,rdOfL] at h
  try simp only [shlR]
  try simp only [w64_eq,wu8_eq,gt_iff_lt,ge_iff_le,int_beq,fdiv33,fdiv45,bt_eq,tmodN,rdOfB,rdOfL,rdT3_eq,seq,maxI,minI,emp_eq,rdn71,rdn3,rdn79,rdn56,rdn80,rdn69,rdn4,rdn52]
  refine (itE h (fun q h=>(itE h (fun q h=>(bnE h (fun _ g h=>(fun g=>(itE h (fun q h=>?_) (fun q h=>((fun h=>?_) (il0 _ (by omega) _ _ _ _ h m (by omega)))))) (laws_szKnot.rel m _ _ _ _ g m (by omega))))) (fun q h=>(noE h)))) (fun q h=>?_))
  all_goals clear il0
  all_goals (try cases h)
  all_goals (try simp only [*,if_true,if_false,↓reduceIte,Option.bind_some,List.length_cons,List.length_nil,List.length_append,Bool.not_true,Bool.not_false,Bool.true_eq_false,Bool.false_eq_true])
  all_goals (repeat first | rw [if_pos (by omega)] | rw [if_neg (by omega)])
  all_goals first | exact h | apply h | rfl | (simp_all [-Bool.forall_bool];done) | (simp_all [-Bool.forall_bool];first | exact h | apply h) | (simp_all [-Bool.forall_bool,emp_eq,int_beq];done) | (simp_all [-Bool.forall_bool];(intros;simp_all;done)) | (simp_all [-Bool.forall_bool,rdset71,rdset3,rdset79,rdset56,rdset80,rdset69,rdset4,rdset52];done) | grind
theorem laws_szKnotS.rel (k : Nat) (l0 : List (S79)) (a1 : Int) (r) (h : PK.laws_szKnotS.f k l0 a1 = some r) (m : Nat) (hm : k ≤ m) : laws_szKnotS.f m l0 a1 = some r:=by
 have il0:=fun k' (_ : k' < k + 1)=>(laws_szKnotS.rel_l k');rw [PK.laws_szKnotS.f] at h;rw [laws_szKnotS.f]
 try simp only [w64_eq,wu8_eq,gt_iff_lt,ge_iff_le,int_beq,fdiv33,fdiv45,bt_eq,tmodN,rdOfB,rdOfL] at h
 try simp only [shlR]
 try simp only [w64_eq,wu8_eq,gt_iff_lt,ge_iff_le,int_beq,fdiv33,fdiv45,bt_eq,tmodN,rdOfB,rdOfL,rdT3_eq,seq,maxI,minI,emp_eq,rdn71,rdn3,rdn79,rdn56,rdn80,rdn69,rdn4,rdn52]
 refine (itE h (fun q h=>?_) (fun q h=>((fun h=>?_) (il0 _ (by omega) _ _ _ _ h m (by omega)))))
 all_goals clear il0
 all_goals (try cases h)
 all_goals (try simp only [*,if_true,if_false,↓reduceIte,Option.bind_some,List.length_cons,List.length_nil,List.length_append,Bool.not_true,Bool.not_false,Bool.true_eq_false,Bool.false_eq_true])
 all_goals (repeat first | rw [if_pos (by omega)] | rw [if_neg (by omega)])
 all_goals first | exact h | apply h | rfl | (simp_all [-Bool.forall_bool];done) | (simp_all [-Bool.forall_bool];first | exact h | apply h) | (simp_all [-Bool.forall_bool,emp_eq,int_beq];done) | (simp_all [-Bool.forall_bool];(intros;simp_all;done)) | (simp_all [-Bool.forall_bool,rdset71,rdset3,rdset79,rdset56,rdset80,rdset69,rdset4,rdset52];done) | grind
end Go.Proofs.YteideicglgpfiaaGreat.M2

namespace Go.Proofs.YteideicglgpfiaaGreat.M2
open Go Go.RowKit Go.Proofs.YteideicglgpfiaaGreatW.PrintWords Go.Proofs.YteideicglgpfiaaGreat.PK
set_option linter.unusedVariables false
set_option linter.unusedSimpArgs false
theorem laws_szArena.rel (k : Nat) (l0_0 : List (S79)) (a1 : Int) (r) (h : PK.laws_szArena.f k l0_0 a1 = some r) (m : Nat) (hm : k ≤ m) : laws_szArena.f m l0_0 a1 = some r:=by
 rw [PK.laws_szArena.f] at h;rw [laws_szArena.f]
 try simp only [w64_eq,wu8_eq,gt_iff_lt,ge_iff_le,int_beq,fdiv33,fdiv45,bt_eq,tmodN,rdOfB,rdOfL] at h
 try simp only [shlR]
 try simp only [w64_eq,wu8_eq,gt_iff_lt,ge_iff_le,int_beq,fdiv33,fdiv45,bt_eq,tmodN,rdOfB,rdOfL,rdT3_eq,seq,maxI,minI,emp_eq,rdn71,rdn3,rdn79,rdn56,rdn80,rdn69,rdn4,rdn52]
 refine (bnE h (fun _ g h=>(fun g=>(itE h (fun q h=>?_) (fun q h=>?_))) (laws_szKnotS.rel _ _ _ _ g m (by omega))))
 all_goals (try cases h)
 all_goals (try simp only [*,if_true,if_false,↓reduceIte,Option.bind_some,List.length_cons,List.length_nil,List.length_append,Bool.not_true,Bool.not_false,Bool.true_eq_false,Bool.false_eq_true])
 all_goals (repeat first | rw [if_pos (by omega)] | rw [if_neg (by omega)])
 all_goals first | exact h | apply h | rfl | (simp_all [-Bool.forall_bool];done) | (simp_all [-Bool.forall_bool];first | exact h | apply h) | (simp_all [-Bool.forall_bool,emp_eq,int_beq];done) | (simp_all [-Bool.forall_bool];(intros;simp_all;done)) | (simp_all [-Bool.forall_bool,rdset71,rdset3,rdset79,rdset56,rdset80,rdset69,rdset4,rdset52];done) | grind
theorem laws_szStore.rel (k : Nat) (l0_0 : List (S71)) (l0_1 : List (S79)) (a0_2 : Int) (a1 : Int) (r) (h : PK.laws_szStore.f k l0_0 l0_1 a0_2 a1 = some r) (m : Nat) (hm : k ≤ m) : laws_szStore.f m l0_0 l0_1 a0_2 a1 = some r:=by
 rw [PK.laws_szStore.f] at h;rw [laws_szStore.f]
 try simp only [w64_eq,wu8_eq,gt_iff_lt,ge_iff_le,int_beq,fdiv33,fdiv45,bt_eq,tmodN,rdOfB,rdOfL] at h
 try simp only [shlR]
 try simp only [w64_eq,wu8_eq,gt_iff_lt,ge_iff_le,int_beq,fdiv33,fdiv45,bt_eq,tmodN,rdOfB,rdOfL,rdT3_eq,seq,maxI,minI,emp_eq,rdn71,rdn3,rdn79,rdn56,rdn80,rdn69,rdn4,rdn52]
 refine (bnE h (fun _ g h=>(fun g=>(itE h (fun q h=>?_) (fun q h=>(bnE h (fun _ g h=>(fun g=>(itE h (fun q h=>?_) (fun q h=>?_))) (laws_szArena.rel _ _ _ _ g m (by omega))))))) (laws_szVolS.rel m _ _ _ g m (by omega))))
 all_goals (try cases h)
 all_goals (try simp only [*,if_true,if_false,↓reduceIte,Option.bind_some,List.length_cons,List.length_nil,List.length_append,Bool.not_true,Bool.not_false,Bool.true_eq_false,Bool.false_eq_true])
 all_goals (repeat first | rw [if_pos (by omega)] | rw [if_neg (by omega)])
 all_goals first | exact h | apply h | rfl | (simp_all [-Bool.forall_bool];done) | (simp_all [-Bool.forall_bool];first | exact h | apply h) | (simp_all [-Bool.forall_bool,emp_eq,int_beq];done) | (simp_all [-Bool.forall_bool];(intros;simp_all;done)) | (simp_all [-Bool.forall_bool,rdset71,rdset3,rdset79,rdset56,rdset80,rdset69,rdset4,rdset52];done) | grind
theorem laws_toVol.rel (k : Nat) (a0_0 : Int) (a0_1 : Int) (r) (h : PK.laws_toVol.f a0_0 a0_1 = some r) (m : Nat) (hm : k ≤ m) : laws_toVol.f m a0_0 a0_1 = some (r.1,r.2):=by
 rw [PK.laws_toVol.f] at h;rw [laws_toVol.f]
 try simp only [w64_eq,wu8_eq,gt_iff_lt,ge_iff_le,int_beq,fdiv33,fdiv45,bt_eq,tmodN,rdOfB,rdOfL] at h
 try simp only [shlR]
 try simp only [w64_eq,wu8_eq,gt_iff_lt,ge_iff_le,int_beq,fdiv33,fdiv45,bt_eq,tmodN,rdOfB,rdOfL,rdT3_eq,seq,maxI,minI,emp_eq,rdn71,rdn3,rdn79,rdn56,rdn80,rdn69,rdn4,rdn52]
 refine ?_
 all_goals (try cases h)
 all_goals (try simp only [*,if_true,if_false,↓reduceIte,Option.bind_some,List.length_cons,List.length_nil,List.length_append,Bool.not_true,Bool.not_false,Bool.true_eq_false,Bool.false_eq_true])
 all_goals (repeat first | rw [if_pos (by omega)] | rw [if_neg (by omega)])
 all_goals first | exact h | apply h | rfl | (simp_all [-Bool.forall_bool];done) | (simp_all [-Bool.forall_bool];first | exact h | apply h) | (simp_all [-Bool.forall_bool,emp_eq,int_beq];done) | (simp_all [-Bool.forall_bool];(intros;simp_all;done)) | (simp_all [-Bool.forall_bool,rdset71,rdset3,rdset79,rdset56,rdset80,rdset69,rdset4,rdset52];done) | grind
theorem laws_toVolS.rel_l (k : Nat) : (∀ x0 x3 x4 r,PK.laws_toVolS.l0 k x0 x3 x4 = some r → ∀ m,k ≤ m → laws_toVolS.c3 m x0 x4 x3 = some r):=by
 induction k using Nat.strongRecOn with
 | _ k ih =>
 have il0:=fun k' hk'=>(ih k' hk');clear ih;intro x0 x3 x4 r h m hm;cases k with
 | zero=>simp only [PK.laws_toVolS.l0] at h;cases h
 | succ k =>
  obtain ⟨m,rfl⟩ : ∃ m',m = m' + 1:=⟨m - 1,by omega⟩;rw [PK.laws_toVolS.l0] at h;rw [laws_toVolS.c3]
  try simp only [w64_eq,wu8_eq,gt_iff_lt,ge_iff_le,int_beq,fdiv33,fdiv45,bt_eq,tmodN,rdOfB,rdOfL] at h
  try simp only [shlR]
  try simp only [w64_eq,wu8_eq,gt_iff_lt,ge_iff_le,int_beq,fdiv33,fdiv45,bt_eq,tmodN,rdOfB,rdOfL,rdT3_eq,seq,maxI,minI,emp_eq,rdn71,rdn3,rdn79,rdn56,rdn80,rdn69,rdn4,rdn52]
  refine (itE h (fun q h=>(itE h (fun q h=>(bnE h (fun _ g h=>(fun g=>(itE h (fun q h=>((fun h=>?_) (il0 _ (by omega) _ _ _ _ h m (by omega)))) (fun q h=>(noE h)))) (laws_toVol.rel m _ _ _ g m (by omega))))) (fun q h=>(noE h)))) (fun q h=>?_))
  all_goals clear il0
  all_goals (try cases h)
  all_goals (try simp only [*,if_true,if_false,↓reduceIte,Option.bind_some,List.length_cons,List.length_nil,List.length_append,Bool.not_true,Bool.not_false,Bool.true_eq_false,Bool.false_eq_true])
  all_goals (repeat first | rw [if_pos (by omega)] | rw [if_neg (by omega)])
  all_goals first | exact h | apply h | rfl | (simp_all [-Bool.forall_bool];done) | (simp_all [-Bool.forall_bool];first | exact h | apply h) | (simp_all [-Bool.forall_bool,emp_eq,int_beq];done) | (simp_all [-Bool.forall_bool];(intros;simp_all;done)) | (simp_all [-Bool.forall_bool,rdset71,rdset3,rdset79,rdset56,rdset80,rdset69,rdset4,rdset52];done) | grind
theorem laws_toVolS.rel (k : Nat) (l0 : List (S71)) (r) (h : PK.laws_toVolS.f k l0 = some r) (m : Nat) (hm : k ≤ m) : laws_toVolS.f m l0 = some r:=by
 have il0:=fun k' (_ : k' < k + 1)=>(laws_toVolS.rel_l k');rw [PK.laws_toVolS.f] at h;rw [laws_toVolS.f]
 try simp only [w64_eq,wu8_eq,gt_iff_lt,ge_iff_le,int_beq,fdiv33,fdiv45,bt_eq,tmodN,rdOfB,rdOfL] at h
 try simp only [shlR]
 try simp only [w64_eq,wu8_eq,gt_iff_lt,ge_iff_le,int_beq,fdiv33,fdiv45,bt_eq,tmodN,rdOfB,rdOfL,rdT3_eq,seq,maxI,minI,emp_eq,rdn71,rdn3,rdn79,rdn56,rdn80,rdn69,rdn4,rdn52]
 refine (itE h (fun q h=>(itE h (fun q h=>((fun h=>?_) (il0 _ (by omega) _ _ _ _ h m (by omega)))) (fun q h=>(noE h)))) (fun q h=>(noE h)))
 all_goals clear il0
 all_goals (try cases h)
 all_goals (try simp only [*,if_true,if_false,↓reduceIte,Option.bind_some,List.length_cons,List.length_nil,List.length_append,Bool.not_true,Bool.not_false,Bool.true_eq_false,Bool.false_eq_true])
 all_goals (repeat first | rw [if_pos (by omega)] | rw [if_neg (by omega)])
 all_goals first | exact h | apply h | rfl | (simp_all [-Bool.forall_bool];done) | (simp_all [-Bool.forall_bool];first | exact h | apply h) | (simp_all [-Bool.forall_bool,emp_eq,int_beq];done) | (simp_all [-Bool.forall_bool];(intros;simp_all;done)) | (simp_all [-Bool.forall_bool,rdset71,rdset3,rdset79,rdset56,rdset80,rdset69,rdset4,rdset52];done) | grind
end Go.Proofs.YteideicglgpfiaaGreat.M2

namespace Go.Proofs.YteideicglgpfiaaGreat.M2
open Go Go.RowKit Go.Proofs.YteideicglgpfiaaGreatW.PrintWords Go.Proofs.YteideicglgpfiaaGreat.PK
set_option linter.unusedVariables false
set_option linter.unusedSimpArgs false
theorem laws_eqRec.rel (k : Nat) (a0_0 : Int) (a0_1 : Int) (a0_2 : Int) (a0_3 : Int) (a1_0 : Int) (a1_1 : Int) (a1_2 : Int) (a1_3 : Int) (r) (h : PK.laws_eqRec.f a0_0 a0_1 a0_2 a0_3 a1_0 a1_1 a1_2 a1_3 = some r) (m : Nat) (hm : k ≤ m) : laws_eqRec.f m a0_0 a0_1 a0_2 a0_3 a1_0 a1_1 a1_2 a1_3 = some r:=by
 rw [PK.laws_eqRec.f] at h;rw [laws_eqRec.f]
 try simp only [w64_eq,wu8_eq,gt_iff_lt,ge_iff_le,int_beq,fdiv33,fdiv45,bt_eq,tmodN,rdOfB,rdOfL] at h
 try simp only [shlR]
 try simp only [w64_eq,wu8_eq,gt_iff_lt,ge_iff_le,int_beq,fdiv33,fdiv45,bt_eq,tmodN,rdOfB,rdOfL,rdT3_eq,seq,maxI,minI,emp_eq,rdn71,rdn3,rdn79,rdn56,rdn80,rdn69,rdn4,rdn52]
 refine (itE h (fun q h=>(itE h (fun q h=>(itE h (fun q h=>(itE h (fun q h=>?_) (fun q h=>?_))) (fun q h=>?_))) (fun q h=>?_))) (fun q h=>?_))
 all_goals (try cases h)
 all_goals (try simp only [*,if_true,if_false,↓reduceIte,Option.bind_some,List.length_cons,List.length_nil,List.length_append,Bool.not_true,Bool.not_false,Bool.true_eq_false,Bool.false_eq_true])
 all_goals (repeat first | rw [if_pos (by omega)] | rw [if_neg (by omega)])
 all_goals first | exact h | apply h | rfl | (simp_all [-Bool.forall_bool];done) | (simp_all [-Bool.forall_bool];first | exact h | apply h) | (simp_all [-Bool.forall_bool,emp_eq,int_beq];done) | (simp_all [-Bool.forall_bool];(intros;simp_all;done)) | (simp_all [-Bool.forall_bool,rdset71,rdset3,rdset79,rdset56,rdset80,rdset69,rdset4,rdset52];done) | grind
theorem laws_eqRecS.rel_l (k : Nat) : (∀ x0 x1 x5 r,PK.laws_eqRecS.l0 k x0 x1 x5 = some r → ∀ m,k ≤ m → laws_eqRecS.c4 m x0 x1 x5 = some r):=by
 induction k using Nat.strongRecOn with
 | _ k ih =>
 have il0:=fun k' hk'=>(ih k' hk');clear ih;intro x0 x1 x5 r h m hm;cases k with
 | zero=>simp only [PK.laws_eqRecS.l0] at h;cases h
 | succ k =>
  obtain ⟨m,rfl⟩ : ∃ m',m = m' + 1:=⟨m - 1,by omega⟩;rw [PK.laws_eqRecS.l0] at h;rw [laws_eqRecS.c4]
  try simp only [w64_eq,wu8_eq,gt_iff_lt,ge_iff_le,int_beq,fdiv33,fdiv45,bt_eq,tmodN,rdOfB,rdOfL] at h
  try simp only [shlR]
  try simp only [w64_eq,wu8_eq,gt_iff_lt,ge_iff_le,int_beq,fdiv33,fdiv45,bt_eq,tmodN,rdOfB,rdOfL,rdT3_eq,seq,maxI,minI,emp_eq,rdn71,rdn3,rdn79,rdn56,rdn80,rdn69,rdn4,rdn52]
  refine (itE h (fun q h=>(itE h (fun q h=>(itE h (fun q h=>(bnE h (fun _ g h=>(fun g=>(itE h (fun q h=>((fun h=>?_) (il0 _ (by omega) _ _ _ _ h m (by omega)))) (fun q h=>?_))) (laws_eqRec.rel m _ _ _ _ _ _ _ _ _ g m (by omega))))) (fun q h=>(noE h)))) (fun q h=>(noE h)))) (fun q h=>?_))
  all_goals clear il0
  all_goals (try cases h)
  all_goals (try simp only [*,if_true,if_false,↓reduceIte,Option.bind_some,List.length_cons,List.length_nil,List.length_append,Bool.not_true,Bool.not_false,Bool.true_eq_false,Bool.false_eq_true])
  all_goals (repeat first | rw [if_pos (by omega)] | rw [if_neg (by omega)])
  all_goals first | exact h | apply h | rfl | (simp_all [-Bool.forall_bool];done) | (simp_all [-Bool.forall_bool];first | exact h | apply h) | (simp_all [-Bool.forall_bool,emp_eq,int_beq];done) | (simp_all [-Bool.forall_bool];(intros;simp_all;done)) | (simp_all [-Bool.forall_bool,rdset71,rdset3,rdset79,rdset56,rdset80,rdset69,rdset4,rdset52];done) | grind
theorem laws_eqRecS.rel (k : Nat) (l0 : List (S52)) (l1 : List (S52)) (r) (h : PK.laws_eqRecS.f k l0 l1 = some r) (m : Nat) (hm : k ≤ m) : laws_eqRecS.f m l0 l1 = some r:=by
 have il0:=fun k' (_ : k' < k + 1)=>(laws_eqRecS.rel_l k');rw [PK.laws_eqRecS.f] at h;rw [laws_eqRecS.f]
 try simp only [w64_eq,wu8_eq,gt_iff_lt,ge_iff_le,int_beq,fdiv33,fdiv45,bt_eq,tmodN,rdOfB,rdOfL] at h
 try simp only [shlR]
 try simp only [w64_eq,wu8_eq,gt_iff_lt,ge_iff_le,int_beq,fdiv33,fdiv45,bt_eq,tmodN,rdOfB,rdOfL,rdT3_eq,seq,maxI,minI,emp_eq,rdn71,rdn3,rdn79,rdn56,rdn80,rdn69,rdn4,rdn52]
 refine (itE h (fun q h=>((fun h=>?_) (il0 _ (by omega) _ _ _ _ h m (by omega)))) (fun q h=>?_))
 all_goals clear il0
 all_goals (try cases h)
 all_goals (try simp only [*,if_true,if_false,↓reduceIte,Option.bind_some,List.length_cons,List.length_nil,List.length_append,Bool.not_true,Bool.not_false,Bool.true_eq_false,Bool.false_eq_true])
 all_goals (repeat first | rw [if_pos (by omega)] | rw [if_neg (by omega)])
 all_goals first | exact h | apply h | rfl | (simp_all [-Bool.forall_bool];done) | (simp_all [-Bool.forall_bool];first | exact h | apply h) | (simp_all [-Bool.forall_bool,emp_eq,int_beq];done) | (simp_all [-Bool.forall_bool];(intros;simp_all;done)) | (simp_all [-Bool.forall_bool,rdset71,rdset3,rdset79,rdset56,rdset80,rdset69,rdset4,rdset52];done) | grind
theorem spec_l01In.rel (k : Nat) (a0 : Int) (a1 : Int) (a2 : Int) (r) (h : PK.spec_l01In.f a0 a1 a2 = some r) (m : Nat) (hm : k ≤ m) : spec_l01In.f m a0 a1 a2 = some r:=by
 rw [PK.spec_l01In.f] at h;rw [spec_l01In.f]
 try simp only [w64_eq,wu8_eq,gt_iff_lt,ge_iff_le,int_beq,fdiv33,fdiv45,bt_eq,tmodN,rdOfB,rdOfL] at h
 try simp only [shlR]
 try simp only [w64_eq,wu8_eq,gt_iff_lt,ge_iff_le,int_beq,fdiv33,fdiv45,bt_eq,tmodN,rdOfB,rdOfL,rdT3_eq,seq,maxI,minI,emp_eq,rdn71,rdn3,rdn79,rdn56,rdn80,rdn69,rdn4,rdn52]
 refine (itE h (fun q h=>?_) (fun q h=>?_))
 all_goals (try cases h)
 all_goals (try simp only [*,if_true,if_false,↓reduceIte,Option.bind_some,List.length_cons,List.length_nil,List.length_append,Bool.not_true,Bool.not_false,Bool.true_eq_false,Bool.false_eq_true])
 all_goals (repeat first | rw [if_pos (by omega)] | rw [if_neg (by omega)])
 all_goals first | exact h | apply h | rfl | (simp_all [-Bool.forall_bool];done) | (simp_all [-Bool.forall_bool];first | exact h | apply h) | (simp_all [-Bool.forall_bool,emp_eq,int_beq];done) | (simp_all [-Bool.forall_bool];(intros;simp_all;done)) | (simp_all [-Bool.forall_bool,rdset71,rdset3,rdset79,rdset56,rdset80,rdset69,rdset4,rdset52];done) | grind
end Go.Proofs.YteideicglgpfiaaGreat.M2

namespace Go.Proofs.YteideicglgpfiaaGreat.M2
open Go Go.RowKit Go.Proofs.YteideicglgpfiaaGreatW.PrintWords Go.Proofs.YteideicglgpfiaaGreat.PK
set_option linter.unusedVariables false
set_option linter.unusedSimpArgs false
theorem spec_ArenaOk.rel_l (k : Nat) : (∀ x3 x136000 r,PK.spec_ArenaOk.l0 k x3 x136000 = some r → ∀ m,k ≤ m → spec_ArenaOk.c2 m x3 x136000 = some r) ∧ (∀ x3 x5 x136000 x138000 x138001 r,PK.spec_ArenaOk.l1 k x3 x5 x136000 x138000 x138001 = some r → ∀ m,k ≤ m → spec_ArenaOk.c8 m x3 x5 x136000 x138000 x138001 = some r):=by
 induction k using Nat.strongRecOn with
 | _ k ih =>
 have il0:=fun k' hk'=>(ih k' hk').1;have il1:=fun k' hk'=>(ih k' hk').2;clear ih;refine ⟨?_,?_⟩
 ·intro x3 x136000 r h m hm;cases k with
  | zero=>simp only [PK.spec_ArenaOk.l0] at h;cases h
  | succ k =>
   obtain ⟨m,rfl⟩ : ∃ m',m = m' + 1:=⟨m - 1,by omega⟩;rw [PK.spec_ArenaOk.l0] at h;rw [spec_ArenaOk.c2]
   try simp only [w64_eq,wu8_eq,gt_iff_lt,ge_iff_le,int_beq,fdiv33,fdiv45,bt_eq,tmodN,rdOfB,rdOfL] at h
   try simp only [shlR]
   try simp only [w64_eq,wu8_eq,gt_iff_lt,ge_iff_le,int_beq,fdiv33,fdiv45,bt_eq,tmodN,rdOfB,rdOfL,rdT3_eq,seq,maxI,minI,emp_eq,rdn71,rdn3,rdn79,rdn56,rdn80,rdn69,rdn4,rdn52]
   refine (itE h (fun q h=>(itE h (fun q h=>(itE h (fun q h=>((fun h=>?_) (il1 _ (by omega) _ _ _ _ _ _ h m (by omega)))) (fun q h=>?_))) (fun q h=>(noE h)))) (fun q h=>?_))
   all_goals clear il0 il1
   all_goals (try cases h)
   all_goals (try simp only [*,if_true,if_false,↓reduceIte,Option.bind_some,List.length_cons,List.length_nil,List.length_append,Bool.not_true,Bool.not_false,Bool.true_eq_false,Bool.false_eq_true])
   all_goals (repeat first | rw [if_pos (by omega)] | rw [if_neg (by omega)])
   all_goals first | exact h | apply h | rfl | (simp_all [-Bool.forall_bool];done) | (simp_all [-Bool.forall_bool];first | exact h | apply h) | (simp_all [-Bool.forall_bool,emp_eq,int_beq];done) | (simp_all [-Bool.forall_bool];(intros;simp_all;done)) | (simp_all [-Bool.forall_bool,rdset71,rdset3,rdset79,rdset56,rdset80,rdset69,rdset4,rdset52];done) | grind
 intro x3 x5 x136000 x138000 x138001 r h m hm;cases k with
 | zero=>simp only [PK.spec_ArenaOk.l1] at h;cases h
 | succ k =>
  obtain ⟨m,rfl⟩ : ∃ m',m = m' + 1:=⟨m - 1,by omega⟩;rw [PK.spec_ArenaOk.l1] at h;rw [spec_ArenaOk.c8]
  try simp only [w64_eq,wu8_eq,gt_iff_lt,ge_iff_le,int_beq,fdiv33,fdiv45,bt_eq,tmodN,rdOfB,rdOfL] at h
  try simp only [shlR]
  try simp only [w64_eq,wu8_eq,gt_iff_lt,ge_iff_le,int_beq,fdiv33,fdiv45,bt_eq,tmodN,rdOfB,rdOfL,rdT3_eq,seq,maxI,minI,emp_eq,rdn71,rdn3,rdn79,rdn56,rdn80,rdn69,rdn4,rdn52]
  refine (itE h (fun q h=>(itE h (fun q h=>(itE h (fun q h=>(itE h (fun q h=>(itE h (fun q h=>?_) (fun q h=>((fun h=>?_) (il1 _ (by omega) _ _ _ _ _ _ h m (by omega)))))) (fun q h=>(itE h (fun q h=>((fun h=>?_) (il1 _ (by omega) _ _ _ _ _ _ h m (by omega)))) (fun q h=>(bnE h (fun _ g h=>(fun g=>(itE h (fun q h=>(itE h (fun q h=>(itE h (fun q h=>(itE h (fun q h=>((fun h=>?_) (il1 _ (by omega) _ _ _ _ _ _ h m (by omega)))) (fun q h=>?_))) (fun q h=>(noE h)))) (fun q h=>(noE h)))) (fun q h=>?_))) (spec_l01In.rel m _ _ _ _ g m (by omega))))))))) (fun q h=>(noE h)))) (fun q h=>(noE h)))) (fun q h=>((fun h=>?_) (il0 _ (by omega) _ _ _ h m (by omega)))))
  all_goals clear il0 il1
  all_goals (try cases h)
  all_goals (try simp only [*,if_true,if_false,↓reduceIte,Option.bind_some,List.length_cons,List.length_nil,List.length_append,Bool.not_true,Bool.not_false,Bool.true_eq_false,Bool.false_eq_true])
  all_goals (repeat first | rw [if_pos (by omega)] | rw [if_neg (by omega)])
  all_goals first | exact h | apply h | rfl | (simp_all [-Bool.forall_bool];done) | (simp_all [-Bool.forall_bool];first | exact h | apply h) | (simp_all [-Bool.forall_bool,emp_eq,int_beq];done) | (simp_all [-Bool.forall_bool];(intros;simp_all;done)) | (simp_all [-Bool.forall_bool,rdset71,rdset3,rdset79,rdset56,rdset80,rdset69,rdset4,rdset52];done) | grind
theorem spec_ArenaOk.rel (k : Nat) (l0_0 : List (S80)) (r) (h : PK.spec_ArenaOk.f k l0_0 = some r) (m : Nat) (hm : k ≤ m) : spec_ArenaOk.f m l0_0 = some r:=by
 have il0:=fun k' (_ : k' < k + 1)=>(spec_ArenaOk.rel_l k').1;have il1:=fun k' (_ : k' < k + 1)=>(spec_ArenaOk.rel_l k').2;rw [PK.spec_ArenaOk.f] at h;rw [spec_ArenaOk.f]
 try simp only [w64_eq,wu8_eq,gt_iff_lt,ge_iff_le,int_beq,fdiv33,fdiv45,bt_eq,tmodN,rdOfB,rdOfL] at h
 try simp only [shlR]
 try simp only [w64_eq,wu8_eq,gt_iff_lt,ge_iff_le,int_beq,fdiv33,fdiv45,bt_eq,tmodN,rdOfB,rdOfL,rdT3_eq,seq,maxI,minI,emp_eq,rdn71,rdn3,rdn79,rdn56,rdn80,rdn69,rdn4,rdn52]
 refine ((fun h=>?_) (il0 _ (by omega) _ _ _ h m (by omega)))
 all_goals clear il0 il1
 all_goals (try cases h)
 all_goals (try simp only [*,if_true,if_false,↓reduceIte,Option.bind_some,List.length_cons,List.length_nil,List.length_append,Bool.not_true,Bool.not_false,Bool.true_eq_false,Bool.false_eq_true])
 all_goals (repeat first | rw [if_pos (by omega)] | rw [if_neg (by omega)])
 all_goals first | exact h | apply h | rfl | (simp_all [-Bool.forall_bool];done) | (simp_all [-Bool.forall_bool];first | exact h | apply h) | (simp_all [-Bool.forall_bool,emp_eq,int_beq];done) | (simp_all [-Bool.forall_bool];(intros;simp_all;done)) | (simp_all [-Bool.forall_bool,rdset71,rdset3,rdset79,rdset56,rdset80,rdset69,rdset4,rdset52];done) | grind
theorem spec_RecOk.rel (k : Nat) (a0_0 : Int) (a0_1 : Int) (a0_2 : Int) (a0_3 : Int) (r) (h : PK.spec_RecOk.f k a0_0 a0_1 a0_2 a0_3 = some r) (m : Nat) (hm : k ≤ m) : spec_RecOk.f m a0_0 a0_1 a0_2 a0_3 = some r:=by
 rw [PK.spec_RecOk.f] at h;rw [spec_RecOk.f]
 try simp only [w64_eq,wu8_eq,gt_iff_lt,ge_iff_le,int_beq,fdiv33,fdiv45,bt_eq,tmodN,rdOfB,rdOfL] at h
 try simp only [shlR]
 try simp only [w64_eq,wu8_eq,gt_iff_lt,ge_iff_le,int_beq,fdiv33,fdiv45,bt_eq,tmodN,rdOfB,rdOfL,rdT3_eq,seq,maxI,minI,emp_eq,rdn71,rdn3,rdn79,rdn56,rdn80,rdn69,rdn4,rdn52]
 refine (bnE h (fun _ g h=>(fun g=>(itE h (fun q h=>(itE h (fun q h=>(itE h (fun q h=>?_) (fun q h=>?_))) (fun q h=>(bnE h (fun _ g h=>(fun g=>(itE h (fun q h=>(bnE h (fun _ g h=>(fun g=>(itE h (fun q h=>(itE h (fun q h=>(by cases k with | zero=>(simp only [PK.spec_RecOk.j0] at h;cases h) | succ k=>(rw [PK.spec_RecOk.j0] at h;(try simp only [w64_eq,wu8_eq,gt_iff_lt,ge_iff_le,int_beq,fdiv33,fdiv45,bt_eq,tmodN,rdOfB,rdOfL] at h);refine (itE h (fun q h=>?_) (fun q h=>(itE h (fun q h=>?_) (fun q h=>(itE h (fun q h=>?_) (fun q h=>(itE h (fun q h=>(itE h (fun q h=>(bnE h (fun _ g h=>(fun g=>?_) (spec_l01In.rel m _ _ _ _ g m (by omega))))) (fun q h=>?_))) (fun q h=>?_)))))))) <;> ((try cases h);(try simp only [*,if_true,if_false,↓reduceIte,Option.bind_some,List.length_cons,List.length_nil,List.length_append,Bool.not_true,Bool.not_false,Bool.true_eq_false,Bool.false_eq_true]);all_goals (repeat first | rw [if_pos (by omega)] | rw [if_neg (by omega)]);all_goals (first | exact h | apply h | rfl | (simp_all [-Bool.forall_bool];done) | (simp_all [-Bool.forall_bool];first | exact h | apply h) | (simp_all [-Bool.forall_bool,emp_eq,int_beq];done) | (simp_all [-Bool.forall_bool];(intros;simp_all;done)) | (simp_all [-Bool.forall_bool,rdset71,rdset3,rdset79,rdset56,rdset80,rdset69,rdset4,rdset52];done) | grind))))) (fun q h=>(by cases k with | zero=>(simp only [PK.spec_RecOk.j0] at h;cases h) | succ k=>(rw [PK.spec_RecOk.j0] at h;(try simp only [w64_eq,wu8_eq,gt_iff_lt,ge_iff_le,int_beq,fdiv33,fdiv45,bt_eq,tmodN,rdOfB,rdOfL] at h);refine (itE h (fun q h=>?_) (fun q h=>(itE h (fun q h=>?_) (fun q h=>(itE h (fun q h=>?_) (fun q h=>(itE h (fun q h=>(itE h (fun q h=>(bnE h (fun _ g h=>(fun g=>?_) (spec_l01In.rel m _ _ _ _ g m (by omega))))) (fun q h=>?_))) (fun q h=>?_)))))))) <;> ((try cases h);(try simp only [*,if_true,if_false,↓reduceIte,Option.bind_some,List.length_cons,List.length_nil,List.length_append,Bool.not_true,Bool.not_false,Bool.true_eq_false,Bool.false_eq_true]);all_goals (repeat first | rw [if_pos (by omega)] | rw [if_neg (by omega)]);all_goals (first | exact h | apply h | rfl | (simp_all [-Bool.forall_bool];done) | (simp_all [-Bool.forall_bool];first | exact h | apply h) | (simp_all [-Bool.forall_bool,emp_eq,int_beq];done) | (simp_all [-Bool.forall_bool];(intros;simp_all;done)) | (simp_all [-Bool.forall_bool,rdset71,rdset3,rdset79,rdset56,rdset80,rdset69,rdset4,rdset52];done) | grind))))))) (fun q h=>(by cases k with | zero=>(simp only [PK.spec_RecOk.j0] at h;cases h) | succ k=>(rw [PK.spec_RecOk.j0] at h;(try simp only [w64_eq,wu8_eq,gt_iff_lt,ge_iff_le,int_beq,fdiv33,fdiv45,bt_eq,tmodN,rdOfB,rdOfL] at h);refine (itE h (fun q h=>?_) (fun q h=>(itE h (fun q h=>?_) (fun q h=>(itE h (fun q h=>?_) (fun q h=>(itE h (fun q h=>(itE h (fun q h=>(bnE h (fun _ g h=>(fun g=>?_) (spec_l01In.rel m _ _ _ _ g m (by omega))))) (fun q h=>?_))) (fun q h=>?_)))))))) <;> ((try cases h);(try simp only [*,if_true,if_false,↓reduceIte,Option.bind_some,List.length_cons,List.length_nil,List.length_append,Bool.not_true,Bool.not_false,Bool.true_eq_false,Bool.false_eq_true]);all_goals (repeat first | rw [if_pos (by omega)] | rw [if_neg (by omega)]);all_goals (first | exact h | apply h | rfl | (simp_all [-Bool.forall_bool];done) | (simp_all [-Bool.forall_bool];first | exact h | apply h) | (simp_all [-Bool.forall_bool,emp_eq,int_beq];done) | (simp_all [-Bool.forall_bool];(intros;simp_all;done)) | (simp_all [-Bool.forall_bool,rdset71,rdset3,rdset79,rdset56,rdset80,rdset69,rdset4,rdset52];done) | grind))))))) (spec_l01In.rel m _ _ _ _ g m (by omega))))) (fun q h=>(by cases k with | zero=>(simp only [PK.spec_RecOk.j0] at h;cases h) | succ k=>(rw [PK.spec_RecOk.j0] at h;(try simp only [w64_eq,wu8_eq,gt_iff_lt,ge_iff_le,int_beq,fdiv33,fdiv45,bt_eq,tmodN,rdOfB,rdOfL] at h);refine (itE h (fun q h=>?_) (fun q h=>(itE h (fun q h=>?_) (fun q h=>(itE h (fun q h=>?_) (fun q h=>(itE h (fun q h=>(itE h (fun q h=>(bnE h (fun _ g h=>(fun g=>?_) (spec_l01In.rel m _ _ _ _ g m (by omega))))) (fun q h=>?_))) (fun q h=>?_)))))))) <;> ((try cases h);(try simp only [*,if_true,if_false,↓reduceIte,Option.bind_some,List.length_cons,List.length_nil,List.length_append,Bool.not_true,Bool.not_false,Bool.true_eq_false,Bool.false_eq_true]);all_goals (repeat first | rw [if_pos (by omega)] | rw [if_neg (by omega)]);all_goals (first | exact h | apply h | rfl | (simp_all [-Bool.forall_bool];done) | (simp_all [-Bool.forall_bool];first | exact h | apply h) | (simp_all [-Bool.forall_bool,emp_eq,int_beq];done) | (simp_all [-Bool.forall_bool];(intros;simp_all;done)) | (simp_all [-Bool.forall_bool,rdset71,rdset3,rdset79,rdset56,rdset80,rdset69,rdset4,rdset52];done) | grind))))))) (spec_l01In.rel m _ _ _ _ g m (by omega))))))) (fun q h=>?_))) (spec_l01In.rel m _ _ _ _ g m (by omega))))
 all_goals (try cases h)
 all_goals (try simp only [*,if_true,if_false,↓reduceIte,Option.bind_some,List.length_cons,List.length_nil,List.length_append,Bool.not_true,Bool.not_false,Bool.true_eq_false,Bool.false_eq_true])
 all_goals (repeat first | rw [if_pos (by omega)] | rw [if_neg (by omega)])
 all_goals first | exact h | apply h | rfl | (simp_all [-Bool.forall_bool];done) | (simp_all [-Bool.forall_bool];first | exact h | apply h) | (simp_all [-Bool.forall_bool,emp_eq,int_beq];done) | (simp_all [-Bool.forall_bool];(intros;simp_all;done)) | (simp_all [-Bool.forall_bool,rdset71,rdset3,rdset79,rdset56,rdset80,rdset69,rdset4,rdset52];done) | grind
end Go.Proofs.YteideicglgpfiaaGreat.M2

namespace Go.Proofs.YteideicglgpfiaaGreat.M2
open Go Go.RowKit Go.Proofs.YteideicglgpfiaaGreatW.PrintWords Go.Proofs.YteideicglgpfiaaGreat.PK
set_option linter.unusedVariables false
set_option linter.unusedSimpArgs false
theorem spec_l11Copy.rel_l (k : Nat) : (∀ x4 x111000 x113000 r,PK.spec_l11Copy.l0 k x4 x111000 x113000 = some r → ∀ m,k ≤ m → ∀ (h66 : List S80),spec_l11Copy.c3 m x4 x111000 h66 x113000 = some r):=by
 induction k using Nat.strongRecOn with
 | _ k ih =>
 have il0:=fun k' hk'=>(ih k' hk');clear ih;intro x4 x111000 x113000 r h m hm h66;cases k with
 | zero=>simp only [PK.spec_l11Copy.l0] at h;cases h
 | succ k =>
  obtain ⟨m,rfl⟩ : ∃ m',m = m' + 1:=⟨m - 1,by omega⟩;rw [PK.spec_l11Copy.l0] at h;rw [spec_l11Copy.c3]
  try simp only [w64_eq,wu8_eq,gt_iff_lt,ge_iff_le,int_beq,fdiv33,fdiv45,bt_eq,tmodN,rdOfB,rdOfL] at h
  try simp only [shlR]
  try simp only [w64_eq,wu8_eq,gt_iff_lt,ge_iff_le,int_beq,fdiv33,fdiv45,bt_eq,tmodN,rdOfB,rdOfL,rdT3_eq,seq,maxI,minI,emp_eq,rdn71,rdn3,rdn79,rdn56,rdn80,rdn69,rdn4,rdn52]
  refine (itE h (fun q h=>(itE h (fun q h=>(bsE h (fun h=>(itE h (fun q h=>(itE h (fun q h=>((fun h=>?_) (il0 _ (by omega) _ _ _ _ h m (by omega)))) (fun q h=>(noE h)))) (fun q h=>(noE h)))))) (fun q h=>(noE h)))) (fun q h=>?_))
  all_goals clear il0
  all_goals (try cases h)
  all_goals (try simp only [*,if_true,if_false,↓reduceIte,Option.bind_some,List.length_cons,List.length_nil,List.length_append,Bool.not_true,Bool.not_false,Bool.true_eq_false,Bool.false_eq_true])
  all_goals (repeat first | rw [if_pos (by omega)] | rw [if_neg (by omega)])
  all_goals first | exact h | apply h | rfl | (simp_all [-Bool.forall_bool];done) | (simp_all [-Bool.forall_bool];first | exact h | apply h) | (simp_all [-Bool.forall_bool,emp_eq,int_beq];done) | (simp_all [-Bool.forall_bool];(intros;simp_all;done)) | (simp_all [-Bool.forall_bool,rdset71,rdset3,rdset79,rdset56,rdset80,rdset69,rdset4,rdset52];done) | grind
theorem spec_l11Copy.rel (k : Nat) (l0_0 : List (S80)) (r) (h : PK.spec_l11Copy.f k l0_0 = some r) (m : Nat) (hm : k ≤ m) : spec_l11Copy.f m l0_0 = some r:=by
 have il0:=fun k' (_ : k' < k + 1)=>(spec_l11Copy.rel_l k');rw [PK.spec_l11Copy.f] at h;rw [spec_l11Copy.f]
 try simp only [w64_eq,wu8_eq,gt_iff_lt,ge_iff_le,int_beq,fdiv33,fdiv45,bt_eq,tmodN,rdOfB,rdOfL] at h
 try simp only [shlR]
 try simp only [w64_eq,wu8_eq,gt_iff_lt,ge_iff_le,int_beq,fdiv33,fdiv45,bt_eq,tmodN,rdOfB,rdOfL,rdT3_eq,seq,maxI,minI,emp_eq,rdn71,rdn3,rdn79,rdn56,rdn80,rdn69,rdn4,rdn52]
 refine ((fun h=>?_) (il0 _ (by omega) _ _ _ _ h m (by omega)))
 all_goals clear il0
 all_goals (try cases h)
 all_goals (try simp only [*,if_true,if_false,↓reduceIte,Option.bind_some,List.length_cons,List.length_nil,List.length_append,Bool.not_true,Bool.not_false,Bool.true_eq_false,Bool.false_eq_true])
 all_goals (repeat first | rw [if_pos (by omega)] | rw [if_neg (by omega)])
 all_goals first | exact h | apply h | rfl | (simp_all [-Bool.forall_bool];done) | (simp_all [-Bool.forall_bool];first | exact h | apply h) | (simp_all [-Bool.forall_bool,emp_eq,int_beq];done) | (simp_all [-Bool.forall_bool];(intros;simp_all;done)) | (simp_all [-Bool.forall_bool,rdset71,rdset3,rdset79,rdset56,rdset80,rdset69,rdset4,rdset52];done) | grind
theorem spec_l11Root.rel (k : Nat) (l0_0 : List (S80)) (a1 : Int) (r) (h : PK.spec_l11Root.f l0_0 a1 = some r) (m : Nat) (hm : k ≤ m) : spec_l11Root.f m l0_0 a1 = some r:=by
 rw [PK.spec_l11Root.f] at h;rw [spec_l11Root.f]
 try simp only [w64_eq,wu8_eq,gt_iff_lt,ge_iff_le,int_beq,fdiv33,fdiv45,bt_eq,tmodN,rdOfB,rdOfL] at h
 try simp only [shlR]
 try simp only [w64_eq,wu8_eq,gt_iff_lt,ge_iff_le,int_beq,fdiv33,fdiv45,bt_eq,tmodN,rdOfB,rdOfL,rdT3_eq,seq,maxI,minI,emp_eq,rdn71,rdn3,rdn79,rdn56,rdn80,rdn69,rdn4,rdn52]
 refine (itE h (fun q h=>?_) (fun q h=>(bnE h (fun _ g h=>(fun g=>(itE h (fun q h=>(itE h (fun q h=>(itE h (fun q h=>?_) (fun q h=>(noE h)))) (fun q h=>(noE h)))) (fun q h=>?_))) (spec_l01In.rel m _ _ _ _ g m (by omega))))))
 all_goals (try cases h)
 all_goals (try simp only [*,if_true,if_false,↓reduceIte,Option.bind_some,List.length_cons,List.length_nil,List.length_append,Bool.not_true,Bool.not_false,Bool.true_eq_false,Bool.false_eq_true])
 all_goals (repeat first | rw [if_pos (by omega)] | rw [if_neg (by omega)])
 all_goals first | exact h | apply h | rfl | (simp_all [-Bool.forall_bool];done) | (simp_all [-Bool.forall_bool];first | exact h | apply h) | (simp_all [-Bool.forall_bool,emp_eq,int_beq];done) | (simp_all [-Bool.forall_bool];(intros;simp_all;done)) | (simp_all [-Bool.forall_bool,rdset71,rdset3,rdset79,rdset56,rdset80,rdset69,rdset4,rdset52];done) | grind
theorem spec_l11Get.rel (k : Nat) (l0_0 : List (S80)) (a1 : Int) (a2 : Int) (r) (h : PK.spec_l11Get.f l0_0 a1 a2 = some r) (m : Nat) (hm : k ≤ m) : spec_l11Get.f m l0_0 a1 a2 = some r:=by
 rw [PK.spec_l11Get.f] at h;rw [spec_l11Get.f]
 try simp only [w64_eq,wu8_eq,gt_iff_lt,ge_iff_le,int_beq,fdiv33,fdiv45,bt_eq,tmodN,rdOfB,rdOfL] at h
 try simp only [shlR]
 try simp only [w64_eq,wu8_eq,gt_iff_lt,ge_iff_le,int_beq,fdiv33,fdiv45,bt_eq,tmodN,rdOfB,rdOfL,rdT3_eq,seq,maxI,minI,emp_eq,rdn71,rdn3,rdn79,rdn56,rdn80,rdn69,rdn4,rdn52]
 refine (itE h (fun q h=>?_) (fun q h=>(itE h (fun q h=>(itE h (fun q h=>(itE h (fun q h=>(itE h (fun q h=>(itE h (fun q h=>?_) (fun q h=>(itE h (fun q h=>(itE h (fun q h=>(itE h (fun q h=>(itE h (fun q h=>?_) (fun q h=>(noE h)))) (fun q h=>(noE h)))) (fun q h=>(noE h)))) (fun q h=>(noE h)))))) (fun q h=>(noE h)))) (fun q h=>(noE h)))) (fun q h=>(noE h)))) (fun q h=>(noE h)))))
 all_goals (try cases h)
 all_goals (try simp only [*,if_true,if_false,↓reduceIte,Option.bind_some,List.length_cons,List.length_nil,List.length_append,Bool.not_true,Bool.not_false,Bool.true_eq_false,Bool.false_eq_true])
 all_goals (repeat first | rw [if_pos (by omega)] | rw [if_neg (by omega)])
 all_goals first | exact h | apply h | rfl | (simp_all [-Bool.forall_bool];done) | (simp_all [-Bool.forall_bool];first | exact h | apply h) | (simp_all [-Bool.forall_bool,emp_eq,int_beq];done) | (simp_all [-Bool.forall_bool];(intros;simp_all;done)) | (simp_all [-Bool.forall_bool,rdset71,rdset3,rdset79,rdset56,rdset80,rdset69,rdset4,rdset52];done) | grind
end Go.Proofs.YteideicglgpfiaaGreat.M2

namespace Go.Proofs.YteideicglgpfiaaGreat.M2
open Go Go.RowKit Go.Proofs.YteideicglgpfiaaGreatW.PrintWords Go.Proofs.YteideicglgpfiaaGreat.PK
set_option linter.unusedVariables false
set_option linter.unusedSimpArgs false
theorem spec_l12At.rel_l (k : Nat) : (∀ x1 x5 x244000 x244001 x244002 r,PK.spec_l12At.l0 k x1 x5 x244000 x244001 x244002 = some r → ∀ m,k ≤ m → spec_l12At.c2 m x1 x5 x244000 x244001 x244002 = some r):=by
 induction k using Nat.strongRecOn with
 | _ k ih =>
 have il0:=fun k' hk'=>(ih k' hk');clear ih;intro x1 x5 x244000 x244001 x244002 r h m hm;cases k with
 | zero=>simp only [PK.spec_l12At.l0] at h;cases h
 | succ k =>
  obtain ⟨m,rfl⟩ : ∃ m',m = m' + 1:=⟨m - 1,by omega⟩;rw [PK.spec_l12At.l0] at h;rw [spec_l12At.c2]
  try simp only [w64_eq,wu8_eq,gt_iff_lt,ge_iff_le,int_beq,fdiv33,fdiv45,bt_eq,tmodN,rdOfB,rdOfL] at h
  try simp only [shlR]
  try simp only [w64_eq,wu8_eq,gt_iff_lt,ge_iff_le,int_beq,fdiv33,fdiv45,bt_eq,tmodN,rdOfB,rdOfL,rdT3_eq,seq,maxI,minI,emp_eq,rdn71,rdn3,rdn79,rdn56,rdn80,rdn69,rdn4,rdn52]
  refine (itE h (fun q h=>(itE h (fun q h=>(itE h (fun q h=>?_) (fun q h=>((fun h=>?_) (il0 _ (by omega) _ _ _ _ _ _ h m (by omega)))))) (fun q h=>(noE h)))) (fun q h=>?_))
  all_goals clear il0
  all_goals (try cases h)
  all_goals (try simp only [*,if_true,if_false,↓reduceIte,Option.bind_some,List.length_cons,List.length_nil,List.length_append,Bool.not_true,Bool.not_false,Bool.true_eq_false,Bool.false_eq_true])
  all_goals (repeat first | rw [if_pos (by omega)] | rw [if_neg (by omega)])
  all_goals first | exact h | apply h | rfl | (simp_all [-Bool.forall_bool];done) | (simp_all [-Bool.forall_bool];first | exact h | apply h) | (simp_all [-Bool.forall_bool,emp_eq,int_beq];done) | (simp_all [-Bool.forall_bool];(intros;simp_all;done)) | (simp_all [-Bool.forall_bool,rdset71,rdset3,rdset79,rdset56,rdset80,rdset69,rdset4,rdset52];done) | grind
theorem spec_l12At.rel (k : Nat) (l0_0 : List (S69)) (l0_1 : List (S80)) (a0_2 : Int) (a1 : Int) (r) (h : PK.spec_l12At.f k l0_0 l0_1 a0_2 a1 = some r) (m : Nat) (hm : k ≤ m) : spec_l12At.f m l0_0 l0_1 a0_2 a1 = some r:=by
 have il0:=fun k' (_ : k' < k + 1)=>(spec_l12At.rel_l k');rw [PK.spec_l12At.f] at h;rw [spec_l12At.f]
 try simp only [w64_eq,wu8_eq,gt_iff_lt,ge_iff_le,int_beq,fdiv33,fdiv45,bt_eq,tmodN,rdOfB,rdOfL] at h
 try simp only [shlR]
 try simp only [w64_eq,wu8_eq,gt_iff_lt,ge_iff_le,int_beq,fdiv33,fdiv45,bt_eq,tmodN,rdOfB,rdOfL,rdT3_eq,seq,maxI,minI,emp_eq,rdn71,rdn3,rdn79,rdn56,rdn80,rdn69,rdn4,rdn52]
 refine ((fun h=>?_) (il0 _ (by omega) _ _ _ _ _ _ h m (by omega)))
 all_goals clear il0
 all_goals (try cases h)
 all_goals (try simp only [*,if_true,if_false,↓reduceIte,Option.bind_some,List.length_cons,List.length_nil,List.length_append,Bool.not_true,Bool.not_false,Bool.true_eq_false,Bool.false_eq_true])
 all_goals (repeat first | rw [if_pos (by omega)] | rw [if_neg (by omega)])
 all_goals first | exact h | apply h | rfl | (simp_all [-Bool.forall_bool];done) | (simp_all [-Bool.forall_bool];first | exact h | apply h) | (simp_all [-Bool.forall_bool,emp_eq,int_beq];done) | (simp_all [-Bool.forall_bool];(intros;simp_all;done)) | (simp_all [-Bool.forall_bool,rdset71,rdset3,rdset79,rdset56,rdset80,rdset69,rdset4,rdset52];done) | grind
theorem spec_l11Has.rel_l (k : Nat) : (∀ x1 x5 x6 x150000 r,PK.spec_l11Has.l0 k x1 x5 x6 x150000 = some r → ∀ m,k ≤ m → spec_l11Has.c6 m x1 x6 x150000 x5 = some r):=by
 induction k using Nat.strongRecOn with
 | _ k ih =>
 have il0:=fun k' hk'=>(ih k' hk');clear ih;intro x1 x5 x6 x150000 r h m hm;cases k with
 | zero=>simp only [PK.spec_l11Has.l0] at h;cases h
 | succ k =>
  obtain ⟨m,rfl⟩ : ∃ m',m = m' + 1:=⟨m - 1,by omega⟩;rw [PK.spec_l11Has.l0] at h;rw [spec_l11Has.c6]
  try simp only [w64_eq,wu8_eq,gt_iff_lt,ge_iff_le,int_beq,fdiv33,fdiv45,bt_eq,tmodN,rdOfB,rdOfL] at h
  try simp only [shlR]
  try simp only [w64_eq,wu8_eq,gt_iff_lt,ge_iff_le,int_beq,fdiv33,fdiv45,bt_eq,tmodN,rdOfB,rdOfL,rdT3_eq,seq,maxI,minI,emp_eq,rdn71,rdn3,rdn79,rdn56,rdn80,rdn69,rdn4,rdn52]
  refine (itE h (fun q h=>(itE h (fun q h=>(itE h (fun q h=>(itE h (fun q h=>(itE h (fun q h=>(itE h (fun q h=>(itE h (fun q h=>(itE h (fun q h=>((fun h=>?_) (il0 _ (by omega) _ _ _ _ _ h m (by omega)))) (fun q h=>(noE h)))) (fun q h=>(noE h)))) (fun q h=>((fun h=>?_) (il0 _ (by omega) _ _ _ _ _ h m (by omega)))))) (fun q h=>(noE h)))) (fun q h=>(noE h)))) (fun q h=>(noE h)))) (fun q h=>(noE h)))) (fun q h=>?_))
  all_goals clear il0
  all_goals (try cases h)
  all_goals (try simp only [*,if_true,if_false,↓reduceIte,Option.bind_some,List.length_cons,List.length_nil,List.length_append,Bool.not_true,Bool.not_false,Bool.true_eq_false,Bool.false_eq_true])
  all_goals (repeat first | rw [if_pos (by omega)] | rw [if_neg (by omega)])
  all_goals first | exact h | apply h | rfl | (simp_all [-Bool.forall_bool];done) | (simp_all [-Bool.forall_bool];first | exact h | apply h) | (simp_all [-Bool.forall_bool,emp_eq,int_beq];done) | (simp_all [-Bool.forall_bool];(intros;simp_all;done)) | (simp_all [-Bool.forall_bool,rdset71,rdset3,rdset79,rdset56,rdset80,rdset69,rdset4,rdset52];done) | grind
theorem spec_l11Has.rel (k : Nat) (l0_0 : List (S80)) (a1 : Int) (r) (h : PK.spec_l11Has.f k l0_0 a1 = some r) (m : Nat) (hm : k ≤ m) : spec_l11Has.f m l0_0 a1 = some r:=by
 have il0:=fun k' (_ : k' < k + 1)=>(spec_l11Has.rel_l k');rw [PK.spec_l11Has.f] at h;rw [spec_l11Has.f]
 try simp only [w64_eq,wu8_eq,gt_iff_lt,ge_iff_le,int_beq,fdiv33,fdiv45,bt_eq,tmodN,rdOfB,rdOfL] at h
 try simp only [shlR]
 try simp only [w64_eq,wu8_eq,gt_iff_lt,ge_iff_le,int_beq,fdiv33,fdiv45,bt_eq,tmodN,rdOfB,rdOfL,rdT3_eq,seq,maxI,minI,emp_eq,rdn71,rdn3,rdn79,rdn56,rdn80,rdn69,rdn4,rdn52]
 refine (itE h (fun q h=>(itE h (fun q h=>(bsE h (fun h=>(itE h (fun q h=>?_) (fun q h=>(itE h (fun q h=>(itE h (fun q h=>((fun h=>?_) (il0 _ (by omega) _ _ _ _ _ h m (by omega)))) (fun q h=>(noE h)))) (fun q h=>(noE h)))))))) (fun q h=>(noE h)))) (fun q h=>(noE h)))
 all_goals clear il0
 all_goals (try cases h)
 all_goals (try simp only [*,if_true,if_false,↓reduceIte,Option.bind_some,List.length_cons,List.length_nil,List.length_append,Bool.not_true,Bool.not_false,Bool.true_eq_false,Bool.false_eq_true])
 all_goals (repeat first | rw [if_pos (by omega)] | rw [if_neg (by omega)])
 all_goals first | exact h | apply h | rfl | (simp_all [-Bool.forall_bool];done) | (simp_all [-Bool.forall_bool];first | exact h | apply h) | (simp_all [-Bool.forall_bool,emp_eq,int_beq];done) | (simp_all [-Bool.forall_bool];(intros;simp_all;done)) | (simp_all [-Bool.forall_bool,rdset71,rdset3,rdset79,rdset56,rdset80,rdset69,rdset4,rdset52];done) | grind
end Go.Proofs.YteideicglgpfiaaGreat.M2

namespace Go.Proofs.YteideicglgpfiaaGreat.M2
open Go Go.RowKit Go.Proofs.YteideicglgpfiaaGreatW.PrintWords Go.Proofs.YteideicglgpfiaaGreat.PK
set_option linter.unusedVariables false
set_option linter.unusedSimpArgs false
theorem spec_SweepArena.rel_l (k : Nat) : (∀ x1 x6 x7 x8 x160000 r,PK.spec_SweepArena.l0 k x1 x6 x7 x8 x160000 = some r → ∀ m,k ≤ m → ∀ (h66 : List S80),spec_SweepArena.c4 m x1 x7 x8 x160000 h66 x6 = some (r.1,r.2)) ∧ (∀ x1 x6 x9 x10 x160000 r,PK.spec_SweepArena.l1 k x1 x6 x9 x10 x160000 = some r → ∀ m,k ≤ m → ∀ (h66 : List S80),spec_SweepArena.c11 m x1 x10 x160000 h66 x6 x9 = some (r.1,r.2)) ∧ (∀ x1 x6 x9 x10 x11 x12 x160000 r,PK.spec_SweepArena.l2 k x1 x6 x9 x10 x11 x12 x160000 = some r → ∀ m,k ≤ m → ∀ (h66 : List S80),spec_SweepArena.c15 m x1 x10 x12 x160000 h66 x6 x9 x11 = some (r.1,r.2)) ∧ (∀ x6 x9 x13 x15 x160000 x188000 r,PK.spec_SweepArena.l3 k x6 x9 x13 x15 x160000 x188000 = some r → ∀ m,k ≤ m → ∀ (h66 : List S80),spec_SweepArena.c21 m x15 x160000 h66 x6 x9 x13 x188000 = some (r.1,r.2)) ∧ (∀ x6 x9 x13 x15 x17 x160000 x188000 x198000 x198001 r,PK.spec_SweepArena.l4 k x6 x9 x13 x15 x17 x160000 x188000 x198000 x198001 = some r → ∀ m,k ≤ m → ∀ (h66 : List S80),spec_SweepArena.c26 m x15 x17 x160000 h66 x6 x9 x13 (x188000) x198001 x198000 = some (r.1,r.2)) ∧ (∀ x6 x13 x18 x188000 r,PK.spec_SweepArena.l5 k x6 x13 x18 x188000 = some r → ∀ m,k ≤ m → ∀ (h65 : List S80),spec_SweepArena.c33 m x18 h65 x6 x13 x188000 = some (r.1,r.2)):=by
 induction k using Nat.strongRecOn with
 | _ k ih =>
 have il0:=fun k' hk'=>(ih k' hk').1;have il1:=fun k' hk'=>(ih k' hk').2.1;have il2:=fun k' hk'=>(ih k' hk').2.2.1;have il3:=fun k' hk'=>(ih k' hk').2.2.2.1;have il4:=fun k' hk'=>(ih k' hk').2.2.2.2.1;have il5:=fun k' hk'=>(ih k' hk').2.2.2.2.2;clear ih;refine ⟨?_,?_,?_,?_,?_,?_⟩
 ·intro x1 x6 x7 x8 x160000 r h m hm h66;cases k with
  | zero=>simp only [PK.spec_SweepArena.l0] at h;cases h
  | succ k =>
   obtain ⟨m,rfl⟩ : ∃ m',m = m' + 1:=⟨m - 1,by omega⟩;rw [PK.spec_SweepArena.l0] at h;rw [spec_SweepArena.c4]
   try simp only [w64_eq,wu8_eq,gt_iff_lt,ge_iff_le,int_beq,fdiv33,fdiv45,bt_eq,tmodN,rdOfB,rdOfL] at h
   try simp only [shlR]
   try simp only [w64_eq,wu8_eq,gt_iff_lt,ge_iff_le,int_beq,fdiv33,fdiv45,bt_eq,tmodN,rdOfB,rdOfL,rdT3_eq,seq,maxI,minI,emp_eq,rdn71,rdn3,rdn79,rdn56,rdn80,rdn69,rdn4,rdn52]
   refine (itE h (fun q h=>(itE h (fun q h=>(itE h (fun q h=>(bnE h (fun _ g h=>(fun g=>((fun h=>?_) (il0 _ (by omega) _ _ _ _ _ _ h m (by omega)))) (spec_l11Root.rel m _ _ _ g m (by omega))))) (fun q h=>(noE h)))) (fun q h=>(by cases k with | zero=>(simp only [PK.spec_SweepArena.j1] at h;cases h) | succ k=>(rw [PK.spec_SweepArena.j1] at h;(try simp only [w64_eq,wu8_eq,gt_iff_lt,ge_iff_le,int_beq,fdiv33,fdiv45,bt_eq,tmodN,rdOfB,rdOfL] at h);refine (itE h (fun q h=>(itE h (fun q h=>(itE h (fun q h=>((fun h=>?_) (il1 _ (by omega) _ _ _ _ _ _ h m (by omega)))) (fun q h=>(noE h)))) (fun q h=>(noE h)))) (fun q h=>(bnE h (fun _ g h=>(fun g=>?_) (spec_l11Copy.rel _ _ _ g m (by omega)))))) <;> ((try cases h);(try simp only [*,if_true,if_false,↓reduceIte,Option.bind_some,List.length_cons,List.length_nil,List.length_append,Bool.not_true,Bool.not_false,Bool.true_eq_false,Bool.false_eq_true]);all_goals (repeat first | rw [if_pos (by omega)] | rw [if_neg (by omega)]);all_goals (first | exact h | apply h | rfl | (simp_all [-Bool.forall_bool];done) | (simp_all [-Bool.forall_bool];first | exact h | apply h) | (simp_all [-Bool.forall_bool,emp_eq,int_beq];done) | (simp_all [-Bool.forall_bool];(intros;simp_all;done)) | (simp_all [-Bool.forall_bool,rdset71,rdset3,rdset79,rdset56,rdset80,rdset69,rdset4,rdset52];done) | grind))))))) (fun q h=>(by cases k with | zero=>(simp only [PK.spec_SweepArena.j1] at h;cases h) | succ k=>(rw [PK.spec_SweepArena.j1] at h;(try simp only [w64_eq,wu8_eq,gt_iff_lt,ge_iff_le,int_beq,fdiv33,fdiv45,bt_eq,tmodN,rdOfB,rdOfL] at h);refine (itE h (fun q h=>(itE h (fun q h=>(itE h (fun q h=>((fun h=>?_) (il1 _ (by omega) _ _ _ _ _ _ h m (by omega)))) (fun q h=>(noE h)))) (fun q h=>(noE h)))) (fun q h=>(bnE h (fun _ g h=>(fun g=>?_) (spec_l11Copy.rel _ _ _ g m (by omega)))))) <;> ((try cases h);(try simp only [*,if_true,if_false,↓reduceIte,Option.bind_some,List.length_cons,List.length_nil,List.length_append,Bool.not_true,Bool.not_false,Bool.true_eq_false,Bool.false_eq_true]);all_goals (repeat first | rw [if_pos (by omega)] | rw [if_neg (by omega)]);all_goals (first | exact h | apply h | rfl | (simp_all [-Bool.forall_bool];done) | (simp_all [-Bool.forall_bool];first | exact h | apply h) | (simp_all [-Bool.forall_bool,emp_eq,int_beq];done) | (simp_all [-Bool.forall_bool];(intros;simp_all;done)) | (simp_all [-Bool.forall_bool,rdset71,rdset3,rdset79,rdset56,rdset80,rdset69,rdset4,rdset52];done) | grind))))))
   all_goals clear il0 il1 il2 il3 il4 il5
   all_goals (try cases h)
   all_goals (try simp only [*,if_true,if_false,↓reduceIte,Option.bind_some,List.length_cons,List.length_nil,List.length_append,Bool.not_true,Bool.not_false,Bool.true_eq_false,Bool.false_eq_true])
   all_goals (repeat first | rw [if_pos (by omega)] | rw [if_neg (by omega)])
   all_goals first | exact h | apply h | rfl | (simp_all [-Bool.forall_bool];done) | (simp_all [-Bool.forall_bool];first | exact h | apply h) | (simp_all [-Bool.forall_bool,emp_eq,int_beq];done) | (simp_all [-Bool.forall_bool];(intros;simp_all;done)) | (simp_all [-Bool.forall_bool,rdset71,rdset3,rdset79,rdset56,rdset80,rdset69,rdset4,rdset52];done) | grind
 ·intro x1 x6 x9 x10 x160000 r h m hm h66;cases k with
  | zero=>simp only [PK.spec_SweepArena.l1] at h;cases h
  | succ k =>
   obtain ⟨m,rfl⟩ : ∃ m',m = m' + 1:=⟨m - 1,by omega⟩;rw [PK.spec_SweepArena.l1] at h;rw [spec_SweepArena.c11]
   try simp only [w64_eq,wu8_eq,gt_iff_lt,ge_iff_le,int_beq,fdiv33,fdiv45,bt_eq,tmodN,rdOfB,rdOfL] at h
   try simp only [shlR]
   try simp only [w64_eq,wu8_eq,gt_iff_lt,ge_iff_le,int_beq,fdiv33,fdiv45,bt_eq,tmodN,rdOfB,rdOfL,rdT3_eq,seq,maxI,minI,emp_eq,rdn71,rdn3,rdn79,rdn56,rdn80,rdn69,rdn4,rdn52]
   refine (itE h (fun q h=>(itE h (fun q h=>(bnE h (fun _ g h=>(fun g=>((fun h=>?_) (il2 _ (by omega) _ _ _ _ _ _ _ _ h m (by omega)))) (spec_l11Has.rel _ _ _ _ g m (by omega))))) (fun q h=>(noE h)))) (fun q h=>(itE h (fun q h=>(itE h (fun q h=>((fun h=>?_) (il3 _ (by omega) _ _ _ _ _ _ _ h m (by omega)))) (fun q h=>(noE h)))) (fun q h=>(noE h)))))
   all_goals clear il0 il1 il2 il3 il4 il5
   all_goals (try cases h)
   all_goals (try simp only [*,if_true,if_false,↓reduceIte,Option.bind_some,List.length_cons,List.length_nil,List.length_append,Bool.not_true,Bool.not_false,Bool.true_eq_false,Bool.false_eq_true])
   all_goals (repeat first | rw [if_pos (by omega)] | rw [if_neg (by omega)])
   all_goals first | exact h | apply h | rfl | (simp_all [-Bool.forall_bool];done) | (simp_all [-Bool.forall_bool];first | exact h | apply h) | (simp_all [-Bool.forall_bool,emp_eq,int_beq];done) | (simp_all [-Bool.forall_bool];(intros;simp_all;done)) | (simp_all [-Bool.forall_bool,rdset71,rdset3,rdset79,rdset56,rdset80,rdset69,rdset4,rdset52];done) | grind
 ·intro x1 x6 x9 x10 x11 x12 x160000 r h m hm h66;cases k with
  | zero=>simp only [PK.spec_SweepArena.l2] at h;cases h
  | succ k =>
   obtain ⟨m,rfl⟩ : ∃ m',m = m' + 1:=⟨m - 1,by omega⟩;rw [PK.spec_SweepArena.l2] at h;rw [spec_SweepArena.c15]
   try simp only [w64_eq,wu8_eq,gt_iff_lt,ge_iff_le,int_beq,fdiv33,fdiv45,bt_eq,tmodN,rdOfB,rdOfL] at h
   try simp only [shlR]
   try simp only [w64_eq,wu8_eq,gt_iff_lt,ge_iff_le,int_beq,fdiv33,fdiv45,bt_eq,tmodN,rdOfB,rdOfL,rdT3_eq,seq,maxI,minI,emp_eq,rdn71,rdn3,rdn79,rdn56,rdn80,rdn69,rdn4,rdn52]
   refine (itE h (fun q h=>(itE h (fun q h=>(itE h (fun q h=>(itE h (fun q h=>((fun h=>?_) (il2 _ (by omega) _ _ _ _ _ _ _ _ h m (by omega)))) (fun q h=>((fun h=>?_) (il2 _ (by omega) _ _ _ _ _ _ _ _ h m (by omega)))))) (fun q h=>(noE h)))) (fun q h=>(noE h)))) (fun q h=>((fun h=>?_) (il1 _ (by omega) _ _ _ _ _ _ h m (by omega)))))
   all_goals clear il0 il1 il2 il3 il4 il5
   all_goals (try cases h)
   all_goals (try simp only [*,if_true,if_false,↓reduceIte,Option.bind_some,List.length_cons,List.length_nil,List.length_append,Bool.not_true,Bool.not_false,Bool.true_eq_false,Bool.false_eq_true])
   all_goals (repeat first | rw [if_pos (by omega)] | rw [if_neg (by omega)])
   all_goals first | exact h | apply h | rfl | (simp_all [-Bool.forall_bool];done) | (simp_all [-Bool.forall_bool];first | exact h | apply h) | (simp_all [-Bool.forall_bool,emp_eq,int_beq];done) | (simp_all [-Bool.forall_bool];(intros;simp_all;done)) | (simp_all [-Bool.forall_bool,rdset71,rdset3,rdset79,rdset56,rdset80,rdset69,rdset4,rdset52];done) | grind
 ·intro x6 x9 x13 x15 x160000 x188000 r h m hm h66;cases k with
  | zero=>simp only [PK.spec_SweepArena.l3] at h;cases h
  | succ k =>
   obtain ⟨m,rfl⟩ : ∃ m',m = m' + 1:=⟨m - 1,by omega⟩;rw [PK.spec_SweepArena.l3] at h;rw [spec_SweepArena.c21]
   try simp only [w64_eq,wu8_eq,gt_iff_lt,ge_iff_le,int_beq,fdiv33,fdiv45,bt_eq,tmodN,rdOfB,rdOfL] at h
   try simp only [shlR]
   try simp only [w64_eq,wu8_eq,gt_iff_lt,ge_iff_le,int_beq,fdiv33,fdiv45,bt_eq,tmodN,rdOfB,rdOfL,rdT3_eq,seq,maxI,minI,emp_eq,rdn71,rdn3,rdn79,rdn56,rdn80,rdn69,rdn4,rdn52]
   refine (itE h (fun q h=>(itE h (fun q h=>(itE h (fun q h=>(itE h (fun q h=>(bsE h (fun h=>(itE h (fun q h=>((fun h=>?_) (il4 _ (by omega) _ _ _ _ _ _ _ _ _ _ h m (by omega)))) (fun q h=>(noE h)))))) (fun q h=>((fun h=>?_) (il3 _ (by omega) _ _ _ _ _ _ _ h m (by omega)))))) (fun q h=>(noE h)))) (fun q h=>(noE h)))) (fun q h=>((fun h=>?_) (il5 _ (by omega) _ _ _ _ _ h m (by omega)))))
   all_goals clear il0 il1 il2 il3 il4 il5
   all_goals (try cases h)
   all_goals (try simp only [*,if_true,if_false,↓reduceIte,Option.bind_some,List.length_cons,List.length_nil,List.length_append,Bool.not_true,Bool.not_false,Bool.true_eq_false,Bool.false_eq_true])
   all_goals (repeat first | rw [if_pos (by omega)] | rw [if_neg (by omega)])
   all_goals first | exact h | apply h | rfl | (simp_all [-Bool.forall_bool];done) | (simp_all [-Bool.forall_bool];first | exact h | apply h) | (simp_all [-Bool.forall_bool,emp_eq,int_beq];done) | (simp_all [-Bool.forall_bool];(intros;simp_all;done)) | (simp_all [-Bool.forall_bool,rdset71,rdset3,rdset79,rdset56,rdset80,rdset69,rdset4,rdset52];done) | grind
 ·intro x6 x9 x13 x15 x17 x160000 x188000 x198000 x198001 r h m hm h66;cases k with
  | zero=>simp only [PK.spec_SweepArena.l4] at h;cases h
  | succ k =>
   obtain ⟨m,rfl⟩ : ∃ m',m = m' + 1:=⟨m - 1,by omega⟩;rw [PK.spec_SweepArena.l4] at h;rw [spec_SweepArena.c26]
   try simp only [w64_eq,wu8_eq,gt_iff_lt,ge_iff_le,int_beq,fdiv33,fdiv45,bt_eq,tmodN,rdOfB,rdOfL] at h
   try simp only [shlR]
   try simp only [w64_eq,wu8_eq,gt_iff_lt,ge_iff_le,int_beq,fdiv33,fdiv45,bt_eq,tmodN,rdOfB,rdOfL,rdT3_eq,seq,maxI,minI,emp_eq,rdn71,rdn3,rdn79,rdn56,rdn80,rdn69,rdn4,rdn52]
   refine (itE h (fun q h=>(by cases k with | zero=>(simp only [PK.spec_SweepArena.j6] at h;cases h) | succ k=>(rw [PK.spec_SweepArena.j6] at h;(try simp only [w64_eq,wu8_eq,gt_iff_lt,ge_iff_le,int_beq,fdiv33,fdiv45,bt_eq,tmodN,rdOfB,rdOfL] at h);refine (itE h (fun q h=>(itE h (fun q h=>(itE h (fun q h=>(itE h (fun q h=>(itE h (fun q h=>(itE h (fun q h=>((fun h=>?_) (il4 _ (by omega) _ _ _ _ _ _ _ _ _ _ h m (by omega)))) (fun q h=>(noE h)))) (fun q h=>(noE h)))) (fun q h=>((fun h=>?_) (il4 _ (by omega) _ _ _ _ _ _ _ _ _ _ h m (by omega)))))) (fun q h=>(noE h)))) (fun q h=>(noE h)))) (fun q h=>(itE h (fun q h=>(itE h (fun q h=>(itE h (fun q h=>((fun h=>?_) (il3 _ (by omega) _ _ _ _ _ _ _ h m (by omega)))) (fun q h=>(noE h)))) (fun q h=>(noE h)))) (fun q h=>(noE h))))) <;> ((try cases h);(try simp only [*,if_true,if_false,↓reduceIte,Option.bind_some,List.length_cons,List.length_nil,List.length_append,Bool.not_true,Bool.not_false,Bool.true_eq_false,Bool.false_eq_true]);all_goals (repeat first | rw [if_pos (by omega)] | rw [if_neg (by omega)]);all_goals (first | exact h | apply h | rfl | (simp_all [-Bool.forall_bool];done) | (simp_all [-Bool.forall_bool];first | exact h | apply h) | (simp_all [-Bool.forall_bool,emp_eq,int_beq];done) | (simp_all [-Bool.forall_bool];(intros;simp_all;done)) | (simp_all [-Bool.forall_bool,rdset71,rdset3,rdset79,rdset56,rdset80,rdset69,rdset4,rdset52];done) | grind))))) (fun q h=>(by cases k with | zero=>(simp only [PK.spec_SweepArena.j6] at h;cases h) | succ k=>(rw [PK.spec_SweepArena.j6] at h;(try simp only [w64_eq,wu8_eq,gt_iff_lt,ge_iff_le,int_beq,fdiv33,fdiv45,bt_eq,tmodN,rdOfB,rdOfL] at h);refine (itE h (fun q h=>(itE h (fun q h=>(itE h (fun q h=>(itE h (fun q h=>(itE h (fun q h=>(itE h (fun q h=>((fun h=>?_) (il4 _ (by omega) _ _ _ _ _ _ _ _ _ _ h m (by omega)))) (fun q h=>(noE h)))) (fun q h=>(noE h)))) (fun q h=>((fun h=>?_) (il4 _ (by omega) _ _ _ _ _ _ _ _ _ _ h m (by omega)))))) (fun q h=>(noE h)))) (fun q h=>(noE h)))) (fun q h=>(itE h (fun q h=>(itE h (fun q h=>(itE h (fun q h=>((fun h=>?_) (il3 _ (by omega) _ _ _ _ _ _ _ h m (by omega)))) (fun q h=>(noE h)))) (fun q h=>(noE h)))) (fun q h=>(noE h))))) <;> ((try cases h);(try simp only [*,if_true,if_false,↓reduceIte,Option.bind_some,List.length_cons,List.length_nil,List.length_append,Bool.not_true,Bool.not_false,Bool.true_eq_false,Bool.false_eq_true]);all_goals (repeat first | rw [if_pos (by omega)] | rw [if_neg (by omega)]);all_goals (first | exact h | apply h | rfl | (simp_all [-Bool.forall_bool];done) | (simp_all [-Bool.forall_bool];first | exact h | apply h) | (simp_all [-Bool.forall_bool,emp_eq,int_beq];done) | (simp_all [-Bool.forall_bool];(intros;simp_all;done)) | (simp_all [-Bool.forall_bool,rdset71,rdset3,rdset79,rdset56,rdset80,rdset69,rdset4,rdset52];done) | grind))))))
   all_goals clear il0 il1 il2 il3 il4 il5
   all_goals (try cases h)
   all_goals (try simp only [*,if_true,if_false,↓reduceIte,Option.bind_some,List.length_cons,List.length_nil,List.length_append,Bool.not_true,Bool.not_false,Bool.true_eq_false,Bool.false_eq_true])
   all_goals (repeat first | rw [if_pos (by omega)] | rw [if_neg (by omega)])
   all_goals first | exact h | apply h | rfl | (simp_all [-Bool.forall_bool];done) | (simp_all [-Bool.forall_bool];first | exact h | apply h) | (simp_all [-Bool.forall_bool,emp_eq,int_beq];done) | (simp_all [-Bool.forall_bool];(intros;simp_all;done)) | (simp_all [-Bool.forall_bool,rdset71,rdset3,rdset79,rdset56,rdset80,rdset69,rdset4,rdset52];done) | grind
 intro x6 x13 x18 x188000 r h m hm h65;cases k with
 | zero=>simp only [PK.spec_SweepArena.l5] at h;cases h
 | succ k =>
  obtain ⟨m,rfl⟩ : ∃ m',m = m' + 1:=⟨m - 1,by omega⟩;rw [PK.spec_SweepArena.l5] at h;rw [spec_SweepArena.c33]
  try simp only [w64_eq,wu8_eq,gt_iff_lt,ge_iff_le,int_beq,fdiv33,fdiv45,bt_eq,tmodN,rdOfB,rdOfL] at h
  try simp only [shlR]
  try simp only [w64_eq,wu8_eq,gt_iff_lt,ge_iff_le,int_beq,fdiv33,fdiv45,bt_eq,tmodN,rdOfB,rdOfL,rdT3_eq,seq,maxI,minI,emp_eq,rdn71,rdn3,rdn79,rdn56,rdn80,rdn69,rdn4,rdn52]
  refine (itE h (fun q h=>(itE h (fun q h=>(itE h (fun q h=>(itE h (fun q h=>(itE h (fun q h=>((fun h=>?_) (il5 _ (by omega) _ _ _ _ _ h m (by omega)))) (fun q h=>(noE h)))) (fun q h=>(noE h)))) (fun q h=>((fun h=>?_) (il5 _ (by omega) _ _ _ _ _ h m (by omega)))))) (fun q h=>(noE h)))) (fun q h=>?_))
  all_goals clear il0 il1 il2 il3 il4 il5
  all_goals (try cases h)
  all_goals (try simp only [*,if_true,if_false,↓reduceIte,Option.bind_some,List.length_cons,List.length_nil,List.length_append,Bool.not_true,Bool.not_false,Bool.true_eq_false,Bool.false_eq_true])
  all_goals (repeat first | rw [if_pos (by omega)] | rw [if_neg (by omega)])
  all_goals first | exact h | apply h | rfl | (simp_all [-Bool.forall_bool];done) | (simp_all [-Bool.forall_bool];first | exact h | apply h) | (simp_all [-Bool.forall_bool,emp_eq,int_beq];done) | (simp_all [-Bool.forall_bool];(intros;simp_all;done)) | (simp_all [-Bool.forall_bool,rdset71,rdset3,rdset79,rdset56,rdset80,rdset69,rdset4,rdset52];done) | grind
theorem spec_SweepArena.rel (k : Nat) (l0_0 : List (S80)) (l1 : List Int) (r) (h : PK.spec_SweepArena.f k l0_0 l1 = some r) (m : Nat) (hm : k ≤ m) : spec_SweepArena.f m l0_0 l1 = some (r.1,r.2):=by
 have il0:=fun k' (_ : k' < k + 1)=>(spec_SweepArena.rel_l k').1;have il1:=fun k' (_ : k' < k + 1)=>(spec_SweepArena.rel_l k').2.1;have il2:=fun k' (_ : k' < k + 1)=>(spec_SweepArena.rel_l k').2.2.1;have il3:=fun k' (_ : k' < k + 1)=>(spec_SweepArena.rel_l k').2.2.2.1;have il4:=fun k' (_ : k' < k + 1)=>(spec_SweepArena.rel_l k').2.2.2.2.1;have il5:=fun k' (_ : k' < k + 1)=>(spec_SweepArena.rel_l k').2.2.2.2.2;rw [PK.spec_SweepArena.f] at h;rw [spec_SweepArena.f]
 try simp only [w64_eq,wu8_eq,gt_iff_lt,ge_iff_le,int_beq,fdiv33,fdiv45,bt_eq,tmodN,rdOfB,rdOfL] at h
 try simp only [shlR]
 try simp only [w64_eq,wu8_eq,gt_iff_lt,ge_iff_le,int_beq,fdiv33,fdiv45,bt_eq,tmodN,rdOfB,rdOfL,rdT3_eq,seq,maxI,minI,emp_eq,rdn71,rdn3,rdn79,rdn56,rdn80,rdn69,rdn4,rdn52]
 refine (bsE h (fun h=>(itE h (fun q h=>(bnE h (fun _ g h=>(fun g=>((fun h=>?_) (il0 _ (by omega) _ _ _ _ _ _ h m (by omega)))) (spec_ArenaOk.rel _ _ _ g m (by omega))))) (fun q h=>(noE h)))))
 all_goals clear il0 il1 il2 il3 il4 il5
 all_goals (try cases h)
 all_goals (try simp only [*,if_true,if_false,↓reduceIte,Option.bind_some,List.length_cons,List.length_nil,List.length_append,Bool.not_true,Bool.not_false,Bool.true_eq_false,Bool.false_eq_true])
 all_goals (repeat first | rw [if_pos (by omega)] | rw [if_neg (by omega)])
 all_goals first | exact h | apply h | rfl | (simp_all [-Bool.forall_bool];done) | (simp_all [-Bool.forall_bool];first | exact h | apply h) | (simp_all [-Bool.forall_bool,emp_eq,int_beq];done) | (simp_all [-Bool.forall_bool];(intros;simp_all;done)) | (simp_all [-Bool.forall_bool,rdset71,rdset3,rdset79,rdset56,rdset80,rdset69,rdset4,rdset52];done) | grind
end Go.Proofs.YteideicglgpfiaaGreat.M2

namespace Go.Proofs.YteideicglgpfiaaGreat.M2
open Go Go.RowKit Go.Proofs.YteideicglgpfiaaGreatW.PrintWords Go.Proofs.YteideicglgpfiaaGreat.PK
set_option linter.unusedVariables false
set_option linter.unusedSimpArgs false
theorem spec_l12Roots.rel_l (k : Nat) : (∀ x3 x4 x211000 x211001 x211002 r,PK.spec_l12Roots.l0 k x3 x4 x211000 x211001 x211002 = some r → ∀ m,k ≤ m → spec_l12Roots.c3 m x4 x211000 x211001 x211002 x3 = some r):=by
 induction k using Nat.strongRecOn with
 | _ k ih =>
 have il0:=fun k' hk'=>(ih k' hk');clear ih;intro x3 x4 x211000 x211001 x211002 r h m hm;cases k with
 | zero=>simp only [PK.spec_l12Roots.l0] at h;cases h
 | succ k =>
  obtain ⟨m,rfl⟩ : ∃ m',m = m' + 1:=⟨m - 1,by omega⟩;rw [PK.spec_l12Roots.l0] at h;rw [spec_l12Roots.c3]
  try simp only [w64_eq,wu8_eq,gt_iff_lt,ge_iff_le,int_beq,fdiv33,fdiv45,bt_eq,tmodN,rdOfB,rdOfL] at h
  try simp only [shlR]
  try simp only [w64_eq,wu8_eq,gt_iff_lt,ge_iff_le,int_beq,fdiv33,fdiv45,bt_eq,tmodN,rdOfB,rdOfL,rdT3_eq,seq,maxI,minI,emp_eq,rdn71,rdn3,rdn79,rdn56,rdn80,rdn69,rdn4,rdn52]
  refine (itE h (fun q h=>(itE h (fun q h=>(itE h (fun q h=>((fun h=>?_) (il0 _ (by omega) _ _ _ _ _ _ h m (by omega)))) (fun q h=>(noE h)))) (fun q h=>(noE h)))) (fun q h=>?_))
  all_goals clear il0
  all_goals (try cases h)
  all_goals (try simp only [*,if_true,if_false,↓reduceIte,Option.bind_some,List.length_cons,List.length_nil,List.length_append,Bool.not_true,Bool.not_false,Bool.true_eq_false,Bool.false_eq_true])
  all_goals (repeat first | rw [if_pos (by omega)] | rw [if_neg (by omega)])
  all_goals first | exact h | apply h | rfl | (simp_all [-Bool.forall_bool];done) | (simp_all [-Bool.forall_bool];first | exact h | apply h) | (simp_all [-Bool.forall_bool,emp_eq,int_beq];done) | (simp_all [-Bool.forall_bool];(intros;simp_all;done)) | (simp_all [-Bool.forall_bool,rdset71,rdset3,rdset79,rdset56,rdset80,rdset69,rdset4,rdset52];done) | grind
theorem spec_l12Roots.rel (k : Nat) (l0_0 : List (S69)) (l0_1 : List (S80)) (a0_2 : Int) (r) (h : PK.spec_l12Roots.f k l0_0 l0_1 a0_2 = some r) (m : Nat) (hm : k ≤ m) : spec_l12Roots.f m l0_0 l0_1 a0_2 = some r:=by
 have il0:=fun k' (_ : k' < k + 1)=>(spec_l12Roots.rel_l k');rw [PK.spec_l12Roots.f] at h;rw [spec_l12Roots.f]
 try simp only [w64_eq,wu8_eq,gt_iff_lt,ge_iff_le,int_beq,fdiv33,fdiv45,bt_eq,tmodN,rdOfB,rdOfL] at h
 try simp only [shlR]
 try simp only [w64_eq,wu8_eq,gt_iff_lt,ge_iff_le,int_beq,fdiv33,fdiv45,bt_eq,tmodN,rdOfB,rdOfL,rdT3_eq,seq,maxI,minI,emp_eq,rdn71,rdn3,rdn79,rdn56,rdn80,rdn69,rdn4,rdn52]
 refine ((fun h=>?_) (il0 _ (by omega) _ _ _ _ _ _ h m (by omega)))
 all_goals clear il0
 all_goals (try cases h)
 all_goals (try simp only [*,if_true,if_false,↓reduceIte,Option.bind_some,List.length_cons,List.length_nil,List.length_append,Bool.not_true,Bool.not_false,Bool.true_eq_false,Bool.false_eq_true])
 all_goals (repeat first | rw [if_pos (by omega)] | rw [if_neg (by omega)])
 all_goals first | exact h | apply h | rfl | (simp_all [-Bool.forall_bool];done) | (simp_all [-Bool.forall_bool];first | exact h | apply h) | (simp_all [-Bool.forall_bool,emp_eq,int_beq];done) | (simp_all [-Bool.forall_bool];(intros;simp_all;done)) | (simp_all [-Bool.forall_bool,rdset71,rdset3,rdset79,rdset56,rdset80,rdset69,rdset4,rdset52];done) | grind
theorem impl_volAt.rel_l (k : Nat) : (∀ x1 x8 x9 x10 r,PK.impl_volAt.l0 k x1 x8 x9 x10 = some r → ∀ m,k ≤ m → impl_volAt.c2 m x1 x8 x9 x10 = some r):=by
 induction k using Nat.strongRecOn with
 | _ k ih =>
 have il0:=fun k' hk'=>(ih k' hk');clear ih;intro x1 x8 x9 x10 r h m hm;cases k with
 | zero=>simp only [PK.impl_volAt.l0] at h;cases h
 | succ k =>
  obtain ⟨m,rfl⟩ : ∃ m',m = m' + 1:=⟨m - 1,by omega⟩;rw [PK.impl_volAt.l0] at h;rw [impl_volAt.c2]
  try simp only [w64_eq,wu8_eq,gt_iff_lt,ge_iff_le,int_beq,fdiv33,fdiv45,bt_eq,tmodN,rdOfB,rdOfL] at h
  try simp only [shlR]
  try simp only [w64_eq,wu8_eq,gt_iff_lt,ge_iff_le,int_beq,fdiv33,fdiv45,bt_eq,tmodN,rdOfB,rdOfL,rdT3_eq,seq,maxI,minI,emp_eq,rdn71,rdn3,rdn79,rdn56,rdn80,rdn69,rdn4,rdn52]
  refine (itE h (fun q h=>(itE h (fun q h=>(itE h (fun q h=>(itE h (fun q h=>?_) (fun q h=>((fun h=>?_) (il0 _ (by omega) _ _ _ _ _ h m (by omega)))))) (fun q h=>(noE h)))) (fun q h=>(noE h)))) (fun q h=>?_))
  all_goals clear il0
  all_goals (try cases h)
  all_goals (try simp only [*,if_true,if_false,↓reduceIte,Option.bind_some,List.length_cons,List.length_nil,List.length_append,Bool.not_true,Bool.not_false,Bool.true_eq_false,Bool.false_eq_true])
  all_goals (repeat first | rw [if_pos (by omega)] | rw [if_neg (by omega)])
  all_goals first | exact h | apply h | rfl | (simp_all [-Bool.forall_bool];done) | (simp_all [-Bool.forall_bool];first | exact h | apply h) | (simp_all [-Bool.forall_bool,emp_eq,int_beq];done) | (simp_all [-Bool.forall_bool];(intros;simp_all;done)) | (simp_all [-Bool.forall_bool,rdset71,rdset3,rdset79,rdset56,rdset80,rdset69,rdset4,rdset52];done) | grind
theorem impl_volAt.rel (k : Nat) (l0_0 : List (S69)) (l0_1 : List (S80)) (a0_2 : Int) (a1 : Int) (r) (h : PK.impl_volAt.f k l0_0 l0_1 a0_2 a1 = some r) (m : Nat) (hm : k ≤ m) : impl_volAt.f m l0_0 l0_1 a0_2 a1 = some r:=by
 have il0:=fun k' (_ : k' < k + 1)=>(impl_volAt.rel_l k');rw [PK.impl_volAt.f] at h;rw [impl_volAt.f]
 try simp only [w64_eq,wu8_eq,gt_iff_lt,ge_iff_le,int_beq,fdiv33,fdiv45,bt_eq,tmodN,rdOfB,rdOfL] at h
 try simp only [shlR]
 try simp only [w64_eq,wu8_eq,gt_iff_lt,ge_iff_le,int_beq,fdiv33,fdiv45,bt_eq,tmodN,rdOfB,rdOfL,rdT3_eq,seq,maxI,minI,emp_eq,rdn71,rdn3,rdn79,rdn56,rdn80,rdn69,rdn4,rdn52]
 refine ((fun h=>?_) (il0 _ (by omega) _ _ _ _ _ h m (by omega)))
 all_goals clear il0
 all_goals (try cases h)
 all_goals (try simp only [*,if_true,if_false,↓reduceIte,Option.bind_some,List.length_cons,List.length_nil,List.length_append,Bool.not_true,Bool.not_false,Bool.true_eq_false,Bool.false_eq_true])
 all_goals (repeat first | rw [if_pos (by omega)] | rw [if_neg (by omega)])
 all_goals first | exact h | apply h | rfl | (simp_all [-Bool.forall_bool];done) | (simp_all [-Bool.forall_bool];first | exact h | apply h) | (simp_all [-Bool.forall_bool,emp_eq,int_beq];done) | (simp_all [-Bool.forall_bool];(intros;simp_all;done)) | (simp_all [-Bool.forall_bool,rdset71,rdset3,rdset79,rdset56,rdset80,rdset69,rdset4,rdset52];done) | grind
end Go.Proofs.YteideicglgpfiaaGreat.M2

namespace Go.Proofs.YteideicglgpfiaaGreat.M2
open Go Go.RowKit Go.Proofs.YteideicglgpfiaaGreatW.PrintWords Go.Proofs.YteideicglgpfiaaGreat.PK
set_option linter.unusedVariables false
set_option linter.unusedSimpArgs false
theorem impl_in.rel (k : Nat) (a0 : Int) (a1 : Int) (a2 : Int) (r) (h : PK.impl_in.f a0 a1 a2 = some r) (m : Nat) (hm : k ≤ m) : impl_in.f m a0 a1 a2 = some r:=by
 rw [PK.impl_in.f] at h;rw [impl_in.f]
 try simp only [w64_eq,wu8_eq,gt_iff_lt,ge_iff_le,int_beq,fdiv33,fdiv45,bt_eq,tmodN,rdOfB,rdOfL] at h
 try simp only [shlR]
 try simp only [w64_eq,wu8_eq,gt_iff_lt,ge_iff_le,int_beq,fdiv33,fdiv45,bt_eq,tmodN,rdOfB,rdOfL,rdT3_eq,seq,maxI,minI,emp_eq,rdn71,rdn3,rdn79,rdn56,rdn80,rdn69,rdn4,rdn52]
 refine (itE h (fun q h=>?_) (fun q h=>?_))
 all_goals (try cases h)
 all_goals (try simp only [*,if_true,if_false,↓reduceIte,Option.bind_some,List.length_cons,List.length_nil,List.length_append,Bool.not_true,Bool.not_false,Bool.true_eq_false,Bool.false_eq_true])
 all_goals (repeat first | rw [if_pos (by omega)] | rw [if_neg (by omega)])
 all_goals first | exact h | apply h | rfl | (simp_all [-Bool.forall_bool];done) | (simp_all [-Bool.forall_bool];first | exact h | apply h) | (simp_all [-Bool.forall_bool,emp_eq,int_beq];done) | (simp_all [-Bool.forall_bool];(intros;simp_all;done)) | (simp_all [-Bool.forall_bool,rdset71,rdset3,rdset79,rdset56,rdset80,rdset69,rdset4,rdset52];done) | grind
theorem impl_RecOk.rel (k : Nat) (a0_0 : Int) (a0_1 : Int) (a0_2 : Int) (a0_3 : Int) (r) (h : PK.impl_RecOk.f k a0_0 a0_1 a0_2 a0_3 = some r) (m : Nat) (hm : k ≤ m) : impl_RecOk.f m a0_0 a0_1 a0_2 a0_3 = some r:=by
 rw [PK.impl_RecOk.f] at h;rw [impl_RecOk.f]
 try simp only [w64_eq,wu8_eq,gt_iff_lt,ge_iff_le,int_beq,fdiv33,fdiv45,bt_eq,tmodN,rdOfB,rdOfL] at h
 try simp only [shlR]
 try simp only [w64_eq,wu8_eq,gt_iff_lt,ge_iff_le,int_beq,fdiv33,fdiv45,bt_eq,tmodN,rdOfB,rdOfL,rdT3_eq,seq,maxI,minI,emp_eq,rdn71,rdn3,rdn79,rdn56,rdn80,rdn69,rdn4,rdn52]
 refine (itE h (fun q h=>(itE h (fun q h=>(bnE h (fun _ g h=>(fun g=>(itE h (fun q h=>?_) (fun q h=>?_))) (impl_in.rel m _ _ _ _ g m (by omega))))) (fun q h=>?_))) (fun q h=>(bnE h (fun _ g h=>(fun g=>(itE h (fun q h=>(itE h (fun q h=>(by cases k with | zero=>(simp only [PK.impl_RecOk.j0] at h;cases h) | succ k=>(rw [PK.impl_RecOk.j0] at h;(try simp only [w64_eq,wu8_eq,gt_iff_lt,ge_iff_le,int_beq,fdiv33,fdiv45,bt_eq,tmodN,rdOfB,rdOfL] at h);refine (itE h (fun q h=>?_) (fun q h=>(itE h (fun q h=>(bnE h (fun _ g h=>(fun g=>?_) (impl_in.rel m _ _ _ _ g m (by omega))))) (fun q h=>(itE h (fun q h=>?_) (fun q h=>(itE h (fun q h=>(bnE h (fun _ g h=>(fun g=>(itE h (fun q h=>(bnE h (fun _ g h=>(fun g=>?_) (impl_in.rel m _ _ _ _ g m (by omega))))) (fun q h=>?_))) (impl_in.rel m _ _ _ _ g m (by omega))))) (fun q h=>(itE h (fun q h=>(bnE h (fun _ g h=>(fun g=>?_) (impl_in.rel m _ _ _ _ g m (by omega))))) (fun q h=>?_)))))))))) <;> ((try cases h);(try simp only [*,if_true,if_false,↓reduceIte,Option.bind_some,List.length_cons,List.length_nil,List.length_append,Bool.not_true,Bool.not_false,Bool.true_eq_false,Bool.false_eq_true]);all_goals (repeat first | rw [if_pos (by omega)] | rw [if_neg (by omega)]);all_goals (first | exact h | apply h | rfl | (simp_all [-Bool.forall_bool];done) | (simp_all [-Bool.forall_bool];first | exact h | apply h) | (simp_all [-Bool.forall_bool,emp_eq,int_beq];done) | (simp_all [-Bool.forall_bool];(intros;simp_all;done)) | (simp_all [-Bool.forall_bool,rdset71,rdset3,rdset79,rdset56,rdset80,rdset69,rdset4,rdset52];done) | grind))))) (fun q h=>(by cases k with | zero=>(simp only [PK.impl_RecOk.j0] at h;cases h) | succ k=>(rw [PK.impl_RecOk.j0] at h;(try simp only [w64_eq,wu8_eq,gt_iff_lt,ge_iff_le,int_beq,fdiv33,fdiv45,bt_eq,tmodN,rdOfB,rdOfL] at h);refine (itE h (fun q h=>?_) (fun q h=>(itE h (fun q h=>(bnE h (fun _ g h=>(fun g=>?_) (impl_in.rel m _ _ _ _ g m (by omega))))) (fun q h=>(itE h (fun q h=>?_) (fun q h=>(itE h (fun q h=>(bnE h (fun _ g h=>(fun g=>(itE h (fun q h=>(bnE h (fun _ g h=>(fun g=>?_) (impl_in.rel m _ _ _ _ g m (by omega))))) (fun q h=>?_))) (impl_in.rel m _ _ _ _ g m (by omega))))) (fun q h=>(itE h (fun q h=>(bnE h (fun _ g h=>(fun g=>?_) (impl_in.rel m _ _ _ _ g m (by omega))))) (fun q h=>?_)))))))))) <;> ((try cases h);(try simp only [*,if_true,if_false,↓reduceIte,Option.bind_some,List.length_cons,List.length_nil,List.length_append,Bool.not_true,Bool.not_false,Bool.true_eq_false,Bool.false_eq_true]);all_goals (repeat first | rw [if_pos (by omega)] | rw [if_neg (by omega)]);all_goals (first | exact h | apply h | rfl | (simp_all [-Bool.forall_bool];done) | (simp_all [-Bool.forall_bool];first | exact h | apply h) | (simp_all [-Bool.forall_bool,emp_eq,int_beq];done) | (simp_all [-Bool.forall_bool];(intros;simp_all;done)) | (simp_all [-Bool.forall_bool,rdset71,rdset3,rdset79,rdset56,rdset80,rdset69,rdset4,rdset52];done) | grind))))))) (fun q h=>(by cases k with | zero=>(simp only [PK.impl_RecOk.j0] at h;cases h) | succ k=>(rw [PK.impl_RecOk.j0] at h;(try simp only [w64_eq,wu8_eq,gt_iff_lt,ge_iff_le,int_beq,fdiv33,fdiv45,bt_eq,tmodN,rdOfB,rdOfL] at h);refine (itE h (fun q h=>?_) (fun q h=>(itE h (fun q h=>(bnE h (fun _ g h=>(fun g=>?_) (impl_in.rel m _ _ _ _ g m (by omega))))) (fun q h=>(itE h (fun q h=>?_) (fun q h=>(itE h (fun q h=>(bnE h (fun _ g h=>(fun g=>(itE h (fun q h=>(bnE h (fun _ g h=>(fun g=>?_) (impl_in.rel m _ _ _ _ g m (by omega))))) (fun q h=>?_))) (impl_in.rel m _ _ _ _ g m (by omega))))) (fun q h=>(itE h (fun q h=>(bnE h (fun _ g h=>(fun g=>?_) (impl_in.rel m _ _ _ _ g m (by omega))))) (fun q h=>?_)))))))))) <;> ((try cases h);(try simp only [*,if_true,if_false,↓reduceIte,Option.bind_some,List.length_cons,List.length_nil,List.length_append,Bool.not_true,Bool.not_false,Bool.true_eq_false,Bool.false_eq_true]);all_goals (repeat first | rw [if_pos (by omega)] | rw [if_neg (by omega)]);all_goals (first | exact h | apply h | rfl | (simp_all [-Bool.forall_bool];done) | (simp_all [-Bool.forall_bool];first | exact h | apply h) | (simp_all [-Bool.forall_bool,emp_eq,int_beq];done) | (simp_all [-Bool.forall_bool];(intros;simp_all;done)) | (simp_all [-Bool.forall_bool,rdset71,rdset3,rdset79,rdset56,rdset80,rdset69,rdset4,rdset52];done) | grind))))))) (impl_in.rel m _ _ _ _ g m (by omega))))))
 all_goals (try cases h)
 all_goals (try simp only [*,if_true,if_false,↓reduceIte,Option.bind_some,List.length_cons,List.length_nil,List.length_append,Bool.not_true,Bool.not_false,Bool.true_eq_false,Bool.false_eq_true])
 all_goals (repeat first | rw [if_pos (by omega)] | rw [if_neg (by omega)])
 all_goals first | exact h | apply h | rfl | (simp_all [-Bool.forall_bool];done) | (simp_all [-Bool.forall_bool];first | exact h | apply h) | (simp_all [-Bool.forall_bool,emp_eq,int_beq];done) | (simp_all [-Bool.forall_bool];(intros;simp_all;done)) | (simp_all [-Bool.forall_bool,rdset71,rdset3,rdset79,rdset56,rdset80,rdset69,rdset4,rdset52];done) | grind
end Go.Proofs.YteideicglgpfiaaGreat.M2

namespace Go.Proofs.YteideicglgpfiaaGreat.M2
open Go Go.RowKit Go.Proofs.YteideicglgpfiaaGreatW.PrintWords Go.Proofs.YteideicglgpfiaaGreat.PK
set_option linter.unusedVariables false
set_option linter.unusedSimpArgs false
theorem impl_ArenaOk.rel_l (k : Nat) : (∀ x8 x9 x10 x554000 r,PK.impl_ArenaOk.l0 k x8 x9 x10 x554000 = some r → ∀ m,k ≤ m → impl_ArenaOk.c2 m x8 x9 x10 x554000 = some r) ∧ (∀ x3 x8 x9 x10 x20 x21 x22 x554000 x556000 x556001 r,PK.impl_ArenaOk.l1 k x3 x8 x9 x10 x20 x21 x22 x554000 x556000 x556001 = some r → ∀ m,k ≤ m → impl_ArenaOk.c7 m x3 x8 x9 x10 x20 x21 x22 x554000 x556000 x556001 = some r):=by
 induction k using Nat.strongRecOn with
 | _ k ih =>
 have il0:=fun k' hk'=>(ih k' hk').1;have il1:=fun k' hk'=>(ih k' hk').2;clear ih;refine ⟨?_,?_⟩
 ·intro x8 x9 x10 x554000 r h m hm;cases k with
  | zero=>simp only [PK.impl_ArenaOk.l0] at h;cases h
  | succ k =>
   obtain ⟨m,rfl⟩ : ∃ m',m = m' + 1:=⟨m - 1,by omega⟩;rw [PK.impl_ArenaOk.l0] at h;rw [impl_ArenaOk.c2]
   try simp only [w64_eq,wu8_eq,gt_iff_lt,ge_iff_le,int_beq,fdiv33,fdiv45,bt_eq,tmodN,rdOfB,rdOfL] at h
   try simp only [shlR]
   try simp only [w64_eq,wu8_eq,gt_iff_lt,ge_iff_le,int_beq,fdiv33,fdiv45,bt_eq,tmodN,rdOfB,rdOfL,rdT3_eq,seq,maxI,minI,emp_eq,rdn71,rdn3,rdn79,rdn56,rdn80,rdn69,rdn4,rdn52]
   refine (itE h (fun q h=>(itE h (fun q h=>(itE h (fun q h=>(itE h (fun q h=>((fun h=>?_) (il1 _ (by omega) _ _ _ _ _ _ _ _ _ _ _ h m (by omega)))) (fun q h=>?_))) (fun q h=>(noE h)))) (fun q h=>(noE h)))) (fun q h=>?_))
   all_goals clear il0 il1
   all_goals (try cases h)
   all_goals (try simp only [*,if_true,if_false,↓reduceIte,Option.bind_some,List.length_cons,List.length_nil,List.length_append,Bool.not_true,Bool.not_false,Bool.true_eq_false,Bool.false_eq_true])
   all_goals (repeat first | rw [if_pos (by omega)] | rw [if_neg (by omega)])
   all_goals first | exact h | apply h | rfl | (simp_all [-Bool.forall_bool];done) | (simp_all [-Bool.forall_bool];first | exact h | apply h) | (simp_all [-Bool.forall_bool,emp_eq,int_beq];done) | (simp_all [-Bool.forall_bool];(intros;simp_all;done)) | (simp_all [-Bool.forall_bool,rdset71,rdset3,rdset79,rdset56,rdset80,rdset69,rdset4,rdset52];done) | grind
 intro x3 x8 x9 x10 x20 x21 x22 x554000 x556000 x556001 r h m hm;cases k with
 | zero=>simp only [PK.impl_ArenaOk.l1] at h;cases h
 | succ k =>
  obtain ⟨m,rfl⟩ : ∃ m',m = m' + 1:=⟨m - 1,by omega⟩;rw [PK.impl_ArenaOk.l1] at h;rw [impl_ArenaOk.c7]
  try simp only [w64_eq,wu8_eq,gt_iff_lt,ge_iff_le,int_beq,fdiv33,fdiv45,bt_eq,tmodN,rdOfB,rdOfL] at h
  try simp only [shlR]
  try simp only [w64_eq,wu8_eq,gt_iff_lt,ge_iff_le,int_beq,fdiv33,fdiv45,bt_eq,tmodN,rdOfB,rdOfL,rdT3_eq,seq,maxI,minI,emp_eq,rdn71,rdn3,rdn79,rdn56,rdn80,rdn69,rdn4,rdn52]
  refine (itE h (fun q h=>(itE h (fun q h=>(itE h (fun q h=>(itE h (fun q h=>(itE h (fun q h=>?_) (fun q h=>((fun h=>?_) (il1 _ (by omega) _ _ _ _ _ _ _ _ _ _ _ h m (by omega)))))) (fun q h=>(itE h (fun q h=>((fun h=>?_) (il1 _ (by omega) _ _ _ _ _ _ _ _ _ _ _ h m (by omega)))) (fun q h=>(bnE h (fun _ g h=>(fun g=>(itE h (fun q h=>(itE h (fun q h=>(itE h (fun q h=>(itE h (fun q h=>((fun h=>?_) (il1 _ (by omega) _ _ _ _ _ _ _ _ _ _ _ h m (by omega)))) (fun q h=>?_))) (fun q h=>(noE h)))) (fun q h=>(noE h)))) (fun q h=>?_))) (impl_in.rel m _ _ _ _ g m (by omega))))))))) (fun q h=>(noE h)))) (fun q h=>(noE h)))) (fun q h=>((fun h=>?_) (il0 _ (by omega) _ _ _ _ _ h m (by omega)))))
  all_goals clear il0 il1
  all_goals (try cases h)
  all_goals (try simp only [*,if_true,if_false,↓reduceIte,Option.bind_some,List.length_cons,List.length_nil,List.length_append,Bool.not_true,Bool.not_false,Bool.true_eq_false,Bool.false_eq_true])
  all_goals (repeat first | rw [if_pos (by omega)] | rw [if_neg (by omega)])
  all_goals first | exact h | apply h | rfl | (simp_all [-Bool.forall_bool];done) | (simp_all [-Bool.forall_bool];first | exact h | apply h) | (simp_all [-Bool.forall_bool,emp_eq,int_beq];done) | (simp_all [-Bool.forall_bool];(intros;simp_all;done)) | (simp_all [-Bool.forall_bool,rdset71,rdset3,rdset79,rdset56,rdset80,rdset69,rdset4,rdset52];done) | grind
theorem impl_ArenaOk.rel (k : Nat) (l0_0 : List (S80)) (r) (h : PK.impl_ArenaOk.f k l0_0 = some r) (m : Nat) (hm : k ≤ m) : impl_ArenaOk.f m l0_0 = some r:=by
 have il0:=fun k' (_ : k' < k + 1)=>(impl_ArenaOk.rel_l k').1;have il1:=fun k' (_ : k' < k + 1)=>(impl_ArenaOk.rel_l k').2;rw [PK.impl_ArenaOk.f] at h;rw [impl_ArenaOk.f]
 try simp only [w64_eq,wu8_eq,gt_iff_lt,ge_iff_le,int_beq,fdiv33,fdiv45,bt_eq,tmodN,rdOfB,rdOfL] at h
 try simp only [shlR]
 try simp only [w64_eq,wu8_eq,gt_iff_lt,ge_iff_le,int_beq,fdiv33,fdiv45,bt_eq,tmodN,rdOfB,rdOfL,rdT3_eq,seq,maxI,minI,emp_eq,rdn71,rdn3,rdn79,rdn56,rdn80,rdn69,rdn4,rdn52]
 refine ((fun h=>?_) (il0 _ (by omega) _ _ _ _ _ h m (by omega)))
 all_goals clear il0 il1
 all_goals (try cases h)
 all_goals (try simp only [*,if_true,if_false,↓reduceIte,Option.bind_some,List.length_cons,List.length_nil,List.length_append,Bool.not_true,Bool.not_false,Bool.true_eq_false,Bool.false_eq_true])
 all_goals (repeat first | rw [if_pos (by omega)] | rw [if_neg (by omega)])
 all_goals first | exact h | apply h | rfl | (simp_all [-Bool.forall_bool];done) | (simp_all [-Bool.forall_bool];first | exact h | apply h) | (simp_all [-Bool.forall_bool,emp_eq,int_beq];done) | (simp_all [-Bool.forall_bool];(intros;simp_all;done)) | (simp_all [-Bool.forall_bool,rdset71,rdset3,rdset79,rdset56,rdset80,rdset69,rdset4,rdset52];done) | grind
theorem impl_hasInt.rel_l (k : Nat) : (∀ x1 x7 x8 x9 r,PK.impl_hasInt.l0 k x1 x7 x8 x9 = some r → ∀ m,k ≤ m → impl_hasInt.c2 m x1 x7 x8 x9 = some r):=by
 induction k using Nat.strongRecOn with
 | _ k ih =>
 have il0:=fun k' hk'=>(ih k' hk');clear ih;intro x1 x7 x8 x9 r h m hm;cases k with
 | zero=>simp only [PK.impl_hasInt.l0] at h;cases h
 | succ k =>
  obtain ⟨m,rfl⟩ : ∃ m',m = m' + 1:=⟨m - 1,by omega⟩;rw [PK.impl_hasInt.l0] at h;rw [impl_hasInt.c2]
  try simp only [w64_eq,wu8_eq,gt_iff_lt,ge_iff_le,int_beq,fdiv33,fdiv45,bt_eq,tmodN,rdOfB,rdOfL] at h
  try simp only [shlR]
  try simp only [w64_eq,wu8_eq,gt_iff_lt,ge_iff_le,int_beq,fdiv33,fdiv45,bt_eq,tmodN,rdOfB,rdOfL,rdT3_eq,seq,maxI,minI,emp_eq,rdn71,rdn3,rdn79,rdn56,rdn80,rdn69,rdn4,rdn52]
  refine (itE h (fun q h=>(itE h (fun q h=>(itE h (fun q h=>(itE h (fun q h=>?_) (fun q h=>((fun h=>?_) (il0 _ (by omega) _ _ _ _ _ h m (by omega)))))) (fun q h=>(noE h)))) (fun q h=>(noE h)))) (fun q h=>?_))
  all_goals clear il0
  all_goals (try cases h)
  all_goals (try simp only [*,if_true,if_false,↓reduceIte,Option.bind_some,List.length_cons,List.length_nil,List.length_append,Bool.not_true,Bool.not_false,Bool.true_eq_false,Bool.false_eq_true])
  all_goals (repeat first | rw [if_pos (by omega)] | rw [if_neg (by omega)])
  all_goals first | exact h | apply h | rfl | (simp_all [-Bool.forall_bool];done) | (simp_all [-Bool.forall_bool];first | exact h | apply h) | (simp_all [-Bool.forall_bool,emp_eq,int_beq];done) | (simp_all [-Bool.forall_bool];(intros;simp_all;done)) | (simp_all [-Bool.forall_bool,rdset71,rdset3,rdset79,rdset56,rdset80,rdset69,rdset4,rdset52];done) | grind
theorem impl_hasInt.rel (k : Nat) (l0 : List Int) (a1 : Int) (r) (h : PK.impl_hasInt.f k l0 a1 = some r) (m : Nat) (hm : k ≤ m) : impl_hasInt.f m l0 a1 = some r:=by
 have il0:=fun k' (_ : k' < k + 1)=>(impl_hasInt.rel_l k');rw [PK.impl_hasInt.f] at h;rw [impl_hasInt.f]
 try simp only [w64_eq,wu8_eq,gt_iff_lt,ge_iff_le,int_beq,fdiv33,fdiv45,bt_eq,tmodN,rdOfB,rdOfL] at h
 try simp only [shlR]
 try simp only [w64_eq,wu8_eq,gt_iff_lt,ge_iff_le,int_beq,fdiv33,fdiv45,bt_eq,tmodN,rdOfB,rdOfL,rdT3_eq,seq,maxI,minI,emp_eq,rdn71,rdn3,rdn79,rdn56,rdn80,rdn69,rdn4,rdn52]
 refine ((fun h=>?_) (il0 _ (by omega) _ _ _ _ _ h m (by omega)))
 all_goals clear il0
 all_goals (try cases h)
 all_goals (try simp only [*,if_true,if_false,↓reduceIte,Option.bind_some,List.length_cons,List.length_nil,List.length_append,Bool.not_true,Bool.not_false,Bool.true_eq_false,Bool.false_eq_true])
 all_goals (repeat first | rw [if_pos (by omega)] | rw [if_neg (by omega)])
 all_goals first | exact h | apply h | rfl | (simp_all [-Bool.forall_bool];done) | (simp_all [-Bool.forall_bool];first | exact h | apply h) | (simp_all [-Bool.forall_bool,emp_eq,int_beq];done) | (simp_all [-Bool.forall_bool];(intros;simp_all;done)) | (simp_all [-Bool.forall_bool,rdset71,rdset3,rdset79,rdset56,rdset80,rdset69,rdset4,rdset52];done) | grind
end Go.Proofs.YteideicglgpfiaaGreat.M2

namespace Go.Proofs.YteideicglgpfiaaGreat.M2
open Go Go.RowKit Go.Proofs.YteideicglgpfiaaGreatW.PrintWords Go.Proofs.YteideicglgpfiaaGreat.PK
set_option linter.unusedVariables false
set_option linter.unusedSimpArgs false
theorem impl_isRoot.rel (k : Nat) (l0_0 : List (S80)) (a1 : Int) (r) (h : PK.impl_isRoot.f l0_0 a1 = some r) (m : Nat) (hm : k ≤ m) : impl_isRoot.f m l0_0 a1 = some r:=by
 rw [PK.impl_isRoot.f] at h;rw [impl_isRoot.f]
 try simp only [w64_eq,wu8_eq,gt_iff_lt,ge_iff_le,int_beq,fdiv33,fdiv45,bt_eq,tmodN,rdOfB,rdOfL] at h
 try simp only [shlR]
 try simp only [w64_eq,wu8_eq,gt_iff_lt,ge_iff_le,int_beq,fdiv33,fdiv45,bt_eq,tmodN,rdOfB,rdOfL,rdT3_eq,seq,maxI,minI,emp_eq,rdn71,rdn3,rdn79,rdn56,rdn80,rdn69,rdn4,rdn52]
 refine (bnE h (fun _ g h=>(fun g=>(itE h (fun q h=>(itE h (fun q h=>(itE h (fun q h=>?_) (fun q h=>(noE h)))) (fun q h=>(noE h)))) (fun q h=>?_))) (impl_in.rel m _ _ _ _ g m (by omega))))
 all_goals (try cases h)
 all_goals (try simp only [*,if_true,if_false,↓reduceIte,Option.bind_some,List.length_cons,List.length_nil,List.length_append,Bool.not_true,Bool.not_false,Bool.true_eq_false,Bool.false_eq_true])
 all_goals (repeat first | rw [if_pos (by omega)] | rw [if_neg (by omega)])
 all_goals first | exact h | apply h | rfl | (simp_all [-Bool.forall_bool];done) | (simp_all [-Bool.forall_bool];first | exact h | apply h) | (simp_all [-Bool.forall_bool,emp_eq,int_beq];done) | (simp_all [-Bool.forall_bool];(intros;simp_all;done)) | (simp_all [-Bool.forall_bool,rdset71,rdset3,rdset79,rdset56,rdset80,rdset69,rdset4,rdset52];done) | grind
theorem impl_knotsOf.rel_l (k : Nat) : (∀ x5 x19 x20 x21 x564000 r,PK.impl_knotsOf.l0 k x5 x19 x20 x21 x564000 = some r → ∀ m,k ≤ m → impl_knotsOf.c5 m x19 x20 x21 x564000 x5 = some r):=by
 induction k using Nat.strongRecOn with
 | _ k ih =>
 have il0:=fun k' hk'=>(ih k' hk');clear ih;intro x5 x19 x20 x21 x564000 r h m hm;cases k with
 | zero=>simp only [PK.impl_knotsOf.l0] at h;cases h
 | succ k =>
  obtain ⟨m,rfl⟩ : ∃ m',m = m' + 1:=⟨m - 1,by omega⟩;rw [PK.impl_knotsOf.l0] at h;rw [impl_knotsOf.c5]
  try simp only [w64_eq,wu8_eq,gt_iff_lt,ge_iff_le,int_beq,fdiv33,fdiv45,bt_eq,tmodN,rdOfB,rdOfL] at h
  try simp only [shlR]
  try simp only [w64_eq,wu8_eq,gt_iff_lt,ge_iff_le,int_beq,fdiv33,fdiv45,bt_eq,tmodN,rdOfB,rdOfL,rdT3_eq,seq,maxI,minI,emp_eq,rdn71,rdn3,rdn79,rdn56,rdn80,rdn69,rdn4,rdn52]
  refine (itE h (fun q h=>(itE h (fun q h=>(itE h (fun q h=>(bnE h (fun _ g h=>(fun g=>(itE h (fun q h=>(bnE h (fun _ g h=>(fun g=>(itE h (fun q h=>((fun h=>?_) (il0 _ (by omega) _ _ _ _ _ _ h m (by omega)))) (fun q h=>(itE h (fun q h=>((fun h=>?_) (il0 _ (by omega) _ _ _ _ _ _ h m (by omega)))) (fun q h=>(noE h)))))) (impl_hasInt.rel _ _ _ _ g m (by omega))))) (fun q h=>((fun h=>?_) (il0 _ (by omega) _ _ _ _ _ _ h m (by omega)))))) (impl_in.rel m _ _ _ _ g m (by omega))))) (fun q h=>(noE h)))) (fun q h=>(noE h)))) (fun q h=>?_))
  all_goals clear il0
  all_goals (try cases h)
  all_goals (try simp only [*,if_true,if_false,↓reduceIte,Option.bind_some,List.length_cons,List.length_nil,List.length_append,Bool.not_true,Bool.not_false,Bool.true_eq_false,Bool.false_eq_true])
  all_goals (repeat first | rw [if_pos (by omega)] | rw [if_neg (by omega)])
  all_goals first | exact h | apply h | rfl | (simp_all [-Bool.forall_bool];done) | (simp_all [-Bool.forall_bool];first | exact h | apply h) | (simp_all [-Bool.forall_bool,emp_eq,int_beq];done) | (simp_all [-Bool.forall_bool];(intros;simp_all;done)) | (simp_all [-Bool.forall_bool,rdset71,rdset3,rdset79,rdset56,rdset80,rdset69,rdset4,rdset52];done) | grind
theorem impl_knotsOf.rel (k : Nat) (l0_0 : List (S80)) (a1 : Int) (r) (h : PK.impl_knotsOf.f k l0_0 a1 = some r) (m : Nat) (hm : k ≤ m) : impl_knotsOf.f m l0_0 a1 = some r:=by
 have il0:=fun k' (_ : k' < k + 1)=>(impl_knotsOf.rel_l k');rw [PK.impl_knotsOf.f] at h;rw [impl_knotsOf.f]
 try simp only [w64_eq,wu8_eq,gt_iff_lt,ge_iff_le,int_beq,fdiv33,fdiv45,bt_eq,tmodN,rdOfB,rdOfL] at h
 try simp only [shlR]
 try simp only [w64_eq,wu8_eq,gt_iff_lt,ge_iff_le,int_beq,fdiv33,fdiv45,bt_eq,tmodN,rdOfB,rdOfL,rdT3_eq,seq,maxI,minI,emp_eq,rdn71,rdn3,rdn79,rdn56,rdn80,rdn69,rdn4,rdn52]
 refine (bnE h (fun _ g h=>(fun g=>(itE h (fun q h=>(itE h (fun q h=>(itE h (fun q h=>((fun h=>?_) (il0 _ (by omega) _ _ _ _ _ _ h m (by omega)))) (fun q h=>(noE h)))) (fun q h=>(noE h)))) (fun q h=>?_))) (impl_isRoot.rel m _ _ _ g m (by omega))))
 all_goals clear il0
 all_goals (try cases h)
 all_goals (try simp only [*,if_true,if_false,↓reduceIte,Option.bind_some,List.length_cons,List.length_nil,List.length_append,Bool.not_true,Bool.not_false,Bool.true_eq_false,Bool.false_eq_true])
 all_goals (repeat first | rw [if_pos (by omega)] | rw [if_neg (by omega)])
 all_goals first | exact h | apply h | rfl | (simp_all [-Bool.forall_bool];done) | (simp_all [-Bool.forall_bool];first | exact h | apply h) | (simp_all [-Bool.forall_bool,emp_eq,int_beq];done) | (simp_all [-Bool.forall_bool];(intros;simp_all;done)) | (simp_all [-Bool.forall_bool,rdset71,rdset3,rdset79,rdset56,rdset80,rdset69,rdset4,rdset52];done) | grind
theorem impl_StoreOk.rel_l (k : Nat) : (∀ x3 x27 x28 x29 x576000 x576001 x576002 r,PK.impl_StoreOk.l0 k x3 x27 x28 x29 x576000 x576001 x576002 = some r → ∀ m,k ≤ m → impl_StoreOk.c5 m x27 x28 x29 x576000 x576001 x576002 x3 = some r) ∧ (∀ x3 x77 x78 x79 x576000 x576001 x576002 r,PK.impl_StoreOk.l1 k x3 x77 x78 x79 x576000 x576001 x576002 = some r → ∀ m,k ≤ m → impl_StoreOk.c12 m x77 x78 x79 x576000 x576001 x576002 x3 = some r) ∧ (∀ x3 x77 x78 x79 x89 x90 x91 x576000 x576001 x576002 x610000 x610001 r,PK.impl_StoreOk.l2 k x3 x77 x78 x79 x89 x90 x91 x576000 x576001 x576002 x610000 x610001 = some r → ∀ m,k ≤ m → impl_StoreOk.c17 m x77 x78 x79 x89 x90 x91 x576000 x576001 x576002 x3 x610000 x610001 = some r):=by
 induction k using Nat.strongRecOn with
 | _ k ih =>
 have il0:=fun k' hk'=>(ih k' hk').1;have il1:=fun k' hk'=>(ih k' hk').2.1;have il2:=fun k' hk'=>(ih k' hk').2.2;clear ih;refine ⟨?_,?_,?_⟩
 ·intro x3 x27 x28 x29 x576000 x576001 x576002 r h m hm;cases k with
  | zero=>simp only [PK.impl_StoreOk.l0] at h;cases h
  | succ k =>
   obtain ⟨m,rfl⟩ : ∃ m',m = m' + 1:=⟨m - 1,by omega⟩;rw [PK.impl_StoreOk.l0] at h;rw [impl_StoreOk.c5]
   try simp only [w64_eq,wu8_eq,gt_iff_lt,ge_iff_le,int_beq,fdiv33,fdiv45,bt_eq,tmodN,rdOfB,rdOfL] at h
   try simp only [shlR]
   try simp only [w64_eq,wu8_eq,gt_iff_lt,ge_iff_le,int_beq,fdiv33,fdiv45,bt_eq,tmodN,rdOfB,rdOfL,rdT3_eq,seq,maxI,minI,emp_eq,rdn71,rdn3,rdn79,rdn56,rdn80,rdn69,rdn4,rdn52]
   refine (itE h (fun q h=>(itE h (fun q h=>(itE h (fun q h=>(bnE h (fun _ g h=>(fun g=>(itE h (fun q h=>(itE h (fun q h=>(itE h (fun q h=>(itE h (fun q h=>(itE h (fun q h=>?_) (fun q h=>(itE h (fun q h=>(bnE h (fun _ g h=>(fun g=>(itE h (fun q h=>((fun h=>?_) (il0 _ (by omega) _ _ _ _ _ _ _ _ h m (by omega)))) (fun q h=>(noE h)))) (impl_knotsOf.rel _ _ _ _ g m (by omega))))) (fun q h=>(bnE h (fun _ g h=>(fun g=>(itE h (fun q h=>(bnE h (fun _ g h=>(fun g=>(itE h (fun q h=>((fun h=>?_) (il0 _ (by omega) _ _ _ _ _ _ _ _ h m (by omega)))) (fun q h=>(noE h)))) (impl_knotsOf.rel _ _ _ _ g m (by omega))))) (fun q h=>?_))) (impl_isRoot.rel m _ _ _ g m (by omega))))))))) (fun q h=>(noE h)))) (fun q h=>(noE h)))) (fun q h=>(itE h (fun q h=>(bnE h (fun _ g h=>(fun g=>(itE h (fun q h=>((fun h=>?_) (il0 _ (by omega) _ _ _ _ _ _ _ _ h m (by omega)))) (fun q h=>(noE h)))) (impl_knotsOf.rel _ _ _ _ g m (by omega))))) (fun q h=>(bnE h (fun _ g h=>(fun g=>(itE h (fun q h=>(bnE h (fun _ g h=>(fun g=>(itE h (fun q h=>((fun h=>?_) (il0 _ (by omega) _ _ _ _ _ _ _ _ h m (by omega)))) (fun q h=>(noE h)))) (impl_knotsOf.rel _ _ _ _ g m (by omega))))) (fun q h=>?_))) (impl_isRoot.rel m _ _ _ g m (by omega))))))))) (fun q h=>?_))) (impl_in.rel m _ _ _ _ g m (by omega))))) (fun q h=>(noE h)))) (fun q h=>(noE h)))) (fun q h=>((fun h=>?_) (il1 _ (by omega) _ _ _ _ _ _ _ _ h m (by omega)))))
   all_goals clear il0 il1 il2
   all_goals (try cases h)
   all_goals (try simp only [*,if_true,if_false,↓reduceIte,Option.bind_some,List.length_cons,List.length_nil,List.length_append,Bool.not_true,Bool.not_false,Bool.true_eq_false,Bool.false_eq_true])
   all_goals (repeat first | rw [if_pos (by omega)] | rw [if_neg (by omega)])
   all_goals first | exact h | apply h | rfl | (simp_all [-Bool.forall_bool];done) | (simp_all [-Bool.forall_bool];first | exact h | apply h) | (simp_all [-Bool.forall_bool,emp_eq,int_beq];done) | (simp_all [-Bool.forall_bool];(intros;simp_all;done)) | (simp_all [-Bool.forall_bool,rdset71,rdset3,rdset79,rdset56,rdset80,rdset69,rdset4,rdset52];done) | grind
 ·intro x3 x77 x78 x79 x576000 x576001 x576002 r h m hm;cases k with
  | zero=>simp only [PK.impl_StoreOk.l1] at h;cases h
  | succ k =>
   obtain ⟨m,rfl⟩ : ∃ m',m = m' + 1:=⟨m - 1,by omega⟩;rw [PK.impl_StoreOk.l1] at h;rw [impl_StoreOk.c12]
   try simp only [w64_eq,wu8_eq,gt_iff_lt,ge_iff_le,int_beq,fdiv33,fdiv45,bt_eq,tmodN,rdOfB,rdOfL] at h
   try simp only [shlR]
   try simp only [w64_eq,wu8_eq,gt_iff_lt,ge_iff_le,int_beq,fdiv33,fdiv45,bt_eq,tmodN,rdOfB,rdOfL,rdT3_eq,seq,maxI,minI,emp_eq,rdn71,rdn3,rdn79,rdn56,rdn80,rdn69,rdn4,rdn52]
   refine (itE h (fun q h=>(itE h (fun q h=>(itE h (fun q h=>(bnE h (fun _ g h=>(fun g=>(itE h (fun q h=>((fun h=>?_) (il2 _ (by omega) _ _ _ _ _ _ _ _ _ _ _ _ _ h m (by omega)))) (fun q h=>?_))) (impl_hasInt.rel _ _ _ _ g m (by omega))))) (fun q h=>(noE h)))) (fun q h=>(noE h)))) (fun q h=>?_))
   all_goals clear il0 il1 il2
   all_goals (try cases h)
   all_goals (try simp only [*,if_true,if_false,↓reduceIte,Option.bind_some,List.length_cons,List.length_nil,List.length_append,Bool.not_true,Bool.not_false,Bool.true_eq_false,Bool.false_eq_true])
   all_goals (repeat first | rw [if_pos (by omega)] | rw [if_neg (by omega)])
   all_goals first | exact h | apply h | rfl | (simp_all [-Bool.forall_bool];done) | (simp_all [-Bool.forall_bool];first | exact h | apply h) | (simp_all [-Bool.forall_bool,emp_eq,int_beq];done) | (simp_all [-Bool.forall_bool];(intros;simp_all;done)) | (simp_all [-Bool.forall_bool,rdset71,rdset3,rdset79,rdset56,rdset80,rdset69,rdset4,rdset52];done) | grind
 intro x3 x77 x78 x79 x89 x90 x91 x576000 x576001 x576002 x610000 x610001 r h m hm;cases k with
 | zero=>simp only [PK.impl_StoreOk.l2] at h;cases h
 | succ k =>
  obtain ⟨m,rfl⟩ : ∃ m',m = m' + 1:=⟨m - 1,by omega⟩;rw [PK.impl_StoreOk.l2] at h;rw [impl_StoreOk.c17]
  try simp only [w64_eq,wu8_eq,gt_iff_lt,ge_iff_le,int_beq,fdiv33,fdiv45,bt_eq,tmodN,rdOfB,rdOfL] at h
  try simp only [shlR]
  try simp only [w64_eq,wu8_eq,gt_iff_lt,ge_iff_le,int_beq,fdiv33,fdiv45,bt_eq,tmodN,rdOfB,rdOfL,rdT3_eq,seq,maxI,minI,emp_eq,rdn71,rdn3,rdn79,rdn56,rdn80,rdn69,rdn4,rdn52]
  refine (itE h (fun q h=>(itE h (fun q h=>(itE h (fun q h=>(itE h (fun q h=>(itE h (fun q h=>?_) (fun q h=>((fun h=>?_) (il2 _ (by omega) _ _ _ _ _ _ _ _ _ _ _ _ _ h m (by omega)))))) (fun q h=>((fun h=>?_) (il2 _ (by omega) _ _ _ _ _ _ _ _ _ _ _ _ _ h m (by omega)))))) (fun q h=>(noE h)))) (fun q h=>(noE h)))) (fun q h=>((fun h=>?_) (il1 _ (by omega) _ _ _ _ _ _ _ _ h m (by omega)))))
  all_goals clear il0 il1 il2
  all_goals (try cases h)
  all_goals (try simp only [*,if_true,if_false,↓reduceIte,Option.bind_some,List.length_cons,List.length_nil,List.length_append,Bool.not_true,Bool.not_false,Bool.true_eq_false,Bool.false_eq_true])
  all_goals (repeat first | rw [if_pos (by omega)] | rw [if_neg (by omega)])
  all_goals first | exact h | apply h | rfl | (simp_all [-Bool.forall_bool];done) | (simp_all [-Bool.forall_bool];first | exact h | apply h) | (simp_all [-Bool.forall_bool,emp_eq,int_beq];done) | (simp_all [-Bool.forall_bool];(intros;simp_all;done)) | (simp_all [-Bool.forall_bool,rdset71,rdset3,rdset79,rdset56,rdset80,rdset69,rdset4,rdset52];done) | grind
theorem impl_StoreOk.rel (k : Nat) (l0_0 : List (S69)) (l0_1 : List (S80)) (a0_2 : Int) (r) (h : PK.impl_StoreOk.f k l0_0 l0_1 a0_2 = some r) (m : Nat) (hm : k ≤ m) : impl_StoreOk.f m l0_0 l0_1 a0_2 = some r:=by
 have il0:=fun k' (_ : k' < k + 1)=>(impl_StoreOk.rel_l k').1;have il1:=fun k' (_ : k' < k + 1)=>(impl_StoreOk.rel_l k').2.1;have il2:=fun k' (_ : k' < k + 1)=>(impl_StoreOk.rel_l k').2.2;rw [PK.impl_StoreOk.f] at h;rw [impl_StoreOk.f]
 try simp only [w64_eq,wu8_eq,gt_iff_lt,ge_iff_le,int_beq,fdiv33,fdiv45,bt_eq,tmodN,rdOfB,rdOfL] at h
 try simp only [shlR]
 try simp only [w64_eq,wu8_eq,gt_iff_lt,ge_iff_le,int_beq,fdiv33,fdiv45,bt_eq,tmodN,rdOfB,rdOfL,rdT3_eq,seq,maxI,minI,emp_eq,rdn71,rdn3,rdn79,rdn56,rdn80,rdn69,rdn4,rdn52]
 refine (itE h (fun q h=>(by cases k with | zero=>(simp only [PK.impl_StoreOk.j0] at h;cases h) | succ k=>(rw [PK.impl_StoreOk.j0] at h;(try simp only [w64_eq,wu8_eq,gt_iff_lt,ge_iff_le,int_beq,fdiv33,fdiv45,bt_eq,tmodN,rdOfB,rdOfL] at h);refine (itE h (fun q h=>?_) (fun q h=>((fun h=>?_) (il0 _ (by omega) _ _ _ _ _ _ _ _ h m (by omega))))) <;> ((try cases h);(try simp only [*,if_true,if_false,↓reduceIte,Option.bind_some,List.length_cons,List.length_nil,List.length_append,Bool.not_true,Bool.not_false,Bool.true_eq_false,Bool.false_eq_true]);all_goals (repeat first | rw [if_pos (by omega)] | rw [if_neg (by omega)]);all_goals (first | exact h | apply h | rfl | (simp_all [-Bool.forall_bool];done) | (simp_all [-Bool.forall_bool];first | exact h | apply h) | (simp_all [-Bool.forall_bool,emp_eq,int_beq];done) | (simp_all [-Bool.forall_bool];(intros;simp_all;done)) | (simp_all [-Bool.forall_bool,rdset71,rdset3,rdset79,rdset56,rdset80,rdset69,rdset4,rdset52];done) | grind))))) (fun q h=>(bnE h (fun _ g h=>(fun g=>(itE h (fun q h=>(bnE h (fun _ g h=>(fun g=>(by cases k with | zero=>(simp only [PK.impl_StoreOk.j0] at h;cases h) | succ k=>(rw [PK.impl_StoreOk.j0] at h;(try simp only [w64_eq,wu8_eq,gt_iff_lt,ge_iff_le,int_beq,fdiv33,fdiv45,bt_eq,tmodN,rdOfB,rdOfL] at h);refine (itE h (fun q h=>?_) (fun q h=>((fun h=>?_) (il0 _ (by omega) _ _ _ _ _ _ _ _ h m (by omega))))) <;> ((try cases h);(try simp only [*,if_true,if_false,↓reduceIte,Option.bind_some,List.length_cons,List.length_nil,List.length_append,Bool.not_true,Bool.not_false,Bool.true_eq_false,Bool.false_eq_true]);all_goals (repeat first | rw [if_pos (by omega)] | rw [if_neg (by omega)]);all_goals (first | exact h | apply h | rfl | (simp_all [-Bool.forall_bool];done) | (simp_all [-Bool.forall_bool];first | exact h | apply h) | (simp_all [-Bool.forall_bool,emp_eq,int_beq];done) | (simp_all [-Bool.forall_bool];(intros;simp_all;done)) | (simp_all [-Bool.forall_bool,rdset71,rdset3,rdset79,rdset56,rdset80,rdset69,rdset4,rdset52];done) | grind))))) (impl_in.rel m _ _ _ _ g m (by omega))))) (fun q h=>(by cases k with | zero=>(simp only [PK.impl_StoreOk.j0] at h;cases h) | succ k=>(rw [PK.impl_StoreOk.j0] at h;(try simp only [w64_eq,wu8_eq,gt_iff_lt,ge_iff_le,int_beq,fdiv33,fdiv45,bt_eq,tmodN,rdOfB,rdOfL] at h);refine (itE h (fun q h=>?_) (fun q h=>((fun h=>?_) (il0 _ (by omega) _ _ _ _ _ _ _ _ h m (by omega))))) <;> ((try cases h);(try simp only [*,if_true,if_false,↓reduceIte,Option.bind_some,List.length_cons,List.length_nil,List.length_append,Bool.not_true,Bool.not_false,Bool.true_eq_false,Bool.false_eq_true]);all_goals (repeat first | rw [if_pos (by omega)] | rw [if_neg (by omega)]);all_goals (first | exact h | apply h | rfl | (simp_all [-Bool.forall_bool];done) | (simp_all [-Bool.forall_bool];first | exact h | apply h) | (simp_all [-Bool.forall_bool,emp_eq,int_beq];done) | (simp_all [-Bool.forall_bool];(intros;simp_all;done)) | (simp_all [-Bool.forall_bool,rdset71,rdset3,rdset79,rdset56,rdset80,rdset69,rdset4,rdset52];done) | grind))))))) (impl_ArenaOk.rel _ _ _ g m (by omega))))))
 all_goals clear il0 il1 il2
 all_goals (try cases h)
 all_goals (try simp only [*,if_true,if_false,↓reduceIte,Option.bind_some,List.length_cons,List.length_nil,List.length_append,Bool.not_true,Bool.not_false,Bool.true_eq_false,Bool.false_eq_true])
 all_goals (repeat first | rw [if_pos (by omega)] | rw [if_neg (by omega)])
 all_goals first | exact h | apply h | rfl | (simp_all [-Bool.forall_bool];done) | (simp_all [-Bool.forall_bool];first | exact h | apply h) | (simp_all [-Bool.forall_bool,emp_eq,int_beq];done) | (simp_all [-Bool.forall_bool];(intros;simp_all;done)) | (simp_all [-Bool.forall_bool,rdset71,rdset3,rdset79,rdset56,rdset80,rdset69,rdset4,rdset52];done) | grind
end Go.Proofs.YteideicglgpfiaaGreat.M2

namespace Go.Proofs.YteideicglgpfiaaGreat.M2
open Go Go.RowKit Go.Proofs.YteideicglgpfiaaGreatW.PrintWords Go.Proofs.YteideicglgpfiaaGreat.PK
set_option linter.unusedVariables false
set_option linter.unusedSimpArgs false
theorem impl_copyInts.rel (k : Nat) (l0 : List Int) (r) (h : PK.impl_copyInts.f l0 = some r) (m : Nat) (hm : k ≤ m) : impl_copyInts.f m l0 = some r:=by
 rw [PK.impl_copyInts.f] at h;rw [impl_copyInts.f]
 try simp only [w64_eq,wu8_eq,gt_iff_lt,ge_iff_le,int_beq,fdiv33,fdiv45,bt_eq,tmodN,rdOfB,rdOfL] at h
 try simp only [shlR]
 try simp only [w64_eq,wu8_eq,gt_iff_lt,ge_iff_le,int_beq,fdiv33,fdiv45,bt_eq,tmodN,rdOfB,rdOfL,rdT3_eq,seq,maxI,minI,emp_eq,rdn71,rdn3,rdn79,rdn56,rdn80,rdn69,rdn4,rdn52]
 refine (itE h (fun q h=>?_) (fun q h=>(noE h)))
 all_goals (try cases h)
 all_goals (try simp only [*,if_true,if_false,↓reduceIte,Option.bind_some,List.length_cons,List.length_nil,List.length_append,Bool.not_true,Bool.not_false,Bool.true_eq_false,Bool.false_eq_true])
 all_goals (repeat first | rw [if_pos (by omega)] | rw [if_neg (by omega)])
 all_goals first | exact h | apply h | rfl | (simp_all [-Bool.forall_bool];done) | (simp_all [-Bool.forall_bool];first | exact h | apply h) | (simp_all [-Bool.forall_bool,emp_eq,int_beq];done) | (simp_all [-Bool.forall_bool];(intros;simp_all;done)) | (simp_all [-Bool.forall_bool,rdset71,rdset3,rdset79,rdset56,rdset80,rdset69,rdset4,rdset52];done) | grind
theorem impl_copyArena.rel_l (k : Nat) : (∀ x7 x8 x9 x537000 r,PK.impl_copyArena.l0 k x7 x8 x9 x537000 = some r → ∀ m,k ≤ m → ∀ (h65 : List S80),impl_copyArena.c3 m x7 x8 x9 h65 x537000 = some r):=by
 induction k using Nat.strongRecOn with
 | _ k ih =>
 have il0:=fun k' hk'=>(ih k' hk');clear ih;intro x7 x8 x9 x537000 r h m hm h65;cases k with
 | zero=>simp only [PK.impl_copyArena.l0] at h;cases h
 | succ k =>
  obtain ⟨m,rfl⟩ : ∃ m',m = m' + 1:=⟨m - 1,by omega⟩;rw [PK.impl_copyArena.l0] at h;rw [impl_copyArena.c3]
  try simp only [w64_eq,wu8_eq,gt_iff_lt,ge_iff_le,int_beq,fdiv33,fdiv45,bt_eq,tmodN,rdOfB,rdOfL] at h
  try simp only [shlR]
  try simp only [w64_eq,wu8_eq,gt_iff_lt,ge_iff_le,int_beq,fdiv33,fdiv45,bt_eq,tmodN,rdOfB,rdOfL,rdT3_eq,seq,maxI,minI,emp_eq,rdn71,rdn3,rdn79,rdn56,rdn80,rdn69,rdn4,rdn52]
  refine (itE h (fun q h=>(itE h (fun q h=>(itE h (fun q h=>(bnE h (fun _ g h=>(fun g=>(itE h (fun q h=>((fun h=>?_) (il0 _ (by omega) _ _ _ _ _ h m (by omega)))) (fun q h=>(noE h)))) (impl_copyInts.rel m _ _ g m (by omega))))) (fun q h=>(noE h)))) (fun q h=>(noE h)))) (fun q h=>?_))
  all_goals clear il0
  all_goals (try cases h)
  all_goals (try simp only [*,if_true,if_false,↓reduceIte,Option.bind_some,List.length_cons,List.length_nil,List.length_append,Bool.not_true,Bool.not_false,Bool.true_eq_false,Bool.false_eq_true])
  all_goals (repeat first | rw [if_pos (by omega)] | rw [if_neg (by omega)])
  all_goals first | exact h | apply h | rfl | (simp_all [-Bool.forall_bool];done) | (simp_all [-Bool.forall_bool];first | exact h | apply h) | (simp_all [-Bool.forall_bool,emp_eq,int_beq];done) | (simp_all [-Bool.forall_bool];(intros;simp_all;done)) | (simp_all [-Bool.forall_bool,rdset71,rdset3,rdset79,rdset56,rdset80,rdset69,rdset4,rdset52];done) | grind
theorem impl_copyArena.rel (k : Nat) (l0_0 : List (S80)) (r) (h : PK.impl_copyArena.f k l0_0 = some r) (m : Nat) (hm : k ≤ m) : impl_copyArena.f m l0_0 = some r:=by
 have il0:=fun k' (_ : k' < k + 1)=>(impl_copyArena.rel_l k');rw [PK.impl_copyArena.f] at h;rw [impl_copyArena.f]
 try simp only [w64_eq,wu8_eq,gt_iff_lt,ge_iff_le,int_beq,fdiv33,fdiv45,bt_eq,tmodN,rdOfB,rdOfL] at h
 try simp only [shlR]
 try simp only [w64_eq,wu8_eq,gt_iff_lt,ge_iff_le,int_beq,fdiv33,fdiv45,bt_eq,tmodN,rdOfB,rdOfL,rdT3_eq,seq,maxI,minI,emp_eq,rdn71,rdn3,rdn79,rdn56,rdn80,rdn69,rdn4,rdn52]
 refine ((fun h=>?_) (il0 _ (by omega) _ _ _ _ _ h m (by omega)))
 all_goals clear il0
 all_goals (try cases h)
 all_goals (try simp only [*,if_true,if_false,↓reduceIte,Option.bind_some,List.length_cons,List.length_nil,List.length_append,Bool.not_true,Bool.not_false,Bool.true_eq_false,Bool.false_eq_true])
 all_goals (repeat first | rw [if_pos (by omega)] | rw [if_neg (by omega)])
 all_goals first | exact h | apply h | rfl | (simp_all [-Bool.forall_bool];done) | (simp_all [-Bool.forall_bool];first | exact h | apply h) | (simp_all [-Bool.forall_bool,emp_eq,int_beq];done) | (simp_all [-Bool.forall_bool];(intros;simp_all;done)) | (simp_all [-Bool.forall_bool,rdset71,rdset3,rdset79,rdset56,rdset80,rdset69,rdset4,rdset52];done) | grind
theorem impl_SweepArena.rel_l (k : Nat) : (∀ x1 x6 x7 x21 x22 x23 x691000 r,PK.impl_SweepArena.l0 k x1 x6 x7 x21 x22 x23 x691000 = some r → ∀ m,k ≤ m → ∀ (h66 : List S80),impl_SweepArena.c4 m x1 x21 x22 x23 x691000 h66 x6 x7 = some (r.1,r.2)) ∧ (∀ x1 x6 x7 x11 x55 x56 x57 x711000 r,PK.impl_SweepArena.l1 k x1 x6 x7 x11 x55 x56 x57 x711000 = some r → ∀ m,k ≤ m → ∀ (h65 : List S80),impl_SweepArena.c15 m x1 x55 x56 x57 h65 x6 x7 x711000 x11 = some (r.1,r.2)) ∧ (∀ x1 x6 x7 x11 x55 x56 x57 x79 x80 x81 x711000 x716000 x716001 x722000 x722001 r,PK.impl_SweepArena.l2 k x1 x6 x7 x11 x55 x56 x57 x79 x80 x81 x711000 x716000 x716001 x722000 x722001 = some r → ∀ m,k ≤ m → ∀ (h65 : List S80),impl_SweepArena.c21 m x1 x55 x56 x57 x79 x80 x81 h65 x6 x7 (x711000) x11 x716000 x716001 x722001 x722000 = some (r.1,r.2)) ∧ (∀ x6 x11 x109 x110 x111 x711000 r,PK.impl_SweepArena.l3 k x6 x11 x109 x110 x111 x711000 = some r → ∀ m,k ≤ m → ∀ (h65 : List S80),impl_SweepArena.c29 m x109 x110 x111 h65 x6 x711000 x11 = some (r.1,r.2)):=by
 induction k using Nat.strongRecOn with
 | _ k ih =>
 have il0:=fun k' hk'=>(ih k' hk').1;have il1:=fun k' hk'=>(ih k' hk').2.1;have il2:=fun k' hk'=>(ih k' hk').2.2.1;have il3:=fun k' hk'=>(ih k' hk').2.2.2;clear ih;refine ⟨?_,?_,?_,?_⟩
 ·intro x1 x6 x7 x21 x22 x23 x691000 r h m hm h66;cases k with
  | zero=>simp only [PK.impl_SweepArena.l0] at h;cases h
  | succ k =>
   obtain ⟨m,rfl⟩ : ∃ m',m = m' + 1:=⟨m - 1,by omega⟩;rw [PK.impl_SweepArena.l0] at h;rw [impl_SweepArena.c4]
   try simp only [w64_eq,wu8_eq,gt_iff_lt,ge_iff_le,int_beq,fdiv33,fdiv45,bt_eq,tmodN,rdOfB,rdOfL] at h
   try simp only [shlR]
   try simp only [w64_eq,wu8_eq,gt_iff_lt,ge_iff_le,int_beq,fdiv33,fdiv45,bt_eq,tmodN,rdOfB,rdOfL,rdT3_eq,seq,maxI,minI,emp_eq,rdn71,rdn3,rdn79,rdn56,rdn80,rdn69,rdn4,rdn52]
   refine (itE h (fun q h=>(itE h (fun q h=>(itE h (fun q h=>(itE h (fun q h=>(by cases k with | zero=>(simp only [PK.impl_SweepArena.j1] at h;cases h) | succ k=>(rw [PK.impl_SweepArena.j1] at h;(try simp only [w64_eq,wu8_eq,gt_iff_lt,ge_iff_le,int_beq,fdiv33,fdiv45,bt_eq,tmodN,rdOfB,rdOfL] at h);refine (itE h (fun q h=>(bnE h (fun _ g h=>(fun g=>?_) (impl_copyArena.rel _ _ _ g m (by omega))))) (fun q h=>(bnE h (fun _ g h=>(fun g=>(itE h (fun q h=>((fun h=>?_) (il0 _ (by omega) _ _ _ _ _ _ _ _ h m (by omega)))) (fun q h=>(noE h)))) (impl_knotsOf.rel _ _ _ _ g m (by omega)))))) <;> ((try cases h);(try simp only [*,if_true,if_false,↓reduceIte,Option.bind_some,List.length_cons,List.length_nil,List.length_append,Bool.not_true,Bool.not_false,Bool.true_eq_false,Bool.false_eq_true]);all_goals (repeat first | rw [if_pos (by omega)] | rw [if_neg (by omega)]);all_goals (first | exact h | apply h | rfl | (simp_all [-Bool.forall_bool];done) | (simp_all [-Bool.forall_bool];first | exact h | apply h) | (simp_all [-Bool.forall_bool,emp_eq,int_beq];done) | (simp_all [-Bool.forall_bool];(intros;simp_all;done)) | (simp_all [-Bool.forall_bool,rdset71,rdset3,rdset79,rdset56,rdset80,rdset69,rdset4,rdset52];done) | grind))))) (fun q h=>(bnE h (fun _ g h=>(fun g=>(by cases k with | zero=>(simp only [PK.impl_SweepArena.j1] at h;cases h) | succ k=>(rw [PK.impl_SweepArena.j1] at h;(try simp only [w64_eq,wu8_eq,gt_iff_lt,ge_iff_le,int_beq,fdiv33,fdiv45,bt_eq,tmodN,rdOfB,rdOfL] at h);refine (itE h (fun q h=>(bnE h (fun _ g h=>(fun g=>?_) (impl_copyArena.rel _ _ _ g m (by omega))))) (fun q h=>(bnE h (fun _ g h=>(fun g=>(itE h (fun q h=>((fun h=>?_) (il0 _ (by omega) _ _ _ _ _ _ _ _ h m (by omega)))) (fun q h=>(noE h)))) (impl_knotsOf.rel _ _ _ _ g m (by omega)))))) <;> ((try cases h);(try simp only [*,if_true,if_false,↓reduceIte,Option.bind_some,List.length_cons,List.length_nil,List.length_append,Bool.not_true,Bool.not_false,Bool.true_eq_false,Bool.false_eq_true]);all_goals (repeat first | rw [if_pos (by omega)] | rw [if_neg (by omega)]);all_goals (first | exact h | apply h | rfl | (simp_all [-Bool.forall_bool];done) | (simp_all [-Bool.forall_bool];first | exact h | apply h) | (simp_all [-Bool.forall_bool,emp_eq,int_beq];done) | (simp_all [-Bool.forall_bool];(intros;simp_all;done)) | (simp_all [-Bool.forall_bool,rdset71,rdset3,rdset79,rdset56,rdset80,rdset69,rdset4,rdset52];done) | grind))))) (impl_isRoot.rel m _ _ _ g m (by omega))))))) (fun q h=>(noE h)))) (fun q h=>(noE h)))) (fun q h=>(bnE h (fun _ g h=>(fun g=>(itE h (fun q h=>(itE h (fun q h=>(itE h (fun q h=>((fun h=>?_) (il1 _ (by omega) _ _ _ _ _ _ _ _ _ h m (by omega)))) (fun q h=>(noE h)))) (fun q h=>(noE h)))) (fun q h=>(bnE h (fun _ g h=>(fun g=>?_) (impl_copyArena.rel _ _ _ g m (by omega))))))) (impl_ArenaOk.rel _ _ _ g m (by omega))))))
   all_goals clear il0 il1 il2 il3
   all_goals (try cases h)
   all_goals (try simp only [*,if_true,if_false,↓reduceIte,Option.bind_some,List.length_cons,List.length_nil,List.length_append,Bool.not_true,Bool.not_false,Bool.true_eq_false,Bool.false_eq_true])
   all_goals (repeat first | rw [if_pos (by omega)] | rw [if_neg (by omega)])
   all_goals first | exact h | apply h | rfl | (simp_all [-Bool.forall_bool];done) | (simp_all [-Bool.forall_bool];first | exact h | apply h) | (simp_all [-Bool.forall_bool,emp_eq,int_beq];done) | (simp_all [-Bool.forall_bool];(intros;simp_all;done)) | (simp_all [-Bool.forall_bool,rdset71,rdset3,rdset79,rdset56,rdset80,rdset69,rdset4,rdset52];done) | grind
 ·intro x1 x6 x7 x11 x55 x56 x57 x711000 r h m hm h65;cases k with
  | zero=>simp only [PK.impl_SweepArena.l1] at h;cases h
  | succ k =>
   obtain ⟨m,rfl⟩ : ∃ m',m = m' + 1:=⟨m - 1,by omega⟩;rw [PK.impl_SweepArena.l1] at h;rw [impl_SweepArena.c15]
   try simp only [w64_eq,wu8_eq,gt_iff_lt,ge_iff_le,int_beq,fdiv33,fdiv45,bt_eq,tmodN,rdOfB,rdOfL] at h
   try simp only [shlR]
   try simp only [w64_eq,wu8_eq,gt_iff_lt,ge_iff_le,int_beq,fdiv33,fdiv45,bt_eq,tmodN,rdOfB,rdOfL,rdT3_eq,seq,maxI,minI,emp_eq,rdn71,rdn3,rdn79,rdn56,rdn80,rdn69,rdn4,rdn52]
   refine (itE h (fun q h=>(itE h (fun q h=>(itE h (fun q h=>(bnE h (fun _ g h=>(fun g=>(itE h (fun q h=>(itE h (fun q h=>(bnE h (fun _ g h=>(fun g=>((fun h=>?_) (il2 _ (by omega) _ _ _ _ _ _ _ _ _ _ _ _ _ _ _ _ h m (by omega)))) (impl_copyInts.rel m _ _ g m (by omega))))) (fun q h=>(noE h)))) (fun q h=>((fun h=>?_) (il1 _ (by omega) _ _ _ _ _ _ _ _ _ h m (by omega)))))) (impl_hasInt.rel _ _ _ _ g m (by omega))))) (fun q h=>(noE h)))) (fun q h=>(noE h)))) (fun q h=>((fun h=>?_) (il3 _ (by omega) _ _ _ _ _ _ _ h m (by omega)))))
   all_goals clear il0 il1 il2 il3
   all_goals (try cases h)
   all_goals (try simp only [*,if_true,if_false,↓reduceIte,Option.bind_some,List.length_cons,List.length_nil,List.length_append,Bool.not_true,Bool.not_false,Bool.true_eq_false,Bool.false_eq_true])
   all_goals (repeat first | rw [if_pos (by omega)] | rw [if_neg (by omega)])
   all_goals first | exact h | apply h | rfl | (simp_all [-Bool.forall_bool];done) | (simp_all [-Bool.forall_bool];first | exact h | apply h) | (simp_all [-Bool.forall_bool,emp_eq,int_beq];done) | (simp_all [-Bool.forall_bool];(intros;simp_all;done)) | (simp_all [-Bool.forall_bool,rdset71,rdset3,rdset79,rdset56,rdset80,rdset69,rdset4,rdset52];done) | grind
 ·intro x1 x6 x7 x11 x55 x56 x57 x79 x80 x81 x711000 x716000 x716001 x722000 x722001 r h m hm h65;cases k with
  | zero=>simp only [PK.impl_SweepArena.l2] at h;cases h
  | succ k =>
   obtain ⟨m,rfl⟩ : ∃ m',m = m' + 1:=⟨m - 1,by omega⟩;rw [PK.impl_SweepArena.l2] at h;rw [impl_SweepArena.c21]
   try simp only [w64_eq,wu8_eq,gt_iff_lt,ge_iff_le,int_beq,fdiv33,fdiv45,bt_eq,tmodN,rdOfB,rdOfL] at h
   try simp only [shlR]
   try simp only [w64_eq,wu8_eq,gt_iff_lt,ge_iff_le,int_beq,fdiv33,fdiv45,bt_eq,tmodN,rdOfB,rdOfL,rdT3_eq,seq,maxI,minI,emp_eq,rdn71,rdn3,rdn79,rdn56,rdn80,rdn69,rdn4,rdn52]
   refine (itE h (fun q h=>(itE h (fun q h=>(itE h (fun q h=>(itE h (fun q h=>((fun h=>?_) (il2 _ (by omega) _ _ _ _ _ _ _ _ _ _ _ _ _ _ _ _ h m (by omega)))) (fun q h=>(itE h (fun q h=>(itE h (fun q h=>(itE h (fun q h=>(itE h (fun q h=>((fun h=>?_) (il2 _ (by omega) _ _ _ _ _ _ _ _ _ _ _ _ _ _ _ _ h m (by omega)))) (fun q h=>(noE h)))) (fun q h=>(noE h)))) (fun q h=>(noE h)))) (fun q h=>((fun h=>?_) (il2 _ (by omega) _ _ _ _ _ _ _ _ _ _ _ _ _ _ _ _ h m (by omega)))))))) (fun q h=>(noE h)))) (fun q h=>(noE h)))) (fun q h=>(itE h (fun q h=>((fun h=>?_) (il1 _ (by omega) _ _ _ _ _ _ _ _ _ h m (by omega)))) (fun q h=>(noE h)))))
   all_goals clear il0 il1 il2 il3
   all_goals (try cases h)
   all_goals (try simp only [*,if_true,if_false,↓reduceIte,Option.bind_some,List.length_cons,List.length_nil,List.length_append,Bool.not_true,Bool.not_false,Bool.true_eq_false,Bool.false_eq_true])
   all_goals (repeat first | rw [if_pos (by omega)] | rw [if_neg (by omega)])
   all_goals first | exact h | apply h | rfl | (simp_all [-Bool.forall_bool];done) | (simp_all [-Bool.forall_bool];first | exact h | apply h) | (simp_all [-Bool.forall_bool,emp_eq,int_beq];done) | (simp_all [-Bool.forall_bool];(intros;simp_all;done)) | (simp_all [-Bool.forall_bool,rdset71,rdset3,rdset79,rdset56,rdset80,rdset69,rdset4,rdset52];done) | grind
 intro x6 x11 x109 x110 x111 x711000 r h m hm h65;cases k with
 | zero=>simp only [PK.impl_SweepArena.l3] at h;cases h
 | succ k =>
  obtain ⟨m,rfl⟩ : ∃ m',m = m' + 1:=⟨m - 1,by omega⟩;rw [PK.impl_SweepArena.l3] at h;rw [impl_SweepArena.c29]
  try simp only [w64_eq,wu8_eq,gt_iff_lt,ge_iff_le,int_beq,fdiv33,fdiv45,bt_eq,tmodN,rdOfB,rdOfL] at h
  try simp only [shlR]
  try simp only [w64_eq,wu8_eq,gt_iff_lt,ge_iff_le,int_beq,fdiv33,fdiv45,bt_eq,tmodN,rdOfB,rdOfL,rdT3_eq,seq,maxI,minI,emp_eq,rdn71,rdn3,rdn79,rdn56,rdn80,rdn69,rdn4,rdn52]
  refine (itE h (fun q h=>(itE h (fun q h=>(itE h (fun q h=>(itE h (fun q h=>(itE h (fun q h=>(itE h (fun q h=>(itE h (fun q h=>((fun h=>?_) (il3 _ (by omega) _ _ _ _ _ _ _ h m (by omega)))) (fun q h=>(noE h)))) (fun q h=>(noE h)))) (fun q h=>(noE h)))) (fun q h=>((fun h=>?_) (il3 _ (by omega) _ _ _ _ _ _ _ h m (by omega)))))) (fun q h=>(noE h)))) (fun q h=>(noE h)))) (fun q h=>?_))
  all_goals clear il0 il1 il2 il3
  all_goals (try cases h)
  all_goals (try simp only [*,if_true,if_false,↓reduceIte,Option.bind_some,List.length_cons,List.length_nil,List.length_append,Bool.not_true,Bool.not_false,Bool.true_eq_false,Bool.false_eq_true])
  all_goals (repeat first | rw [if_pos (by omega)] | rw [if_neg (by omega)])
  all_goals first | exact h | apply h | rfl | (simp_all [-Bool.forall_bool];done) | (simp_all [-Bool.forall_bool];first | exact h | apply h) | (simp_all [-Bool.forall_bool,emp_eq,int_beq];done) | (simp_all [-Bool.forall_bool];(intros;simp_all;done)) | (simp_all [-Bool.forall_bool,rdset71,rdset3,rdset79,rdset56,rdset80,rdset69,rdset4,rdset52];done) | grind
theorem impl_SweepArena.rel (k : Nat) (l0_0 : List (S80)) (l1 : List Int) (r) (h : PK.impl_SweepArena.f k l0_0 l1 = some r) (m : Nat) (hm : k ≤ m) : impl_SweepArena.f m l0_0 l1 = some (r.1,r.2):=by
 have il0:=fun k' (_ : k' < k + 1)=>(impl_SweepArena.rel_l k').1;have il1:=fun k' (_ : k' < k + 1)=>(impl_SweepArena.rel_l k').2.1;have il2:=fun k' (_ : k' < k + 1)=>(impl_SweepArena.rel_l k').2.2.1;have il3:=fun k' (_ : k' < k + 1)=>(impl_SweepArena.rel_l k').2.2.2;rw [PK.impl_SweepArena.f] at h;rw [impl_SweepArena.f]
 try simp only [w64_eq,wu8_eq,gt_iff_lt,ge_iff_le,int_beq,fdiv33,fdiv45,bt_eq,tmodN,rdOfB,rdOfL] at h
 try simp only [shlR]
 try simp only [w64_eq,wu8_eq,gt_iff_lt,ge_iff_le,int_beq,fdiv33,fdiv45,bt_eq,tmodN,rdOfB,rdOfL,rdT3_eq,seq,maxI,minI,emp_eq,rdn71,rdn3,rdn79,rdn56,rdn80,rdn69,rdn4,rdn52]
 refine (bnE h (fun _ g h=>(fun g=>((fun h=>?_) (il0 _ (by omega) _ _ _ _ _ _ _ _ h m (by omega)))) (impl_copyInts.rel m _ _ g m (by omega))))
 all_goals clear il0 il1 il2 il3
 all_goals (try cases h)
 all_goals (try simp only [*,if_true,if_false,↓reduceIte,Option.bind_some,List.length_cons,List.length_nil,List.length_append,Bool.not_true,Bool.not_false,Bool.true_eq_false,Bool.false_eq_true])
 all_goals (repeat first | rw [if_pos (by omega)] | rw [if_neg (by omega)])
 all_goals first | exact h | apply h | rfl | (simp_all [-Bool.forall_bool];done) | (simp_all [-Bool.forall_bool];first | exact h | apply h) | (simp_all [-Bool.forall_bool,emp_eq,int_beq];done) | (simp_all [-Bool.forall_bool];(intros;simp_all;done)) | (simp_all [-Bool.forall_bool,rdset71,rdset3,rdset79,rdset56,rdset80,rdset69,rdset4,rdset52];done) | grind
end Go.Proofs.YteideicglgpfiaaGreat.M2

namespace Go.Proofs.YteideicglgpfiaaGreat.M2
open Go Go.RowKit Go.Proofs.YteideicglgpfiaaGreatW.PrintWords Go.Proofs.YteideicglgpfiaaGreat.PK
set_option linter.unusedVariables false
set_option linter.unusedSimpArgs false
theorem laws_toIntS.rel_l (k : Nat) : (∀ x0 x3 x4 r,PK.laws_toIntS.l0 k x0 x3 x4 = some r → ∀ m,k ≤ m → laws_toIntS.c3 m x0 x4 x3 = some r):=by
 induction k using Nat.strongRecOn with
 | _ k ih =>
 have il0:=fun k' hk'=>(ih k' hk');clear ih;intro x0 x3 x4 r h m hm;cases k with
 | zero=>simp only [PK.laws_toIntS.l0] at h;cases h
 | succ k =>
  obtain ⟨m,rfl⟩ : ∃ m',m = m' + 1:=⟨m - 1,by omega⟩;rw [PK.laws_toIntS.l0] at h;rw [laws_toIntS.c3]
  try simp only [w64_eq,wu8_eq,gt_iff_lt,ge_iff_le,int_beq,fdiv33,fdiv45,bt_eq,tmodN,rdOfB,rdOfL] at h
  try simp only [shlR]
  try simp only [w64_eq,wu8_eq,gt_iff_lt,ge_iff_le,int_beq,fdiv33,fdiv45,bt_eq,tmodN,rdOfB,rdOfL,rdT3_eq,seq,maxI,minI,emp_eq,rdn71,rdn3,rdn79,rdn56,rdn80,rdn69,rdn4,rdn52]
  refine (itE h (fun q h=>(itE h (fun q h=>(itE h (fun q h=>((fun h=>?_) (il0 _ (by omega) _ _ _ _ h m (by omega)))) (fun q h=>(noE h)))) (fun q h=>(noE h)))) (fun q h=>?_))
  all_goals clear il0
  all_goals (try cases h)
  all_goals (try simp only [*,if_true,if_false,↓reduceIte,Option.bind_some,List.length_cons,List.length_nil,List.length_append,Bool.not_true,Bool.not_false,Bool.true_eq_false,Bool.false_eq_true])
  all_goals (repeat first | rw [if_pos (by omega)] | rw [if_neg (by omega)])
  all_goals first | exact h | apply h | rfl | (simp_all [-Bool.forall_bool];done) | (simp_all [-Bool.forall_bool];first | exact h | apply h) | (simp_all [-Bool.forall_bool,emp_eq,int_beq];done) | (simp_all [-Bool.forall_bool];(intros;simp_all;done)) | (simp_all [-Bool.forall_bool,rdset71,rdset3,rdset79,rdset56,rdset80,rdset69,rdset4,rdset52];done) | grind
theorem laws_toIntS.rel (k : Nat) (l0 : List Int) (r) (h : PK.laws_toIntS.f k l0 = some r) (m : Nat) (hm : k ≤ m) : laws_toIntS.f m l0 = some r:=by
 have il0:=fun k' (_ : k' < k + 1)=>(laws_toIntS.rel_l k');rw [PK.laws_toIntS.f] at h;rw [laws_toIntS.f]
 try simp only [w64_eq,wu8_eq,gt_iff_lt,ge_iff_le,int_beq,fdiv33,fdiv45,bt_eq,tmodN,rdOfB,rdOfL] at h
 try simp only [shlR]
 try simp only [w64_eq,wu8_eq,gt_iff_lt,ge_iff_le,int_beq,fdiv33,fdiv45,bt_eq,tmodN,rdOfB,rdOfL,rdT3_eq,seq,maxI,minI,emp_eq,rdn71,rdn3,rdn79,rdn56,rdn80,rdn69,rdn4,rdn52]
 refine (itE h (fun q h=>(itE h (fun q h=>((fun h=>?_) (il0 _ (by omega) _ _ _ _ h m (by omega)))) (fun q h=>(noE h)))) (fun q h=>(noE h)))
 all_goals clear il0
 all_goals (try cases h)
 all_goals (try simp only [*,if_true,if_false,↓reduceIte,Option.bind_some,List.length_cons,List.length_nil,List.length_append,Bool.not_true,Bool.not_false,Bool.true_eq_false,Bool.false_eq_true])
 all_goals (repeat first | rw [if_pos (by omega)] | rw [if_neg (by omega)])
 all_goals first | exact h | apply h | rfl | (simp_all [-Bool.forall_bool];done) | (simp_all [-Bool.forall_bool];first | exact h | apply h) | (simp_all [-Bool.forall_bool,emp_eq,int_beq];done) | (simp_all [-Bool.forall_bool];(intros;simp_all;done)) | (simp_all [-Bool.forall_bool,rdset71,rdset3,rdset79,rdset56,rdset80,rdset69,rdset4,rdset52];done) | grind
theorem laws_toKnot.rel (k : Nat) (a0_0 : Bool) (l0_1 : List Int) (r) (h : PK.laws_toKnot.f k a0_0 l0_1 = some r) (m : Nat) (hm : k ≤ m) : laws_toKnot.f m a0_0 l0_1 = some (r.1,r.2):=by
 rw [PK.laws_toKnot.f] at h;rw [laws_toKnot.f]
 try simp only [w64_eq,wu8_eq,gt_iff_lt,ge_iff_le,int_beq,fdiv33,fdiv45,bt_eq,tmodN,rdOfB,rdOfL] at h
 try simp only [shlR]
 try simp only [w64_eq,wu8_eq,gt_iff_lt,ge_iff_le,int_beq,fdiv33,fdiv45,bt_eq,tmodN,rdOfB,rdOfL,rdT3_eq,seq,maxI,minI,emp_eq,rdn71,rdn3,rdn79,rdn56,rdn80,rdn69,rdn4,rdn52]
 refine (bnE h (fun _ g h=>(fun g=>?_) (laws_toIntS.rel _ _ _ g m (by omega))))
 all_goals (try cases h)
 all_goals (try simp only [*,if_true,if_false,↓reduceIte,Option.bind_some,List.length_cons,List.length_nil,List.length_append,Bool.not_true,Bool.not_false,Bool.true_eq_false,Bool.false_eq_true])
 all_goals (repeat first | rw [if_pos (by omega)] | rw [if_neg (by omega)])
 all_goals first | exact h | apply h | rfl | (simp_all [-Bool.forall_bool];done) | (simp_all [-Bool.forall_bool];first | exact h | apply h) | (simp_all [-Bool.forall_bool,emp_eq,int_beq];done) | (simp_all [-Bool.forall_bool];(intros;simp_all;done)) | (simp_all [-Bool.forall_bool,rdset71,rdset3,rdset79,rdset56,rdset80,rdset69,rdset4,rdset52];done) | grind
theorem laws_toKnotS.rel_l (k : Nat) : (∀ x0 x3 x4 r,PK.laws_toKnotS.l0 k x0 x3 x4 = some r → ∀ m,k ≤ m → laws_toKnotS.c3 m x0 x4 x3 = some r):=by
 induction k using Nat.strongRecOn with
 | _ k ih =>
 have il0:=fun k' hk'=>(ih k' hk');clear ih;intro x0 x3 x4 r h m hm;cases k with
 | zero=>simp only [PK.laws_toKnotS.l0] at h;cases h
 | succ k =>
  obtain ⟨m,rfl⟩ : ∃ m',m = m' + 1:=⟨m - 1,by omega⟩;rw [PK.laws_toKnotS.l0] at h;rw [laws_toKnotS.c3]
  try simp only [w64_eq,wu8_eq,gt_iff_lt,ge_iff_le,int_beq,fdiv33,fdiv45,bt_eq,tmodN,rdOfB,rdOfL] at h
  try simp only [shlR]
  try simp only [w64_eq,wu8_eq,gt_iff_lt,ge_iff_le,int_beq,fdiv33,fdiv45,bt_eq,tmodN,rdOfB,rdOfL,rdT3_eq,seq,maxI,minI,emp_eq,rdn71,rdn3,rdn79,rdn56,rdn80,rdn69,rdn4,rdn52]
  refine (itE h (fun q h=>(itE h (fun q h=>(bnE h (fun _ g h=>(fun g=>(itE h (fun q h=>((fun h=>?_) (il0 _ (by omega) _ _ _ _ h m (by omega)))) (fun q h=>(noE h)))) (laws_toKnot.rel _ _ _ _ g m (by omega))))) (fun q h=>(noE h)))) (fun q h=>?_))
  all_goals clear il0
  all_goals (try cases h)
  all_goals (try simp only [*,if_true,if_false,↓reduceIte,Option.bind_some,List.length_cons,List.length_nil,List.length_append,Bool.not_true,Bool.not_false,Bool.true_eq_false,Bool.false_eq_true])
  all_goals (repeat first | rw [if_pos (by omega)] | rw [if_neg (by omega)])
  all_goals first | exact h | apply h | rfl | (simp_all [-Bool.forall_bool];done) | (simp_all [-Bool.forall_bool];first | exact h | apply h) | (simp_all [-Bool.forall_bool,emp_eq,int_beq];done) | (simp_all [-Bool.forall_bool];(intros;simp_all;done)) | (simp_all [-Bool.forall_bool,rdset71,rdset3,rdset79,rdset56,rdset80,rdset69,rdset4,rdset52];done) | grind
theorem laws_toKnotS.rel (k : Nat) (l0 : List (S79)) (r) (h : PK.laws_toKnotS.f k l0 = some r) (m : Nat) (hm : k ≤ m) : laws_toKnotS.f m l0 = some r:=by
 have il0:=fun k' (_ : k' < k + 1)=>(laws_toKnotS.rel_l k');rw [PK.laws_toKnotS.f] at h;rw [laws_toKnotS.f]
 try simp only [w64_eq,wu8_eq,gt_iff_lt,ge_iff_le,int_beq,fdiv33,fdiv45,bt_eq,tmodN,rdOfB,rdOfL] at h
 try simp only [shlR]
 try simp only [w64_eq,wu8_eq,gt_iff_lt,ge_iff_le,int_beq,fdiv33,fdiv45,bt_eq,tmodN,rdOfB,rdOfL,rdT3_eq,seq,maxI,minI,emp_eq,rdn71,rdn3,rdn79,rdn56,rdn80,rdn69,rdn4,rdn52]
 refine (itE h (fun q h=>(itE h (fun q h=>((fun h=>?_) (il0 _ (by omega) _ _ _ _ h m (by omega)))) (fun q h=>(noE h)))) (fun q h=>(noE h)))
 all_goals clear il0
 all_goals (try cases h)
 all_goals (try simp only [*,if_true,if_false,↓reduceIte,Option.bind_some,List.length_cons,List.length_nil,List.length_append,Bool.not_true,Bool.not_false,Bool.true_eq_false,Bool.false_eq_true])
 all_goals (repeat first | rw [if_pos (by omega)] | rw [if_neg (by omega)])
 all_goals first | exact h | apply h | rfl | (simp_all [-Bool.forall_bool];done) | (simp_all [-Bool.forall_bool];first | exact h | apply h) | (simp_all [-Bool.forall_bool,emp_eq,int_beq];done) | (simp_all [-Bool.forall_bool];(intros;simp_all;done)) | (simp_all [-Bool.forall_bool,rdset71,rdset3,rdset79,rdset56,rdset80,rdset69,rdset4,rdset52];done) | grind
end Go.Proofs.YteideicglgpfiaaGreat.M2

namespace Go.Proofs.YteideicglgpfiaaGreat.M2
open Go Go.RowKit Go.Proofs.YteideicglgpfiaaGreatW.PrintWords Go.Proofs.YteideicglgpfiaaGreat.PK
set_option linter.unusedVariables false
set_option linter.unusedSimpArgs false
theorem laws_toArena.rel (k : Nat) (l0_0 : List (S79)) (r) (h : PK.laws_toArena.f k l0_0 = some r) (m : Nat) (hm : k ≤ m) : laws_toArena.f m l0_0 = some r:=by
 rw [PK.laws_toArena.f] at h;rw [laws_toArena.f]
 try simp only [w64_eq,wu8_eq,gt_iff_lt,ge_iff_le,int_beq,fdiv33,fdiv45,bt_eq,tmodN,rdOfB,rdOfL] at h
 try simp only [shlR]
 try simp only [w64_eq,wu8_eq,gt_iff_lt,ge_iff_le,int_beq,fdiv33,fdiv45,bt_eq,tmodN,rdOfB,rdOfL,rdT3_eq,seq,maxI,minI,emp_eq,rdn71,rdn3,rdn79,rdn56,rdn80,rdn69,rdn4,rdn52]
 refine (bnE h (fun _ g h=>(fun g=>?_) (laws_toKnotS.rel _ _ _ g m (by omega))))
 all_goals (try cases h)
 all_goals (try simp only [*,if_true,if_false,↓reduceIte,Option.bind_some,List.length_cons,List.length_nil,List.length_append,Bool.not_true,Bool.not_false,Bool.true_eq_false,Bool.false_eq_true])
 all_goals (repeat first | rw [if_pos (by omega)] | rw [if_neg (by omega)])
 all_goals first | exact h | apply h | rfl | (simp_all [-Bool.forall_bool];done) | (simp_all [-Bool.forall_bool];first | exact h | apply h) | (simp_all [-Bool.forall_bool,emp_eq,int_beq];done) | (simp_all [-Bool.forall_bool];(intros;simp_all;done)) | (simp_all [-Bool.forall_bool,rdset71,rdset3,rdset79,rdset56,rdset80,rdset69,rdset4,rdset52];done) | grind
theorem laws_toStore.rel (k : Nat) (l0_0 : List (S71)) (l0_1 : List (S79)) (a0_2 : Int) (r) (h : PK.laws_toStore.f k l0_0 l0_1 a0_2 = some r) (m : Nat) (hm : k ≤ m) : laws_toStore.f m l0_0 l0_1 a0_2 = some (r.1,r.2.1,r.2.2):=by
 rw [PK.laws_toStore.f] at h;rw [laws_toStore.f]
 try simp only [w64_eq,wu8_eq,gt_iff_lt,ge_iff_le,int_beq,fdiv33,fdiv45,bt_eq,tmodN,rdOfB,rdOfL] at h
 try simp only [shlR]
 try simp only [w64_eq,wu8_eq,gt_iff_lt,ge_iff_le,int_beq,fdiv33,fdiv45,bt_eq,tmodN,rdOfB,rdOfL,rdT3_eq,seq,maxI,minI,emp_eq,rdn71,rdn3,rdn79,rdn56,rdn80,rdn69,rdn4,rdn52]
 refine (bnE h (fun _ g h=>(fun g=>(bnE h (fun _ g h=>(fun g=>?_) (laws_toArena.rel _ _ _ g m (by omega))))) (laws_toVolS.rel _ _ _ g m (by omega))))
 all_goals (try cases h)
 all_goals (try simp only [*,if_true,if_false,↓reduceIte,Option.bind_some,List.length_cons,List.length_nil,List.length_append,Bool.not_true,Bool.not_false,Bool.true_eq_false,Bool.false_eq_true])
 all_goals (repeat first | rw [if_pos (by omega)] | rw [if_neg (by omega)])
 all_goals first | exact h | apply h | rfl | (simp_all [-Bool.forall_bool];done) | (simp_all [-Bool.forall_bool];first | exact h | apply h) | (simp_all [-Bool.forall_bool,emp_eq,int_beq];done) | (simp_all [-Bool.forall_bool];(intros;simp_all;done)) | (simp_all [-Bool.forall_bool,rdset71,rdset3,rdset79,rdset56,rdset80,rdset69,rdset4,rdset52];done) | grind
theorem laws_eqVol.rel (k : Nat) (a0_0 : Int) (a0_1 : Int) (a1_0 : Int) (a1_1 : Int) (r) (h : PK.laws_eqVol.f a0_0 a0_1 a1_0 a1_1 = some r) (m : Nat) (hm : k ≤ m) : laws_eqVol.f m a0_0 a0_1 a1_0 a1_1 = some r:=by
 rw [PK.laws_eqVol.f] at h;rw [laws_eqVol.f]
 try simp only [w64_eq,wu8_eq,gt_iff_lt,ge_iff_le,int_beq,fdiv33,fdiv45,bt_eq,tmodN,rdOfB,rdOfL] at h
 try simp only [shlR]
 try simp only [w64_eq,wu8_eq,gt_iff_lt,ge_iff_le,int_beq,fdiv33,fdiv45,bt_eq,tmodN,rdOfB,rdOfL,rdT3_eq,seq,maxI,minI,emp_eq,rdn71,rdn3,rdn79,rdn56,rdn80,rdn69,rdn4,rdn52]
 refine (itE h (fun q h=>(itE h (fun q h=>?_) (fun q h=>?_))) (fun q h=>?_))
 all_goals (try cases h)
 all_goals (try simp only [*,if_true,if_false,↓reduceIte,Option.bind_some,List.length_cons,List.length_nil,List.length_append,Bool.not_true,Bool.not_false,Bool.true_eq_false,Bool.false_eq_true])
 all_goals (repeat first | rw [if_pos (by omega)] | rw [if_neg (by omega)])
 all_goals first | exact h | apply h | rfl | (simp_all [-Bool.forall_bool];done) | (simp_all [-Bool.forall_bool];first | exact h | apply h) | (simp_all [-Bool.forall_bool,emp_eq,int_beq];done) | (simp_all [-Bool.forall_bool];(intros;simp_all;done)) | (simp_all [-Bool.forall_bool,rdset71,rdset3,rdset79,rdset56,rdset80,rdset69,rdset4,rdset52];done) | grind
theorem laws_eqVolS.rel_l (k : Nat) : (∀ x0 x1 x5 r,PK.laws_eqVolS.l0 k x0 x1 x5 = some r → ∀ m,k ≤ m → laws_eqVolS.c4 m x0 x1 x5 = some r):=by
 induction k using Nat.strongRecOn with
 | _ k ih =>
 have il0:=fun k' hk'=>(ih k' hk');clear ih;intro x0 x1 x5 r h m hm;cases k with
 | zero=>simp only [PK.laws_eqVolS.l0] at h;cases h
 | succ k =>
  obtain ⟨m,rfl⟩ : ∃ m',m = m' + 1:=⟨m - 1,by omega⟩;rw [PK.laws_eqVolS.l0] at h;rw [laws_eqVolS.c4]
  try simp only [w64_eq,wu8_eq,gt_iff_lt,ge_iff_le,int_beq,fdiv33,fdiv45,bt_eq,tmodN,rdOfB,rdOfL] at h
  try simp only [shlR]
  try simp only [w64_eq,wu8_eq,gt_iff_lt,ge_iff_le,int_beq,fdiv33,fdiv45,bt_eq,tmodN,rdOfB,rdOfL,rdT3_eq,seq,maxI,minI,emp_eq,rdn71,rdn3,rdn79,rdn56,rdn80,rdn69,rdn4,rdn52]
  refine (itE h (fun q h=>(itE h (fun q h=>(itE h (fun q h=>(bnE h (fun _ g h=>(fun g=>(itE h (fun q h=>((fun h=>?_) (il0 _ (by omega) _ _ _ _ h m (by omega)))) (fun q h=>?_))) (laws_eqVol.rel m _ _ _ _ _ g m (by omega))))) (fun q h=>(noE h)))) (fun q h=>(noE h)))) (fun q h=>?_))
  all_goals clear il0
  all_goals (try cases h)
  all_goals (try simp only [*,if_true,if_false,↓reduceIte,Option.bind_some,List.length_cons,List.length_nil,List.length_append,Bool.not_true,Bool.not_false,Bool.true_eq_false,Bool.false_eq_true])
  all_goals (repeat first | rw [if_pos (by omega)] | rw [if_neg (by omega)])
  all_goals first | exact h | apply h | rfl | (simp_all [-Bool.forall_bool];done) | (simp_all [-Bool.forall_bool];first | exact h | apply h) | (simp_all [-Bool.forall_bool,emp_eq,int_beq];done) | (simp_all [-Bool.forall_bool];(intros;simp_all;done)) | (simp_all [-Bool.forall_bool,rdset71,rdset3,rdset79,rdset56,rdset80,rdset69,rdset4,rdset52];done) | grind
theorem laws_eqVolS.rel (k : Nat) (l0 : List (S69)) (l1 : List (S69)) (r) (h : PK.laws_eqVolS.f k l0 l1 = some r) (m : Nat) (hm : k ≤ m) : laws_eqVolS.f m l0 l1 = some r:=by
 have il0:=fun k' (_ : k' < k + 1)=>(laws_eqVolS.rel_l k');rw [PK.laws_eqVolS.f] at h;rw [laws_eqVolS.f]
 try simp only [w64_eq,wu8_eq,gt_iff_lt,ge_iff_le,int_beq,fdiv33,fdiv45,bt_eq,tmodN,rdOfB,rdOfL] at h
 try simp only [shlR]
 try simp only [w64_eq,wu8_eq,gt_iff_lt,ge_iff_le,int_beq,fdiv33,fdiv45,bt_eq,tmodN,rdOfB,rdOfL,rdT3_eq,seq,maxI,minI,emp_eq,rdn71,rdn3,rdn79,rdn56,rdn80,rdn69,rdn4,rdn52]
 refine (itE h (fun q h=>((fun h=>?_) (il0 _ (by omega) _ _ _ _ h m (by omega)))) (fun q h=>?_))
 all_goals clear il0
 all_goals (try cases h)
 all_goals (try simp only [*,if_true,if_false,↓reduceIte,Option.bind_some,List.length_cons,List.length_nil,List.length_append,Bool.not_true,Bool.not_false,Bool.true_eq_false,Bool.false_eq_true])
 all_goals (repeat first | rw [if_pos (by omega)] | rw [if_neg (by omega)])
 all_goals first | exact h | apply h | rfl | (simp_all [-Bool.forall_bool];done) | (simp_all [-Bool.forall_bool];first | exact h | apply h) | (simp_all [-Bool.forall_bool,emp_eq,int_beq];done) | (simp_all [-Bool.forall_bool];(intros;simp_all;done)) | (simp_all [-Bool.forall_bool,rdset71,rdset3,rdset79,rdset56,rdset80,rdset69,rdset4,rdset52];done) | grind
end Go.Proofs.YteideicglgpfiaaGreat.M2
