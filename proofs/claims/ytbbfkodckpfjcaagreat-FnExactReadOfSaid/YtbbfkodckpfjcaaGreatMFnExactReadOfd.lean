/- FnExactReadOf: functions of the translation as Lean functions with what their calls come to, plain lemmas on them, and, at the end, the row. Parts of one proof, merged by a program of this session; each part's own sentence stands at its head. -/
import Derived.IntWalk
import Derived.KernelRfl
import Derived.Test.YtbbfkodckpfjcaaGreatMFnExactReadOfc
namespace Go.Proofs.YtbbfkodckpfjcaaGreat.M2
open Go Go.Proofs.YtbbfkodckpfjcaaGreat.PK
set_option linter.unusedVariables false
set_option linter.unusedSimpArgs false
set_option maxHeartbeats 4000000
set_option maxRecDepth 100000
noncomputable section
def laws_toKnot.sp : Nat → Option (Spec Ty):=fun r=>none
def laws_toKnot.en : Option (Spec Ty):=some ⟨[(2,.box [.keep,.own .t3])],[]⟩
def laws_toKnot.ctx (k : Nat) : Ctx Ty D:=(cons 88 (laws_toIntS.x k) (fun _ _ _ _=>none))
def laws_toKnot.f (k : Nat) (a0_0 : Bool) (a0_1 : List Int) : Option (Bool × (List Int)):=((laws_toIntS.f k a0_1).bind fun t1=>(some (a0_0,t1)))
def laws_toKnot.e (r : Bool × (List Int)) : Res Ty D:=(.ag [.sc (.bool r.1),.sl 0 none],[],[.rowb .t3 r.2 0])
abbrev laws_toKnot.g (rec : List Item → St Ty D → R) (k : Nat):=go1 Tryz.f76 (laws_toKnot.ctx k) laws_toKnot.sp 0 laws_toKnot.en rec
theorem laws_toKnot.te (rec : List Item → St Ty D → R) (k : Nat) (a0_0 : Bool) (a0_1 : List Int) : laws_toKnot.g rec k [.code (body Tryz.f76)] (startSt [.ag [.sc (.bool a0_0),.row 0 .t3 a0_1]] []) =
 (laws_toIntS.f k a0_1).bind fun t1=>some (laws_toKnot.e (a0_0,t1)):=by kernel_rfl
theorem laws_toKnot.oke (k : Nat) (a0_0 : Bool) (a0_1 : List Int) : goF Tryz.f76 laws_toKnot.ctx laws_toKnot.sp 0 laws_toKnot.en (k + 1) [.code (body Tryz.f76)] (startSt [.ag [.sc (.bool a0_0),.row 0 .t3 a0_1]] []) = (laws_toKnot.f k a0_0 a0_1).map laws_toKnot.e:=by
 rw [laws_toKnot.f];exact (laws_toKnot.te _ k a0_0 a0_1).trans (bn (fun t1=>rfl))
theorem laws_toKnot.con (k : Nat) (a0_0 : Bool) (a0_1 : List Int) (r) (h : laws_toKnot.f k a0_0 a0_1 = some r) : Contract Tryz.prog kit 76 [.ag [.sc (.bool a0_0),.row 0 .t3 a0_1]] [] (laws_toKnot.e r).1 (laws_toKnot.e r).2.1 (laws_toKnot.e r).2.2 :=
 con_okG kitOk mix (fun k=>(CtxOk.cons (laws_toIntS.xok k) CtxOk.nil)) (laws_toKnot.oke k a0_0 a0_1) h (by kernel_rfl) (by kernel_rfl) (by kernel_rfl) rfl (by kernel_rfl) rfl rfl
def laws_toKnot.x (k : Nat) : X:=fun ins bs κ=>match ins,bs with
 | [.ag [.sc (.bool a0_0),.row 0 .t3 a0_1]],[]=>(laws_toKnot.f k a0_0 a0_1).bind fun r=>κ (laws_toKnot.e r).1 (laws_toKnot.e r).2.1 (laws_toKnot.e r).2.2
 | _,_=>none
theorem laws_toKnot.xok (k : Nat) : XOk 76 (laws_toKnot.x k):=by
 intro ins bs κ res h;unfold laws_toKnot.x at h
 split at h
 ·obtain ⟨r,hr,h⟩:=Option.bind_eq_some_iff.1 h;exact ⟨_,_,_,laws_toKnot.con k _ _ r hr,h⟩
 cases h
def laws_toKnotS.sp : Nat → Option (Spec Ty):=fun r=>bif Nat.beq r 3 then some ⟨[(0,.keep),(3,.own .t128),(4,.keep)],[]⟩ else none
def laws_toKnotS.en : Option (Spec Ty):=some ⟨[(2,.own .t128)],[]⟩
def laws_toKnotS.s3 (x0 : List S119) (x4 : Int) (h64 : List S128) : St Ty D:=⟨(Env.put (Env.put (Env.put E (some 0) (.row 0 .t119 x0)) (some 3) (.sl 64 none)) (some 4) (.sc (.int .i64 x4))),Heap.put H0 [(64,some (.rowb .t128 h64 0))],1000⟩
def laws_toKnotS.ctx (k : Nat) : Ctx Ty D:=(cons 76 (laws_toKnot.x k) (fun _ _ _ _=>none))
def laws_toKnotS.c3 : Nat → (List S119) → Int → (List S128) → Option ((List S128))
 | 0,_,_,_=>none
 | k + 1,x0,x4,h64=>(if x4 < (x0.length : Int) then (if 0 ≤ x4 then (if x4 < (x0.length : Int) then ((laws_toKnot.f k ((rd_T119 x0 x4).f0) ((rd_T119 x0 x4).f1)).bind fun t1=>(if 0 ≤ x4 then (if x4 < (h64.length : Int) then (laws_toKnotS.c3 k x0 (w64 (x4 + 1)) (h64.set x4.toNat (S128.mk t1.1 t1.2))) else none) else none)) else none) else none) else (some (h64)))
def laws_toKnotS.f (k : Nat) (a0 : List S119) : Option ((List S128)):=(if 0 ≤ (a0.length : Int) then (if (a0.length : Int).toNat ≤ 8796093022208 then (laws_toKnotS.c3 k a0 0 (List.replicate ((a0.length : Int).toNat) z128)) else none) else none)
def laws_toKnotS.e (r : (List S128)) : Res Ty D:=(.sl 0 none,[],[.rowb .t128 r 0])
abbrev laws_toKnotS.g (rec : List Item → St Ty D → R) (k : Nat):=go1 Tryz.f48 (laws_toKnotS.ctx k) laws_toKnotS.sp 0 laws_toKnotS.en rec
theorem laws_toKnotS.t3 (rec : List Item → St Ty D → R) (k : Nat) (x0 : List S119) (x4 : Int) (h64 : List S128) : laws_toKnotS.g rec k (td Tryz.f48 3) (laws_toKnotS.s3 x0 x4 h64) =
 bif decide (x4 < (x0.length : Int)) then bif decide (0 ≤ x4) then bif decide (x4 < (x0.length : Int)) then (laws_toKnot.f k ((rd_T119 x0 x4).f0) ((rd_T119 x0 x4).f1)).bind fun t1=>bif decide (0 ≤ x4) then bif decide (x4 < (h64.length : Int)) then rec (td Tryz.f48 3) (laws_toKnotS.s3 x0 (w64 (x4 + 1)) (h64.set x4.toNat (S128.mk t1.1 t1.2))) else none else none else none else none else some (laws_toKnotS.e (h64)):=by kernel_rfl
theorem laws_toKnotS.te (rec : List Item → St Ty D → R) (k : Nat) (a0 : List S119) : laws_toKnotS.g rec k [.code (body Tryz.f48)] (startSt [.row 0 .t119 a0] []) =
 bif decide ((a0.length : Int) = (a0.length : Int)) then bif decide (0 ≤ (a0.length : Int)) then bif decide ((a0.length : Int).toNat ≤ 8796093022208) then rec (td Tryz.f48 3) (laws_toKnotS.s3 a0 0 (List.replicate ((a0.length : Int).toNat) z128)) else none else none else none:=by kernel_rfl
theorem laws_toKnotS.ok : ∀ k : Nat,(∀ (x0 : List S119) (x4 : Int) (h64 : List S128),goF Tryz.f48 laws_toKnotS.ctx laws_toKnotS.sp 0 laws_toKnotS.en k (td Tryz.f48 3) (laws_toKnotS.s3 x0 x4 h64) = (laws_toKnotS.c3 k x0 x4 h64).map laws_toKnotS.e)
 | 0=>fun _ _ _=>rfl
 | k + 1=>by
  have ih:=laws_toKnotS.ok k;have i3:=ih;intro x0 x4 h64;rw [laws_toKnotS.c3];exact (laws_toKnotS.t3 _ k x0 x4 h64).trans (cd (cd (cd (bn (fun t1=>(cd (cd (i3 _ _ _) rfl) rfl))) rfl) rfl) rfl)
theorem laws_toKnotS.oke (k : Nat) (a0 : List S119) : goF Tryz.f48 laws_toKnotS.ctx laws_toKnotS.sp 0 laws_toKnotS.en (k + 1) [.code (body Tryz.f48)] (startSt [.row 0 .t119 a0] []) = (laws_toKnotS.f k a0).map laws_toKnotS.e:=by
 have i3:=laws_toKnotS.ok k;rw [laws_toKnotS.f];exact (laws_toKnotS.te _ k a0).trans (sf (cd (cd (i3 _ _ _) rfl) rfl))
theorem laws_toKnotS.con (k : Nat) (a0 : List S119) (r) (h : laws_toKnotS.f k a0 = some r) : Contract Tryz.prog kit 48 [.row 0 .t119 a0] [] (laws_toKnotS.e r).1 (laws_toKnotS.e r).2.1 (laws_toKnotS.e r).2.2 :=
 con_okG kitOk mix (fun k=>(CtxOk.cons (laws_toKnot.xok k) CtxOk.nil)) (laws_toKnotS.oke k a0) h (by kernel_rfl) (by kernel_rfl) (by kernel_rfl) rfl (by kernel_rfl) rfl rfl
def laws_toKnotS.x (k : Nat) : X:=fun ins bs κ=>match ins,bs with
 | [.row 0 .t119 a0],[]=>(laws_toKnotS.f k a0).bind fun r=>κ (laws_toKnotS.e r).1 (laws_toKnotS.e r).2.1 (laws_toKnotS.e r).2.2
 | _,_=>none
theorem laws_toKnotS.xok (k : Nat) : XOk 48 (laws_toKnotS.x k):=by
 intro ins bs κ res h;unfold laws_toKnotS.x at h
 split at h
 ·obtain ⟨r,hr,h⟩:=Option.bind_eq_some_iff.1 h;exact ⟨_,_,_,laws_toKnotS.con k _ r hr,h⟩
 cases h
def laws_toArena.sp : Nat → Option (Spec Ty):=fun r=>none
def laws_toArena.en : Option (Spec Ty):=some ⟨[(2,.box [.own .t128])],[]⟩
def laws_toArena.ctx (k : Nat) : Ctx Ty D:=(cons 48 (laws_toKnotS.x k) (fun _ _ _ _=>none))
def laws_toArena.f (k : Nat) (a0_0 : List S119) : Option ((List S128)):=((laws_toKnotS.f k a0_0).bind fun t1=>(some (t1)))
def laws_toArena.e (r : (List S128)) : Res Ty D:=(.ag [.sl 0 none],[],[.rowb .t128 r 0])
abbrev laws_toArena.g (rec : List Item → St Ty D → R) (k : Nat):=go1 Tryz.f30 (laws_toArena.ctx k) laws_toArena.sp 0 laws_toArena.en rec
theorem laws_toArena.te (rec : List Item → St Ty D → R) (k : Nat) (a0_0 : List S119) : laws_toArena.g rec k [.code (body Tryz.f30)] (startSt [.ag [.row 0 .t119 a0_0]] []) =
 (laws_toKnotS.f k a0_0).bind fun t1=>some (laws_toArena.e (t1)):=by kernel_rfl
theorem laws_toArena.oke (k : Nat) (a0_0 : List S119) : goF Tryz.f30 laws_toArena.ctx laws_toArena.sp 0 laws_toArena.en (k + 1) [.code (body Tryz.f30)] (startSt [.ag [.row 0 .t119 a0_0]] []) = (laws_toArena.f k a0_0).map laws_toArena.e:=by
 rw [laws_toArena.f];exact (laws_toArena.te _ k a0_0).trans (bn (fun t1=>rfl))
theorem laws_toArena.con (k : Nat) (a0_0 : List S119) (r) (h : laws_toArena.f k a0_0 = some r) : Contract Tryz.prog kit 30 [.ag [.row 0 .t119 a0_0]] [] (laws_toArena.e r).1 (laws_toArena.e r).2.1 (laws_toArena.e r).2.2 :=
 con_okG kitOk mix (fun k=>(CtxOk.cons (laws_toKnotS.xok k) CtxOk.nil)) (laws_toArena.oke k a0_0) h (by kernel_rfl) (by kernel_rfl) (by kernel_rfl) rfl (by kernel_rfl) rfl rfl
def laws_toArena.x (k : Nat) : X:=fun ins bs κ=>match ins,bs with
 | [.ag [.row 0 .t119 a0_0]],[]=>(laws_toArena.f k a0_0).bind fun r=>κ (laws_toArena.e r).1 (laws_toArena.e r).2.1 (laws_toArena.e r).2.2
 | _,_=>none
theorem laws_toArena.xok (k : Nat) : XOk 30 (laws_toArena.x k):=by
 intro ins bs κ res h;unfold laws_toArena.x at h
 split at h
 ·obtain ⟨r,hr,h⟩:=Option.bind_eq_some_iff.1 h;exact ⟨_,_,_,laws_toArena.con k _ r hr,h⟩
 cases h
def laws_toStore.sp : Nat → Option (Spec Ty):=fun r=>none
def laws_toStore.en : Option (Spec Ty):=some ⟨[(2,.box [.own .t80,.own .t128,.keep])],[]⟩
def laws_toStore.ctx (k : Nat) : Ctx Ty D:=(cons 29 (laws_toVolS.x k) (cons 30 (laws_toArena.x k) (fun _ _ _ _=>none)))
def laws_toStore.f (k : Nat) (a0_0 : List S104) (a0_1 : List S119) (a0_2 : Int) : Option ((List S80) × (List S128) × Int):=((laws_toVolS.f k a0_0).bind fun t1=>((laws_toArena.f k a0_1).bind fun t2=>(some (t1,t2,a0_2))))
def laws_toStore.e (r : (List S80) × (List S128) × Int) : Res Ty D:=(.ag [.sl 0 none,.sl 1 none,.sc (.int .i64 r.2.2)],[],[.rowb .t80 r.1 0,.rowb .t128 r.2.1 0])
abbrev laws_toStore.g (rec : List Item → St Ty D → R) (k : Nat):=go1 Tryz.f14 (laws_toStore.ctx k) laws_toStore.sp 0 laws_toStore.en rec
theorem laws_toStore.te (rec : List Item → St Ty D → R) (k : Nat) (a0_0 : List S104) (a0_1 : List S119) (a0_2 : Int) : laws_toStore.g rec k [.code (body Tryz.f14)] (startSt [.ag [.row 0 .t104 a0_0,.row 0 .t119 a0_1,.sc (.int .i64 a0_2)]] []) =
 (laws_toVolS.f k a0_0).bind fun t1=>(laws_toArena.f k a0_1).bind fun t2=>some (laws_toStore.e (t1,t2,a0_2)):=by kernel_rfl
theorem laws_toStore.oke (k : Nat) (a0_0 : List S104) (a0_1 : List S119) (a0_2 : Int) : goF Tryz.f14 laws_toStore.ctx laws_toStore.sp 0 laws_toStore.en (k + 1) [.code (body Tryz.f14)] (startSt [.ag [.row 0 .t104 a0_0,.row 0 .t119 a0_1,.sc (.int .i64 a0_2)]] []) = (laws_toStore.f k a0_0 a0_1 a0_2).map laws_toStore.e:=by
 rw [laws_toStore.f];exact (laws_toStore.te _ k a0_0 a0_1 a0_2).trans (bn (fun t1=>(bn (fun t2=>rfl))))
theorem laws_toStore.con (k : Nat) (a0_0 : List S104) (a0_1 : List S119) (a0_2 : Int) (r) (h : laws_toStore.f k a0_0 a0_1 a0_2 = some r) : Contract Tryz.prog kit 14 [.ag [.row 0 .t104 a0_0,.row 0 .t119 a0_1,.sc (.int .i64 a0_2)]] [] (laws_toStore.e r).1 (laws_toStore.e r).2.1 (laws_toStore.e r).2.2 :=
 con_okG kitOk mix (fun k=>(CtxOk.cons (laws_toVolS.xok k) (CtxOk.cons (laws_toArena.xok k) CtxOk.nil))) (laws_toStore.oke k a0_0 a0_1 a0_2) h (by kernel_rfl) (by kernel_rfl) (by kernel_rfl) rfl (by kernel_rfl) rfl rfl
def laws_toStore.x (k : Nat) : X:=fun ins bs κ=>match ins,bs with
 | [.ag [.row 0 .t104 a0_0,.row 0 .t119 a0_1,.sc (.int .i64 a0_2)]],[]=>(laws_toStore.f k a0_0 a0_1 a0_2).bind fun r=>κ (laws_toStore.e r).1 (laws_toStore.e r).2.1 (laws_toStore.e r).2.2
 | _,_=>none
theorem laws_toStore.xok (k : Nat) : XOk 14 (laws_toStore.x k):=by
 intro ins bs κ res h;unfold laws_toStore.x at h
 split at h
 ·obtain ⟨r,hr,h⟩:=Option.bind_eq_some_iff.1 h;exact ⟨_,_,_,laws_toStore.con k _ _ _ r hr,h⟩
 cases h
def laws_toDevice.sp : Nat → Option (Spec Ty):=fun r=>none
def laws_toDevice.en : Option (Spec Ty):=some ⟨[(2,.box [.own .t68,.own .t80,.own .t128,.keep,.keep,.keep,.keep])],[]⟩
def laws_toDevice.ctx (k : Nat) : Ctx Ty D:=(cons 13 (laws_toFlash.x k) (cons 14 (laws_toStore.x k) (fun _ _ _ _=>none)))
def laws_toDevice.f (k : Nat) (a0_0 : List S91) (a0_1 : List S104) (a0_2 : List S119) (a0_3 : Int) (a0_4 : Int) (a0_5 : Int) (a0_6 : Int) : Option ((List S68) × (List S80) × (List S128) × Int × Int × Int × Int):=((laws_toFlash.f k a0_0).bind fun t1=>((laws_toStore.f k a0_1 a0_2 a0_3).bind fun t2=>(some (t1,t2.1,t2.2.1,t2.2.2,a0_4,a0_5,a0_6))))
def laws_toDevice.e (r : (List S68) × (List S80) × (List S128) × Int × Int × Int × Int) : Res Ty D:=(.ag [.sl 0 none,.sl 1 none,.sl 2 none,.sc (.int .i64 r.2.2.2.1),.sc (.int .i64 r.2.2.2.2.1),.sc (.int .i64 r.2.2.2.2.2.1),.sc (.int .i64 r.2.2.2.2.2.2)],[],[.rowb .t68 r.1 0,.rowb .t80 r.2.1 0,.rowb .t128 r.2.2.1 0])
abbrev laws_toDevice.g (rec : List Item → St Ty D → R) (k : Nat):=go1 Tryz.f6 (laws_toDevice.ctx k) laws_toDevice.sp 0 laws_toDevice.en rec
theorem laws_toDevice.te (rec : List Item → St Ty D → R) (k : Nat) (a0_0 : List S91) (a0_1 : List S104) (a0_2 : List S119) (a0_3 : Int) (a0_4 : Int) (a0_5 : Int) (a0_6 : Int) : laws_toDevice.g rec k [.code (body Tryz.f6)] (startSt [.ag [.row 0 .t91 a0_0,.row 0 .t104 a0_1,.row 0 .t119 a0_2,.sc (.int .i64 a0_3),.sc (.int .i64 a0_4),.sc (.int .i64 a0_5),.sc (.int .i64 a0_6)]] []) =
 (laws_toFlash.f k a0_0).bind fun t1=>(laws_toStore.f k a0_1 a0_2 a0_3).bind fun t2=>some (laws_toDevice.e (t1,t2.1,t2.2.1,t2.2.2,a0_4,a0_5,a0_6)):=by kernel_rfl
theorem laws_toDevice.oke (k : Nat) (a0_0 : List S91) (a0_1 : List S104) (a0_2 : List S119) (a0_3 : Int) (a0_4 : Int) (a0_5 : Int) (a0_6 : Int) : goF Tryz.f6 laws_toDevice.ctx laws_toDevice.sp 0 laws_toDevice.en (k + 1) [.code (body Tryz.f6)] (startSt [.ag [.row 0 .t91 a0_0,.row 0 .t104 a0_1,.row 0 .t119 a0_2,.sc (.int .i64 a0_3),.sc (.int .i64 a0_4),.sc (.int .i64 a0_5),.sc (.int .i64 a0_6)]] []) = (laws_toDevice.f k a0_0 a0_1 a0_2 a0_3 a0_4 a0_5 a0_6).map laws_toDevice.e:=by
 rw [laws_toDevice.f];exact (laws_toDevice.te _ k a0_0 a0_1 a0_2 a0_3 a0_4 a0_5 a0_6).trans (bn (fun t1=>(bn (fun t2=>rfl))))
theorem laws_toDevice.con (k : Nat) (a0_0 : List S91) (a0_1 : List S104) (a0_2 : List S119) (a0_3 : Int) (a0_4 : Int) (a0_5 : Int) (a0_6 : Int) (r) (h : laws_toDevice.f k a0_0 a0_1 a0_2 a0_3 a0_4 a0_5 a0_6 = some r) : Contract Tryz.prog kit 6 [.ag [.row 0 .t91 a0_0,.row 0 .t104 a0_1,.row 0 .t119 a0_2,.sc (.int .i64 a0_3),.sc (.int .i64 a0_4),.sc (.int .i64 a0_5),.sc (.int .i64 a0_6)]] [] (laws_toDevice.e r).1 (laws_toDevice.e r).2.1 (laws_toDevice.e r).2.2 :=
 con_okG kitOk mix (fun k=>(CtxOk.cons (laws_toFlash.xok k) (CtxOk.cons (laws_toStore.xok k) CtxOk.nil))) (laws_toDevice.oke k a0_0 a0_1 a0_2 a0_3 a0_4 a0_5 a0_6) h (by kernel_rfl) (by kernel_rfl) (by kernel_rfl) rfl (by kernel_rfl) rfl rfl
def laws_toDevice.x (k : Nat) : X:=fun ins bs κ=>match ins,bs with
 | [.ag [.row 0 .t91 a0_0,.row 0 .t104 a0_1,.row 0 .t119 a0_2,.sc (.int .i64 a0_3),.sc (.int .i64 a0_4),.sc (.int .i64 a0_5),.sc (.int .i64 a0_6)]],[]=>(laws_toDevice.f k a0_0 a0_1 a0_2 a0_3 a0_4 a0_5 a0_6).bind fun r=>κ (laws_toDevice.e r).1 (laws_toDevice.e r).2.1 (laws_toDevice.e r).2.2
 | _,_=>none
theorem laws_toDevice.xok (k : Nat) : XOk 6 (laws_toDevice.x k):=by
 intro ins bs κ res h;unfold laws_toDevice.x at h
 split at h
 ·obtain ⟨r,hr,h⟩:=Option.bind_eq_some_iff.1 h;exact ⟨_,_,_,laws_toDevice.con k _ _ _ _ _ _ _ r hr,h⟩
 cases h
def impl_volAt.sp : Nat → Option (Spec Ty):=fun r=>bif Nat.beq r 2 then some ⟨[(1,.keep),(8,.keep),(9,.keep),(10,.keep)],[]⟩ else none
def impl_volAt.en : Option (Spec Ty):=none
def impl_volAt.s2 (x1 : Int) (x8 : List S80) (x9 : Int) (x10 : Int) : St Ty D:=⟨(Env.put (Env.put (Env.put (Env.put E (some 1) (.sc (.int .i64 x1))) (some 8) (.row 0 .t80 x8)) (some 9) (.sc (.int .i64 x9))) (some 10) (.sc (.int .i64 x10))),H0,1000⟩
def impl_volAt.ctx (k : Nat) : Ctx Ty D:=(fun _ _ _ _=>none)
def impl_volAt.c2 : Nat → Int → (List S80) → Int → Int → Option (Int)
 | 0,_,_,_,_=>none
 | k + 1,x1,x8,x9,x10=>(if x10 < x9 then (if 0 ≤ x10 then (if x10 < (x8.length : Int) then (if ((rd_T80 x8 x10).f0) = x1 then (some (x10)) else (impl_volAt.c2 k x1 x8 x9 (w64 (x10 + 1)))) else none) else none) else (some ((-1))))
def impl_volAt.f (k : Nat) (a0_0 : List S80) (a0_1 : List S128) (a0_2 : Int) (a1 : Int) : Option (Int):=(impl_volAt.c2 k a1 a0_0 (a0_0.length : Int) 0)
def impl_volAt.e (r : Int) : Res Ty D:=(.sc (.int .i64 r),[],[])
abbrev impl_volAt.g (rec : List Item → St Ty D → R) (k : Nat):=go1 Tryz.f15 (impl_volAt.ctx k) impl_volAt.sp 0 impl_volAt.en rec
theorem impl_volAt.t2 (rec : List Item → St Ty D → R) (k : Nat) (x1 : Int) (x8 : List S80) (x9 : Int) (x10 : Int) : impl_volAt.g rec k (td Tryz.f15 2) (impl_volAt.s2 x1 x8 x9 x10) =
 bif decide (x10 < x9) then bif decide (0 ≤ x10) then bif decide (x10 < (x8.length : Int)) then bif decide (((rd_T80 x8 x10).f0) = x1) then some (impl_volAt.e (x10)) else rec (td Tryz.f15 2) (impl_volAt.s2 x1 x8 x9 (w64 (x10 + 1))) else none else none else some (impl_volAt.e ((-1))):=by kernel_rfl
theorem impl_volAt.te (rec : List Item → St Ty D → R) (k : Nat) (a0_0 : List S80) (a0_1 : List S128) (a0_2 : Int) (a1 : Int) : impl_volAt.g rec k [.code (body Tryz.f15)] (startSt [.ag [.row 0 .t80 a0_0,.row 0 .t128 a0_1,.sc (.int .i64 a0_2)],.sc (.int .i64 a1)] []) =
 rec (td Tryz.f15 2) (impl_volAt.s2 a1 a0_0 (a0_0.length : Int) 0):=by kernel_rfl
theorem impl_volAt.ok : ∀ k : Nat,(∀ (x1 : Int) (x8 : List S80) (x9 : Int) (x10 : Int),goF Tryz.f15 impl_volAt.ctx impl_volAt.sp 0 impl_volAt.en k (td Tryz.f15 2) (impl_volAt.s2 x1 x8 x9 x10) = (impl_volAt.c2 k x1 x8 x9 x10).map impl_volAt.e)
 | 0=>fun _ _ _ _=>rfl
 | k + 1=>by
  have ih:=impl_volAt.ok k;have i2:=ih;intro x1 x8 x9 x10;rw [impl_volAt.c2];exact (impl_volAt.t2 _ k x1 x8 x9 x10).trans (cd (cd (cd (cd rfl (i2 _ _ _ _)) rfl) rfl) rfl)
theorem impl_volAt.oke (k : Nat) (a0_0 : List S80) (a0_1 : List S128) (a0_2 : Int) (a1 : Int) : goF Tryz.f15 impl_volAt.ctx impl_volAt.sp 0 impl_volAt.en (k + 1) [.code (body Tryz.f15)] (startSt [.ag [.row 0 .t80 a0_0,.row 0 .t128 a0_1,.sc (.int .i64 a0_2)],.sc (.int .i64 a1)] []) = (impl_volAt.f k a0_0 a0_1 a0_2 a1).map impl_volAt.e:=by
 have i2:=impl_volAt.ok k;rw [impl_volAt.f];exact (impl_volAt.te _ k a0_0 a0_1 a0_2 a1).trans (i2 _ _ _ _)
theorem impl_volAt.con (k : Nat) (a0_0 : List S80) (a0_1 : List S128) (a0_2 : Int) (a1 : Int) (r) (h : impl_volAt.f k a0_0 a0_1 a0_2 a1 = some r) : Contract Tryz.prog kit 15 [.ag [.row 0 .t80 a0_0,.row 0 .t128 a0_1,.sc (.int .i64 a0_2)],.sc (.int .i64 a1)] [] (impl_volAt.e r).1 (impl_volAt.e r).2.1 (impl_volAt.e r).2.2 :=
 con_okG kitOk mix (fun k=>CtxOk.nil) (impl_volAt.oke k a0_0 a0_1 a0_2 a1) h (by kernel_rfl) (by kernel_rfl) (by kernel_rfl) rfl (by kernel_rfl) rfl rfl
def impl_volAt.x (k : Nat) : X:=fun ins bs κ=>match ins,bs with
 | [.ag [.row 0 .t80 a0_0,.row 0 .t128 a0_1,.sc (.int .i64 a0_2)],.sc (.int .i64 a1)],[]=>(impl_volAt.f k a0_0 a0_1 a0_2 a1).bind fun r=>κ (impl_volAt.e r).1 (impl_volAt.e r).2.1 (impl_volAt.e r).2.2
 | _,_=>none
theorem impl_volAt.xok (k : Nat) : XOk 15 (impl_volAt.x k):=by
 intro ins bs κ res h;unfold impl_volAt.x at h
 split at h
 ·obtain ⟨r,hr,h⟩:=Option.bind_eq_some_iff.1 h;exact ⟨_,_,_,impl_volAt.con k _ _ _ _ r hr,h⟩
 cases h
def impl_in.sp : Nat → Option (Spec Ty):=fun r=>none
def impl_in.en : Option (Spec Ty):=none
def impl_in.ctx (k : Nat) : Ctx Ty D:=(fun _ _ _ _=>none)
def impl_in.f (k : Nat) (a0 : Int) (a1 : Int) (a2 : Int) : Option (Bool):=(if a0 ≥ a1 then (some ((decide (a0 ≤ a2)))) else (some (false)))
def impl_in.e (r : Bool) : Res Ty D:=(.sc (.bool r),[],[])
abbrev impl_in.g (rec : List Item → St Ty D → R) (k : Nat):=go1 Tryz.f49 (impl_in.ctx k) impl_in.sp 0 impl_in.en rec
theorem impl_in.te (rec : List Item → St Ty D → R) (k : Nat) (a0 : Int) (a1 : Int) (a2 : Int) : impl_in.g rec k [.code (body Tryz.f49)] (startSt [.sc (.int .i64 a0),.sc (.int .i64 a1),.sc (.int .i64 a2)] []) =
 bif decide (a0 ≥ a1) then some (impl_in.e ((decide (a0 ≤ a2)))) else some (impl_in.e (false)):=by kernel_rfl
theorem impl_in.oke (k : Nat) (a0 : Int) (a1 : Int) (a2 : Int) : goF Tryz.f49 impl_in.ctx impl_in.sp 0 impl_in.en (k + 1) [.code (body Tryz.f49)] (startSt [.sc (.int .i64 a0),.sc (.int .i64 a1),.sc (.int .i64 a2)] []) = (impl_in.f k a0 a1 a2).map impl_in.e:=by
 rw [impl_in.f];exact (impl_in.te _ k a0 a1 a2).trans (cd rfl rfl)
theorem impl_in.con (k : Nat) (a0 : Int) (a1 : Int) (a2 : Int) (r) (h : impl_in.f k a0 a1 a2 = some r) : Contract Tryz.prog kit 49 [.sc (.int .i64 a0),.sc (.int .i64 a1),.sc (.int .i64 a2)] [] (impl_in.e r).1 (impl_in.e r).2.1 (impl_in.e r).2.2 :=
 con_okG kitOk mix (fun k=>CtxOk.nil) (impl_in.oke k a0 a1 a2) h (by kernel_rfl) (by kernel_rfl) (by kernel_rfl) rfl (by kernel_rfl) rfl rfl
def impl_in.x (k : Nat) : X:=fun ins bs κ=>match ins,bs with
 | [.sc (.int .i64 a0),.sc (.int .i64 a1),.sc (.int .i64 a2)],[]=>(impl_in.f k a0 a1 a2).bind fun r=>κ (impl_in.e r).1 (impl_in.e r).2.1 (impl_in.e r).2.2
 | _,_=>none
theorem impl_in.xok (k : Nat) : XOk 49 (impl_in.x k):=by
 intro ins bs κ res h;unfold impl_in.x at h
 split at h
 ·obtain ⟨r,hr,h⟩:=Option.bind_eq_some_iff.1 h;exact ⟨_,_,_,impl_in.con k _ _ _ r hr,h⟩
 cases h
def impl_isRoot.sp : Nat → Option (Spec Ty):=fun r=>none
def impl_isRoot.en : Option (Spec Ty):=none
def impl_isRoot.ctx (k : Nat) : Ctx Ty D:=(cons 49 (impl_in.x k) (fun _ _ _ _=>none))
def impl_isRoot.f (k : Nat) (a0_0 : List S128) (a1 : Int) : Option (Bool):=((impl_in.f k a1 0 (w64 ((a0_0.length : Int) - 1))).bind fun t1=>(if t1 = true then (if 0 ≤ a1 then (if a1 < (a0_0.length : Int) then (some ((!((rd_T128 a0_0 a1).f0)))) else none) else none) else (some (false))))
def impl_isRoot.e (r : Bool) : Res Ty D:=(.sc (.bool r),[],[])
abbrev impl_isRoot.g (rec : List Item → St Ty D → R) (k : Nat):=go1 Tryz.f50 (impl_isRoot.ctx k) impl_isRoot.sp 0 impl_isRoot.en rec
theorem impl_isRoot.te (rec : List Item → St Ty D → R) (k : Nat) (a0_0 : List S128) (a1 : Int) : impl_isRoot.g rec k [.code (body Tryz.f50)] (startSt [.ag [.row 0 .t128 a0_0],.sc (.int .i64 a1)] []) =
 (impl_in.f k a1 0 (w64 ((a0_0.length : Int) - 1))).bind fun t1=>bif t1 then bif decide (0 ≤ a1) then bif decide (a1 < (a0_0.length : Int)) then some (impl_isRoot.e ((!((rd_T128 a0_0 a1).f0)))) else none else none else some (impl_isRoot.e (false)):=by kernel_rfl
theorem impl_isRoot.oke (k : Nat) (a0_0 : List S128) (a1 : Int) : goF Tryz.f50 impl_isRoot.ctx impl_isRoot.sp 0 impl_isRoot.en (k + 1) [.code (body Tryz.f50)] (startSt [.ag [.row 0 .t128 a0_0],.sc (.int .i64 a1)] []) = (impl_isRoot.f k a0_0 a1).map impl_isRoot.e:=by
 rw [impl_isRoot.f];exact (impl_isRoot.te _ k a0_0 a1).trans (bn (fun t1=>(cb (cd (cd rfl rfl) rfl) rfl)))
theorem impl_isRoot.con (k : Nat) (a0_0 : List S128) (a1 : Int) (r) (h : impl_isRoot.f k a0_0 a1 = some r) : Contract Tryz.prog kit 50 [.ag [.row 0 .t128 a0_0],.sc (.int .i64 a1)] [] (impl_isRoot.e r).1 (impl_isRoot.e r).2.1 (impl_isRoot.e r).2.2 :=
 con_okG kitOk mix (fun k=>(CtxOk.cons (impl_in.xok k) CtxOk.nil)) (impl_isRoot.oke k a0_0 a1) h (by kernel_rfl) (by kernel_rfl) (by kernel_rfl) rfl (by kernel_rfl) rfl rfl
def impl_isRoot.x (k : Nat) : X:=fun ins bs κ=>match ins,bs with
 | [.ag [.row 0 .t128 a0_0],.sc (.int .i64 a1)],[]=>(impl_isRoot.f k a0_0 a1).bind fun r=>κ (impl_isRoot.e r).1 (impl_isRoot.e r).2.1 (impl_isRoot.e r).2.2
 | _,_=>none
theorem impl_isRoot.xok (k : Nat) : XOk 50 (impl_isRoot.x k):=by
 intro ins bs κ res h;unfold impl_isRoot.x at h
 split at h
 ·obtain ⟨r,hr,h⟩:=Option.bind_eq_some_iff.1 h;exact ⟨_,_,_,impl_isRoot.con k _ _ r hr,h⟩
 cases h
def impl_ArenaOk.sp : Nat → Option (Spec Ty):=fun r=>bif Nat.beq r 2 then some ⟨[(1,.box [.keep]),(8,.keep),(9,.keep),(10,.keep)],[]⟩ else bif Nat.beq r 7 then some ⟨[(1,.box [.keep]),(3,.keep),(4,.box [.keep,.keep]),(8,.keep),(9,.keep),(10,.keep),(20,.keep),(21,.keep),(22,.keep)],[]⟩ else none
def impl_ArenaOk.en : Option (Spec Ty):=none
def impl_ArenaOk.s2 (x8 : List S128) (x9 : Int) (x10 : Int) (h64_0 : List S128) : St Ty D:=⟨(Env.put (Env.put (Env.put (Env.put E (some 1) (.pt 64 0 0)) (some 8) (.row 0 .t128 x8)) (some 9) (.sc (.int .i64 x9))) (some 10) (.sc (.int .i64 x10))),Heap.put H0 [(64,some (.box [.row 0 .t128 h64_0]))],1000⟩
def impl_ArenaOk.s7 (x3 : Int) (x8 : List S128) (x9 : Int) (x10 : Int) (x20 : List Int) (x21 : Int) (x22 : Int) (h64_0 : List S128) (h65_0 : Bool) (h65_1 : List Int) : St Ty D:=⟨(Env.put (Env.put (Env.put (Env.put (Env.put (Env.put (Env.put (Env.put (Env.put E (some 1) (.pt 64 0 0)) (some 3) (.sc (.int .i64 x3))) (some 4) (.pt 65 0 0)) (some 8) (.row 0 .t128 x8)) (some 9) (.sc (.int .i64 x9))) (some 10) (.sc (.int .i64 x10))) (some 20) (.row 0 .t3 x20)) (some 21) (.sc (.int .i64 x21))) (some 22) (.sc (.int .i64 x22))),Heap.put H0 [(64,some (.box [.row 0 .t128 h64_0])),(65,some (.box [.sc (.bool h65_0),.row 0 .t3 h65_1]))],1000⟩
def impl_ArenaOk.ctx (k : Nat) : Ctx Ty D:=(cons 49 (impl_in.x k) (fun _ _ _ _=>none))
mutual
def impl_ArenaOk.c2 : Nat → (List S128) → Int → Int → (List S128) → Option (Bool)
 | 0,_,_,_,_=>none
 | k + 1,x8,x9,x10,h64_0=>(if x10 < x9 then (if 0 ≤ x10 then (if x10 < (x8.length : Int) then (if (((rd_T128 x8 x10).f1).length : Int) = 4 then (impl_ArenaOk.c7 k x10 x8 x9 x10 ((rd_T128 x8 x10).f1) (((rd_T128 x8 x10).f1).length : Int) 0 h64_0 ((rd_T128 x8 x10).f0) ((rd_T128 x8 x10).f1)) else (some (false))) else none) else none) else (some (true)))
def impl_ArenaOk.c7 : Nat → Int → (List S128) → Int → Int → (List Int) → Int → Int → (List S128) → Bool → (List Int) → Option (Bool)
 | 0,_,_,_,_,_,_,_,_,_,_=>none
 | k + 1,x3,x8,x9,x10,x20,x21,x22,h64_0,h65_0,h65_1=>(if x22 < x21 then (if 0 ≤ x22 then (if x22 < (x20.length : Int) then (if h65_0 = true then (if (rd_T3 x20 x22) < 0 then (some (false)) else (if h65_0 = true then (impl_ArenaOk.c7 k x3 x8 x9 x10 x20 x21 (w64 (x22 + 1)) h64_0 h65_0 h65_1) else (if (rd_T3 x20 x22) = (-1) then (impl_ArenaOk.c7 k x3 x8 x9 x10 x20 x21 (w64 (x22 + 1)) h64_0 h65_0 h65_1) else ((impl_in.f k (rd_T3 x20 x22) 0 (w64 (x3 - 1))).bind fun t1=>(if t1 = true then (if 0 ≤ (rd_T3 x20 x22) then (if (rd_T3 x20 x22) < (h64_0.length : Int) then (if ((rd_T128 h64_0 (rd_T3 x20 x22)).f0) = true then (impl_ArenaOk.c7 k x3 x8 x9 x10 x20 x21 (w64 (x22 + 1)) h64_0 h65_0 h65_1) else (some (false))) else none) else none) else (some (false))))))) else (if h65_0 = true then (impl_ArenaOk.c7 k x3 x8 x9 x10 x20 x21 (w64 (x22 + 1)) h64_0 h65_0 h65_1) else (if (rd_T3 x20 x22) = (-1) then (impl_ArenaOk.c7 k x3 x8 x9 x10 x20 x21 (w64 (x22 + 1)) h64_0 h65_0 h65_1) else ((impl_in.f k (rd_T3 x20 x22) 0 (w64 (x3 - 1))).bind fun t2=>(if t2 = true then (if 0 ≤ (rd_T3 x20 x22) then (if (rd_T3 x20 x22) < (h64_0.length : Int) then (if ((rd_T128 h64_0 (rd_T3 x20 x22)).f0) = true then (impl_ArenaOk.c7 k x3 x8 x9 x10 x20 x21 (w64 (x22 + 1)) h64_0 h65_0 h65_1) else (some (false))) else none) else none) else (some (false))))))) else none) else none) else (impl_ArenaOk.c2 k x8 x9 (w64 (x10 + 1)) h64_0))
end
def impl_ArenaOk.f (k : Nat) (a0_0 : List S128) : Option (Bool):=(impl_ArenaOk.c2 k a0_0 (a0_0.length : Int) 0 a0_0)
def impl_ArenaOk.e (r : Bool) : Res Ty D:=(.sc (.bool r),[],[])
abbrev impl_ArenaOk.g (rec : List Item → St Ty D → R) (k : Nat):=go1 Tryz.f51 (impl_ArenaOk.ctx k) impl_ArenaOk.sp 0 impl_ArenaOk.en rec
theorem impl_ArenaOk.t2 (rec : List Item → St Ty D → R) (k : Nat) (x8 : List S128) (x9 : Int) (x10 : Int) (h64_0 : List S128) : impl_ArenaOk.g rec k (td Tryz.f51 2) (impl_ArenaOk.s2 x8 x9 x10 h64_0) =
 bif decide (x10 < x9) then bif decide (0 ≤ x10) then bif decide (x10 < (x8.length : Int)) then bif !decide ((((rd_T128 x8 x10).f1).length : Int) = 4) then some (impl_ArenaOk.e (false)) else rec (td Tryz.f51 7) (impl_ArenaOk.s7 x10 x8 x9 x10 ((rd_T128 x8 x10).f1) (((rd_T128 x8 x10).f1).length : Int) 0 h64_0 ((rd_T128 x8 x10).f0) ((rd_T128 x8 x10).f1)) else none else none else some (impl_ArenaOk.e (true)):=by kernel_rfl
theorem impl_ArenaOk.t7 (rec : List Item → St Ty D → R) (k : Nat) (x3 : Int) (x8 : List S128) (x9 : Int) (x10 : Int) (x20 : List Int) (x21 : Int) (x22 : Int) (h64_0 : List S128) (h65_0 : Bool) (h65_1 : List Int) : impl_ArenaOk.g rec k (td Tryz.f51 7) (impl_ArenaOk.s7 x3 x8 x9 x10 x20 x21 x22 h64_0 h65_0 h65_1) =
 bif decide (x22 < x21) then bif decide (0 ≤ x22) then bif decide (x22 < (x20.length : Int)) then bif h65_0 then bif decide ((rd_T3 x20 x22) < 0) then some (impl_ArenaOk.e (false)) else bif !h65_0 then bif !decide ((rd_T3 x20 x22) = (-1)) then (impl_in.f k (rd_T3 x20 x22) 0 (w64 (x3 - 1))).bind fun t1=>bif !t1 then some (impl_ArenaOk.e (false)) else bif decide (0 ≤ (rd_T3 x20 x22)) then bif decide ((rd_T3 x20 x22) < (h64_0.length : Int)) then bif !((rd_T128 h64_0 (rd_T3 x20 x22)).f0) then some (impl_ArenaOk.e (false)) else rec (td Tryz.f51 7) (impl_ArenaOk.s7 x3 x8 x9 x10 x20 x21 (w64 (x22 + 1)) h64_0 h65_0 h65_1) else none else none else rec (td Tryz.f51 7) (impl_ArenaOk.s7 x3 x8 x9 x10 x20 x21 (w64 (x22 + 1)) h64_0 h65_0 h65_1) else rec (td Tryz.f51 7) (impl_ArenaOk.s7 x3 x8 x9 x10 x20 x21 (w64 (x22 + 1)) h64_0 h65_0 h65_1) else bif !h65_0 then bif !decide ((rd_T3 x20 x22) = (-1)) then (impl_in.f k (rd_T3 x20 x22) 0 (w64 (x3 - 1))).bind fun t2=>bif !t2 then some (impl_ArenaOk.e (false)) else bif decide (0 ≤ (rd_T3 x20 x22)) then bif decide ((rd_T3 x20 x22) < (h64_0.length : Int)) then bif !((rd_T128 h64_0 (rd_T3 x20 x22)).f0) then some (impl_ArenaOk.e (false)) else rec (td Tryz.f51 7) (impl_ArenaOk.s7 x3 x8 x9 x10 x20 x21 (w64 (x22 + 1)) h64_0 h65_0 h65_1) else none else none else rec (td Tryz.f51 7) (impl_ArenaOk.s7 x3 x8 x9 x10 x20 x21 (w64 (x22 + 1)) h64_0 h65_0 h65_1) else rec (td Tryz.f51 7) (impl_ArenaOk.s7 x3 x8 x9 x10 x20 x21 (w64 (x22 + 1)) h64_0 h65_0 h65_1) else none else none else rec (td Tryz.f51 2) (impl_ArenaOk.s2 x8 x9 (w64 (x10 + 1)) h64_0):=by kernel_rfl
theorem impl_ArenaOk.te (rec : List Item → St Ty D → R) (k : Nat) (a0_0 : List S128) : impl_ArenaOk.g rec k [.code (body Tryz.f51)] (startSt [.ag [.row 0 .t128 a0_0]] []) =
 rec (td Tryz.f51 2) (impl_ArenaOk.s2 a0_0 (a0_0.length : Int) 0 a0_0):=by kernel_rfl
theorem impl_ArenaOk.ok : ∀ k : Nat,(∀ (x8 : List S128) (x9 : Int) (x10 : Int) (h64_0 : List S128),goF Tryz.f51 impl_ArenaOk.ctx impl_ArenaOk.sp 0 impl_ArenaOk.en k (td Tryz.f51 2) (impl_ArenaOk.s2 x8 x9 x10 h64_0) = (impl_ArenaOk.c2 k x8 x9 x10 h64_0).map impl_ArenaOk.e) ∧ (∀ (x3 : Int) (x8 : List S128) (x9 : Int) (x10 : Int) (x20 : List Int) (x21 : Int) (x22 : Int) (h64_0 : List S128) (h65_0 : Bool) (h65_1 : List Int),goF Tryz.f51 impl_ArenaOk.ctx impl_ArenaOk.sp 0 impl_ArenaOk.en k (td Tryz.f51 7) (impl_ArenaOk.s7 x3 x8 x9 x10 x20 x21 x22 h64_0 h65_0 h65_1) = (impl_ArenaOk.c7 k x3 x8 x9 x10 x20 x21 x22 h64_0 h65_0 h65_1).map impl_ArenaOk.e)
 | 0=>⟨fun _ _ _ _=>rfl,fun _ _ _ _ _ _ _ _ _ _=>rfl⟩
 | k + 1=>by
  have ih:=impl_ArenaOk.ok k;obtain ⟨i2,i7⟩:=ih;refine ⟨?_,?_⟩
  ·intro x8 x9 x10 h64_0;rw [impl_ArenaOk.c2];exact (impl_ArenaOk.t2 _ k x8 x9 x10 h64_0).trans (cd (cd (cd (nd rfl (i7 _ _ _ _ _ _ _ _ _ _)) rfl) rfl) rfl)
  intro x3 x8 x9 x10 x20 x21 x22 h64_0 h65_0 h65_1;rw [impl_ArenaOk.c7];exact (impl_ArenaOk.t7 _ k x3 x8 x9 x10 x20 x21 x22 h64_0 h65_0 h65_1).trans (cd (cd (cd (cb (cd rfl (nb (nd (bn (fun t1=>(nb rfl (cd (cd (nb rfl (i7 _ _ _ _ _ _ _ _ _ _)) rfl) rfl)))) (i7 _ _ _ _ _ _ _ _ _ _)) (i7 _ _ _ _ _ _ _ _ _ _))) (nb (nd (bn (fun t2=>(nb rfl (cd (cd (nb rfl (i7 _ _ _ _ _ _ _ _ _ _)) rfl) rfl)))) (i7 _ _ _ _ _ _ _ _ _ _)) (i7 _ _ _ _ _ _ _ _ _ _))) rfl) rfl) (i2 _ _ _ _))
theorem impl_ArenaOk.oke (k : Nat) (a0_0 : List S128) : goF Tryz.f51 impl_ArenaOk.ctx impl_ArenaOk.sp 0 impl_ArenaOk.en (k + 1) [.code (body Tryz.f51)] (startSt [.ag [.row 0 .t128 a0_0]] []) = (impl_ArenaOk.f k a0_0).map impl_ArenaOk.e:=by
 obtain ⟨i2,i7⟩:=impl_ArenaOk.ok k;rw [impl_ArenaOk.f];exact (impl_ArenaOk.te _ k a0_0).trans (i2 _ _ _ _)
theorem impl_ArenaOk.con (k : Nat) (a0_0 : List S128) (r) (h : impl_ArenaOk.f k a0_0 = some r) : Contract Tryz.prog kit 51 [.ag [.row 0 .t128 a0_0]] [] (impl_ArenaOk.e r).1 (impl_ArenaOk.e r).2.1 (impl_ArenaOk.e r).2.2 :=
 con_okG kitOk mix (fun k=>(CtxOk.cons (impl_in.xok k) CtxOk.nil)) (impl_ArenaOk.oke k a0_0) h (by kernel_rfl) (by kernel_rfl) (by kernel_rfl) rfl (by kernel_rfl) rfl rfl
def impl_ArenaOk.x (k : Nat) : X:=fun ins bs κ=>match ins,bs with
 | [.ag [.row 0 .t128 a0_0]],[]=>(impl_ArenaOk.f k a0_0).bind fun r=>κ (impl_ArenaOk.e r).1 (impl_ArenaOk.e r).2.1 (impl_ArenaOk.e r).2.2
 | _,_=>none
theorem impl_ArenaOk.xok (k : Nat) : XOk 51 (impl_ArenaOk.x k):=by
 intro ins bs κ res h;unfold impl_ArenaOk.x at h
 split at h
 ·obtain ⟨r,hr,h⟩:=Option.bind_eq_some_iff.1 h;exact ⟨_,_,_,impl_ArenaOk.con k _ r hr,h⟩
 cases h
def impl_numberAt.sp : Nat → Option (Spec Ty):=fun r=>none
def impl_numberAt.en : Option (Spec Ty):=none
def impl_numberAt.ctx (k : Nat) : Ctx Ty D:=(fun _ _ _ _=>none)
def impl_numberAt.f (k : Nat) (a0_0 : List S128) (a1 : Int) (a2 : Int) : Option (Int):=(if 0 ≤ a1 then (if a1 < (a0_0.length : Int) then (if 0 ≤ (w64 (Int.tdiv a2 4)) then (if (w64 (Int.tdiv a2 4)) < (((rd_T128 a0_0 a1).f1).length : Int) then (if (rd_T3 ((rd_T128 a0_0 a1).f1) (w64 (Int.tdiv a2 4))) < 0 then (some (0)) else (if 0 ≤ (rd_T3 ((rd_T128 a0_0 a1).f1) (w64 (Int.tdiv a2 4))) then (if (rd_T3 ((rd_T128 a0_0 a1).f1) (w64 (Int.tdiv a2 4))) < (a0_0.length : Int) then (if 0 ≤ (Int.tmod a2 4) then (if (Int.tmod a2 4) < (((rd_T128 a0_0 (rd_T3 ((rd_T128 a0_0 a1).f1) (w64 (Int.tdiv a2 4)))).f1).length : Int) then (some ((rd_T3 ((rd_T128 a0_0 (rd_T3 ((rd_T128 a0_0 a1).f1) (w64 (Int.tdiv a2 4)))).f1) (Int.tmod a2 4)))) else none) else none) else none) else none)) else none) else none) else none) else none)
def impl_numberAt.e (r : Int) : Res Ty D:=(.sc (.int .i64 r),[],[])
abbrev impl_numberAt.g (rec : List Item → St Ty D → R) (k : Nat):=go1 Tryz.f52 (impl_numberAt.ctx k) impl_numberAt.sp 0 impl_numberAt.en rec
theorem impl_numberAt.te (rec : List Item → St Ty D → R) (k : Nat) (a0_0 : List S128) (a1 : Int) (a2 : Int) : impl_numberAt.g rec k [.code (body Tryz.f52)] (startSt [.ag [.row 0 .t128 a0_0],.sc (.int .i64 a1),.sc (.int .i64 a2)] []) =
 bif decide (0 ≤ a1) then bif decide (a1 < (a0_0.length : Int)) then bif decide (0 ≤ (w64 (Int.tdiv a2 4))) then bif decide ((w64 (Int.tdiv a2 4)) < (((rd_T128 a0_0 a1).f1).length : Int)) then bif decide ((rd_T3 ((rd_T128 a0_0 a1).f1) (w64 (Int.tdiv a2 4))) < 0) then some (impl_numberAt.e (0)) else bif decide (0 ≤ (rd_T3 ((rd_T128 a0_0 a1).f1) (w64 (Int.tdiv a2 4)))) then bif decide ((rd_T3 ((rd_T128 a0_0 a1).f1) (w64 (Int.tdiv a2 4))) < (a0_0.length : Int)) then bif decide (0 ≤ (Int.tmod a2 4)) then bif decide ((Int.tmod a2 4) < (((rd_T128 a0_0 (rd_T3 ((rd_T128 a0_0 a1).f1) (w64 (Int.tdiv a2 4)))).f1).length : Int)) then some (impl_numberAt.e ((rd_T3 ((rd_T128 a0_0 (rd_T3 ((rd_T128 a0_0 a1).f1) (w64 (Int.tdiv a2 4)))).f1) (Int.tmod a2 4)))) else none else none else none else none else none else none else none else none:=by kernel_rfl
theorem impl_numberAt.oke (k : Nat) (a0_0 : List S128) (a1 : Int) (a2 : Int) : goF Tryz.f52 impl_numberAt.ctx impl_numberAt.sp 0 impl_numberAt.en (k + 1) [.code (body Tryz.f52)] (startSt [.ag [.row 0 .t128 a0_0],.sc (.int .i64 a1),.sc (.int .i64 a2)] []) = (impl_numberAt.f k a0_0 a1 a2).map impl_numberAt.e:=by
 rw [impl_numberAt.f];exact (impl_numberAt.te _ k a0_0 a1 a2).trans (cd (cd (cd (cd (cd rfl (cd (cd (cd (cd rfl rfl) rfl) rfl) rfl)) rfl) rfl) rfl) rfl)
theorem impl_numberAt.con (k : Nat) (a0_0 : List S128) (a1 : Int) (a2 : Int) (r) (h : impl_numberAt.f k a0_0 a1 a2 = some r) : Contract Tryz.prog kit 52 [.ag [.row 0 .t128 a0_0],.sc (.int .i64 a1),.sc (.int .i64 a2)] [] (impl_numberAt.e r).1 (impl_numberAt.e r).2.1 (impl_numberAt.e r).2.2 :=
 con_okG kitOk mix (fun k=>CtxOk.nil) (impl_numberAt.oke k a0_0 a1 a2) h (by kernel_rfl) (by kernel_rfl) (by kernel_rfl) rfl (by kernel_rfl) rfl rfl
def impl_numberAt.x (k : Nat) : X:=fun ins bs κ=>match ins,bs with
 | [.ag [.row 0 .t128 a0_0],.sc (.int .i64 a1),.sc (.int .i64 a2)],[]=>(impl_numberAt.f k a0_0 a1 a2).bind fun r=>κ (impl_numberAt.e r).1 (impl_numberAt.e r).2.1 (impl_numberAt.e r).2.2
 | _,_=>none
theorem impl_numberAt.xok (k : Nat) : XOk 52 (impl_numberAt.x k):=by
 intro ins bs κ res h;unfold impl_numberAt.x at h
 split at h
 ·obtain ⟨r,hr,h⟩:=Option.bind_eq_some_iff.1 h;exact ⟨_,_,_,impl_numberAt.con k _ _ _ r hr,h⟩
 cases h
def impl_GetAt.sp : Nat → Option (Spec Ty):=fun r=>none
def impl_GetAt.en : Option (Spec Ty):=none
def impl_GetAt.ctx (k : Nat) : Ctx Ty D:=(cons 49 (impl_in.x k) (cons 50 (impl_isRoot.x k) (cons 51 (impl_ArenaOk.x k) (cons 52 (impl_numberAt.x k) (fun _ _ _ _=>none)))))
def impl_GetAt.f (k : Nat) (a0_0 : List S128) (a1 : Int) (a2 : Int) : Option (Int):=((impl_in.f k a2 0 15).bind fun t1=>(if t1 = true then ((impl_isRoot.f k a0_0 a1).bind fun t2=>(if t2 = true then ((impl_ArenaOk.f k a0_0).bind fun t3=>(if t3 = true then ((impl_numberAt.f k a0_0 a1 a2).bind fun t4=>(some (t4))) else (some (0)))) else (some (0)))) else (some (0))))
def impl_GetAt.e (r : Int) : Res Ty D:=(.sc (.int .i64 r),[],[])
abbrev impl_GetAt.g (rec : List Item → St Ty D → R) (k : Nat):=go1 Tryz.f31 (impl_GetAt.ctx k) impl_GetAt.sp 0 impl_GetAt.en rec
theorem impl_GetAt.te (rec : List Item → St Ty D → R) (k : Nat) (a0_0 : List S128) (a1 : Int) (a2 : Int) : impl_GetAt.g rec k [.code (body Tryz.f31)] (startSt [.ag [.row 0 .t128 a0_0],.sc (.int .i64 a1),.sc (.int .i64 a2)] []) =
 (impl_in.f k a2 0 15).bind fun t1=>bif !t1 then some (impl_GetAt.e (0)) else (impl_isRoot.f k a0_0 a1).bind fun t2=>bif !t2 then some (impl_GetAt.e (0)) else (impl_ArenaOk.f k a0_0).bind fun t3=>bif !t3 then some (impl_GetAt.e (0)) else (impl_numberAt.f k a0_0 a1 a2).bind fun t4=>some (impl_GetAt.e (t4)):=by kernel_rfl
theorem impl_GetAt.oke (k : Nat) (a0_0 : List S128) (a1 : Int) (a2 : Int) : goF Tryz.f31 impl_GetAt.ctx impl_GetAt.sp 0 impl_GetAt.en (k + 1) [.code (body Tryz.f31)] (startSt [.ag [.row 0 .t128 a0_0],.sc (.int .i64 a1),.sc (.int .i64 a2)] []) = (impl_GetAt.f k a0_0 a1 a2).map impl_GetAt.e:=by
 rw [impl_GetAt.f];exact (impl_GetAt.te _ k a0_0 a1 a2).trans (bn (fun t1=>(nb rfl (bn (fun t2=>(nb rfl (bn (fun t3=>(nb rfl (bn (fun t4=>rfl)))))))))))
theorem impl_GetAt.con (k : Nat) (a0_0 : List S128) (a1 : Int) (a2 : Int) (r) (h : impl_GetAt.f k a0_0 a1 a2 = some r) : Contract Tryz.prog kit 31 [.ag [.row 0 .t128 a0_0],.sc (.int .i64 a1),.sc (.int .i64 a2)] [] (impl_GetAt.e r).1 (impl_GetAt.e r).2.1 (impl_GetAt.e r).2.2 :=
 con_okG kitOk mix (fun k=>(CtxOk.cons (impl_in.xok k) (CtxOk.cons (impl_isRoot.xok k) (CtxOk.cons (impl_ArenaOk.xok k) (CtxOk.cons (impl_numberAt.xok k) CtxOk.nil))))) (impl_GetAt.oke k a0_0 a1 a2) h (by kernel_rfl) (by kernel_rfl) (by kernel_rfl) rfl (by kernel_rfl) rfl rfl
def impl_GetAt.x (k : Nat) : X:=fun ins bs κ=>match ins,bs with
 | [.ag [.row 0 .t128 a0_0],.sc (.int .i64 a1),.sc (.int .i64 a2)],[]=>(impl_GetAt.f k a0_0 a1 a2).bind fun r=>κ (impl_GetAt.e r).1 (impl_GetAt.e r).2.1 (impl_GetAt.e r).2.2
 | _,_=>none
theorem impl_GetAt.xok (k : Nat) : XOk 31 (impl_GetAt.x k):=by
 intro ins bs κ res h;unfold impl_GetAt.x at h
 split at h
 ·obtain ⟨r,hr,h⟩:=Option.bind_eq_some_iff.1 h;exact ⟨_,_,_,impl_GetAt.con k _ _ _ r hr,h⟩
 cases h
end
end Go.Proofs.YtbbfkodckpfjcaaGreat.M2

namespace Go.Proofs.YtbbfkodckpfjcaaGreat.M2
open Go Go.Proofs.YtbbfkodckpfjcaaGreat.PK
set_option linter.unusedVariables false
set_option linter.unusedSimpArgs false
set_option maxHeartbeats 4000000
set_option maxRecDepth 100000
noncomputable section
def impl_ChunkOf.sp : Nat → Option (Spec Ty):=fun r=>none
def impl_ChunkOf.en : Option (Spec Ty):=none
def impl_ChunkOf.ctx (k : Nat) : Ctx Ty D:=(cons 15 (impl_volAt.x k) (cons 31 (impl_GetAt.x k) (fun _ _ _ _=>none)))
def impl_ChunkOf.f (k : Nat) (a0_0 : List S80) (a0_1 : List S128) (a0_2 : Int) (a1 : Int) (a2 : Int) : Option (Int):=((impl_volAt.f k a0_0 a0_1 a0_2 a1).bind fun t1=>(if t1 < 0 then (some (0)) else (if 0 ≤ t1 then (if t1 < (a0_0.length : Int) then ((impl_GetAt.f k a0_1 ((rd_T80 a0_0 t1).f1) a2).bind fun t2=>(some (t2))) else none) else none)))
def impl_ChunkOf.e (r : Int) : Res Ty D:=(.sc (.int .i64 r),[],[])
abbrev impl_ChunkOf.g (rec : List Item → St Ty D → R) (k : Nat):=go1 Tryz.f16 (impl_ChunkOf.ctx k) impl_ChunkOf.sp 0 impl_ChunkOf.en rec
theorem impl_ChunkOf.te (rec : List Item → St Ty D → R) (k : Nat) (a0_0 : List S80) (a0_1 : List S128) (a0_2 : Int) (a1 : Int) (a2 : Int) : impl_ChunkOf.g rec k [.code (body Tryz.f16)] (startSt [.ag [.row 0 .t80 a0_0,.row 0 .t128 a0_1,.sc (.int .i64 a0_2)],.sc (.int .i64 a1),.sc (.int .i64 a2)] []) =
 (impl_volAt.f k a0_0 a0_1 a0_2 a1).bind fun t1=>bif decide (t1 < 0) then some (impl_ChunkOf.e (0)) else bif decide (0 ≤ t1) then bif decide (t1 < (a0_0.length : Int)) then (impl_GetAt.f k a0_1 ((rd_T80 a0_0 t1).f1) a2).bind fun t2=>some (impl_ChunkOf.e (t2)) else none else none:=by kernel_rfl
theorem impl_ChunkOf.oke (k : Nat) (a0_0 : List S80) (a0_1 : List S128) (a0_2 : Int) (a1 : Int) (a2 : Int) : goF Tryz.f16 impl_ChunkOf.ctx impl_ChunkOf.sp 0 impl_ChunkOf.en (k + 1) [.code (body Tryz.f16)] (startSt [.ag [.row 0 .t80 a0_0,.row 0 .t128 a0_1,.sc (.int .i64 a0_2)],.sc (.int .i64 a1),.sc (.int .i64 a2)] []) = (impl_ChunkOf.f k a0_0 a0_1 a0_2 a1 a2).map impl_ChunkOf.e:=by
 rw [impl_ChunkOf.f];exact (impl_ChunkOf.te _ k a0_0 a0_1 a0_2 a1 a2).trans (bn (fun t1=>(cd rfl (cd (cd (bn (fun t2=>rfl)) rfl) rfl))))
theorem impl_ChunkOf.con (k : Nat) (a0_0 : List S80) (a0_1 : List S128) (a0_2 : Int) (a1 : Int) (a2 : Int) (r) (h : impl_ChunkOf.f k a0_0 a0_1 a0_2 a1 a2 = some r) : Contract Tryz.prog kit 16 [.ag [.row 0 .t80 a0_0,.row 0 .t128 a0_1,.sc (.int .i64 a0_2)],.sc (.int .i64 a1),.sc (.int .i64 a2)] [] (impl_ChunkOf.e r).1 (impl_ChunkOf.e r).2.1 (impl_ChunkOf.e r).2.2 :=
 con_okG kitOk mix (fun k=>(CtxOk.cons (impl_volAt.xok k) (CtxOk.cons (impl_GetAt.xok k) CtxOk.nil))) (impl_ChunkOf.oke k a0_0 a0_1 a0_2 a1 a2) h (by kernel_rfl) (by kernel_rfl) (by kernel_rfl) rfl (by kernel_rfl) rfl rfl
def impl_ChunkOf.x (k : Nat) : X:=fun ins bs κ=>match ins,bs with
 | [.ag [.row 0 .t80 a0_0,.row 0 .t128 a0_1,.sc (.int .i64 a0_2)],.sc (.int .i64 a1),.sc (.int .i64 a2)],[]=>(impl_ChunkOf.f k a0_0 a0_1 a0_2 a1 a2).bind fun r=>κ (impl_ChunkOf.e r).1 (impl_ChunkOf.e r).2.1 (impl_ChunkOf.e r).2.2
 | _,_=>none
theorem impl_ChunkOf.xok (k : Nat) : XOk 16 (impl_ChunkOf.x k):=by
 intro ins bs κ res h;unfold impl_ChunkOf.x at h
 split at h
 ·obtain ⟨r,hr,h⟩:=Option.bind_eq_some_iff.1 h;exact ⟨_,_,_,impl_ChunkOf.con k _ _ _ _ _ r hr,h⟩
 cases h
def impl_SumMore.sp : Nat → Option (Spec Ty):=fun r=>bif Nat.beq r 2 then some ⟨[(0,.keep),(1,.keep),(5,.keep)],[]⟩ else bif Nat.beq r 6 then some ⟨[(0,.keep),(1,.keep),(5,.keep),(19,.keep)],[]⟩ else none
def impl_SumMore.en : Option (Spec Ty):=none
def impl_SumMore.s2 (x0 : Int) (x1 : ByteArray) (x5 : Int) : St Ty D:=⟨(Env.put (Env.put (Env.put E (some 0) (.sc (.int .u32 x0))) (some 1) (.sc (.string x1))) (some 5) (.sc (.int .i64 x5))),H0,1000⟩
def impl_SumMore.s6 (x0 : Int) (x1 : ByteArray) (x5 : Int) (x19 : Int) : St Ty D:=⟨(Env.put (Env.put (Env.put (Env.put E (some 0) (.sc (.int .u32 x0))) (some 1) (.sc (.string x1))) (some 5) (.sc (.int .i64 x5))) (some 19) (.sc (.int .i64 x19))),H0,1000⟩
def impl_SumMore.ctx (k : Nat) : Ctx Ty D:=(fun _ _ _ _=>none)
mutual
def impl_SumMore.c2 : Nat → Int → ByteArray → Int → Option (Int)
 | 0,_,_,_=>none
 | k + 1,x0,x1,x5=>(if x5 < (x1.size : Int) then (if 0 ≤ x5 then (if x5 < (x1.size : Int) then (impl_SumMore.c6 k (Go.bits .xor .u32 x0 (Go.IntKind.wrap .u32 ((bt x1 x5)))) x1 x5 0) else none) else none) else (some (x0)))
def impl_SumMore.c6 : Nat → Int → ByteArray → Int → Int → Option (Int)
 | 0,_,_,_,_=>none
 | k + 1,x0,x1,x5,x19=>(if x19 < 8 then (if (Go.bits .and .u32 x0 1) = 1 then (impl_SumMore.c6 k (Go.bits .xor .u32 (Int.fdiv x0 2) 3558460437) x1 x5 (w64 (x19 + 1))) else (impl_SumMore.c6 k (Int.fdiv x0 2) x1 x5 (w64 (x19 + 1)))) else (impl_SumMore.c2 k x0 x1 (w64 (x5 + 1))))
end
def impl_SumMore.f (k : Nat) (a0 : Int) (a1 : ByteArray) : Option (Int):=(impl_SumMore.c2 k a0 a1 0)
def impl_SumMore.e (r : Int) : Res Ty D:=(.sc (.int .u32 r),[],[])
abbrev impl_SumMore.g (rec : List Item → St Ty D → R) (k : Nat):=go1 Tryz.f114 (impl_SumMore.ctx k) impl_SumMore.sp 0 impl_SumMore.en rec
theorem impl_SumMore.t2 (rec : List Item → St Ty D → R) (k : Nat) (x0 : Int) (x1 : ByteArray) (x5 : Int) : impl_SumMore.g rec k (td Tryz.f114 2) (impl_SumMore.s2 x0 x1 x5) =
 bif decide (x5 < (x1.size : Int)) then bif decide (0 ≤ x5) then bif decide (x5 < (x1.size : Int)) then rec (td Tryz.f114 6) (impl_SumMore.s6 (Go.bits .xor .u32 x0 (Go.IntKind.wrap .u32 ((bt x1 x5)))) x1 x5 0) else none else none else some (impl_SumMore.e (x0)):=by kernel_rfl
theorem impl_SumMore.t6 (rec : List Item → St Ty D → R) (k : Nat) (x0 : Int) (x1 : ByteArray) (x5 : Int) (x19 : Int) : impl_SumMore.g rec k (td Tryz.f114 6) (impl_SumMore.s6 x0 x1 x5 x19) =
 bif decide (x19 < 8) then bif decide ((Go.bits .and .u32 x0 1) = 1) then rec (td Tryz.f114 6) (impl_SumMore.s6 (Go.bits .xor .u32 (Int.fdiv x0 2) 3558460437) x1 x5 (w64 (x19 + 1))) else rec (td Tryz.f114 6) (impl_SumMore.s6 (Int.fdiv x0 2) x1 x5 (w64 (x19 + 1))) else rec (td Tryz.f114 2) (impl_SumMore.s2 x0 x1 (w64 (x5 + 1))):=by kernel_rfl
theorem impl_SumMore.te (rec : List Item → St Ty D → R) (k : Nat) (a0 : Int) (a1 : ByteArray) : impl_SumMore.g rec k [.code (body Tryz.f114)] (startSt [.sc (.int .u32 a0),.sc (.string a1)] []) =
 rec (td Tryz.f114 2) (impl_SumMore.s2 a0 a1 0):=by kernel_rfl
theorem impl_SumMore.ok : ∀ k : Nat,(∀ (x0 : Int) (x1 : ByteArray) (x5 : Int),goF Tryz.f114 impl_SumMore.ctx impl_SumMore.sp 0 impl_SumMore.en k (td Tryz.f114 2) (impl_SumMore.s2 x0 x1 x5) = (impl_SumMore.c2 k x0 x1 x5).map impl_SumMore.e) ∧ (∀ (x0 : Int) (x1 : ByteArray) (x5 : Int) (x19 : Int),goF Tryz.f114 impl_SumMore.ctx impl_SumMore.sp 0 impl_SumMore.en k (td Tryz.f114 6) (impl_SumMore.s6 x0 x1 x5 x19) = (impl_SumMore.c6 k x0 x1 x5 x19).map impl_SumMore.e)
 | 0=>⟨fun _ _ _=>rfl,fun _ _ _ _=>rfl⟩
 | k + 1=>by
  have ih:=impl_SumMore.ok k;obtain ⟨i2,i6⟩:=ih;refine ⟨?_,?_⟩
  ·intro x0 x1 x5;rw [impl_SumMore.c2];exact (impl_SumMore.t2 _ k x0 x1 x5).trans (cd (cd (cd (i6 _ _ _ _) rfl) rfl) rfl)
  intro x0 x1 x5 x19;rw [impl_SumMore.c6];exact (impl_SumMore.t6 _ k x0 x1 x5 x19).trans (cd (cd (i6 _ _ _ _) (i6 _ _ _ _)) (i2 _ _ _))
theorem impl_SumMore.oke (k : Nat) (a0 : Int) (a1 : ByteArray) : goF Tryz.f114 impl_SumMore.ctx impl_SumMore.sp 0 impl_SumMore.en (k + 1) [.code (body Tryz.f114)] (startSt [.sc (.int .u32 a0),.sc (.string a1)] []) = (impl_SumMore.f k a0 a1).map impl_SumMore.e:=by
 obtain ⟨i2,i6⟩:=impl_SumMore.ok k;rw [impl_SumMore.f];exact (impl_SumMore.te _ k a0 a1).trans (i2 _ _ _)
theorem impl_SumMore.con (k : Nat) (a0 : Int) (a1 : ByteArray) (r) (h : impl_SumMore.f k a0 a1 = some r) : Contract Tryz.prog kit 114 [.sc (.int .u32 a0),.sc (.string a1)] [] (impl_SumMore.e r).1 (impl_SumMore.e r).2.1 (impl_SumMore.e r).2.2 :=
 con_okG kitOk mix (fun k=>CtxOk.nil) (impl_SumMore.oke k a0 a1) h (by kernel_rfl) (by kernel_rfl) (by kernel_rfl) rfl (by kernel_rfl) rfl rfl
def impl_SumMore.x (k : Nat) : X:=fun ins bs κ=>match ins,bs with
 | [.sc (.int .u32 a0),.sc (.string a1)],[]=>(impl_SumMore.f k a0 a1).bind fun r=>κ (impl_SumMore.e r).1 (impl_SumMore.e r).2.1 (impl_SumMore.e r).2.2
 | _,_=>none
theorem impl_SumMore.xok (k : Nat) : XOk 114 (impl_SumMore.x k):=by
 intro ins bs κ res h;unfold impl_SumMore.x at h
 split at h
 ·obtain ⟨r,hr,h⟩:=Option.bind_eq_some_iff.1 h;exact ⟨_,_,_,impl_SumMore.con k _ _ r hr,h⟩
 cases h
def impl_SumOf.sp : Nat → Option (Spec Ty):=fun r=>none
def impl_SumOf.en : Option (Spec Ty):=none
def impl_SumOf.ctx (k : Nat) : Ctx Ty D:=(cons 114 (impl_SumMore.x k) (fun _ _ _ _=>none))
def impl_SumOf.f (k : Nat) (a0 : ByteArray) : Option (Int):=((impl_SumMore.f k 4294967295 a0).bind fun t1=>(some (t1)))
def impl_SumOf.e (r : Int) : Res Ty D:=(.sc (.int .u32 r),[],[])
abbrev impl_SumOf.g (rec : List Item → St Ty D → R) (k : Nat):=go1 Tryz.f112 (impl_SumOf.ctx k) impl_SumOf.sp 0 impl_SumOf.en rec
theorem impl_SumOf.te (rec : List Item → St Ty D → R) (k : Nat) (a0 : ByteArray) : impl_SumOf.g rec k [.code (body Tryz.f112)] (startSt [.sc (.string a0)] []) =
 (impl_SumMore.f k 4294967295 a0).bind fun t1=>some (impl_SumOf.e (t1)):=by kernel_rfl
theorem impl_SumOf.oke (k : Nat) (a0 : ByteArray) : goF Tryz.f112 impl_SumOf.ctx impl_SumOf.sp 0 impl_SumOf.en (k + 1) [.code (body Tryz.f112)] (startSt [.sc (.string a0)] []) = (impl_SumOf.f k a0).map impl_SumOf.e:=by
 rw [impl_SumOf.f];exact (impl_SumOf.te _ k a0).trans (bn (fun t1=>rfl))
theorem impl_SumOf.con (k : Nat) (a0 : ByteArray) (r) (h : impl_SumOf.f k a0 = some r) : Contract Tryz.prog kit 112 [.sc (.string a0)] [] (impl_SumOf.e r).1 (impl_SumOf.e r).2.1 (impl_SumOf.e r).2.2 :=
 con_okG kitOk mix (fun k=>(CtxOk.cons (impl_SumMore.xok k) CtxOk.nil)) (impl_SumOf.oke k a0) h (by kernel_rfl) (by kernel_rfl) (by kernel_rfl) rfl (by kernel_rfl) rfl rfl
def impl_SumOf.x (k : Nat) : X:=fun ins bs κ=>match ins,bs with
 | [.sc (.string a0)],[]=>(impl_SumOf.f k a0).bind fun r=>κ (impl_SumOf.e r).1 (impl_SumOf.e r).2.1 (impl_SumOf.e r).2.2
 | _,_=>none
theorem impl_SumOf.xok (k : Nat) : XOk 112 (impl_SumOf.x k):=by
 intro ins bs κ res h;unfold impl_SumOf.x at h
 split at h
 ·obtain ⟨r,hr,h⟩:=Option.bind_eq_some_iff.1 h;exact ⟨_,_,_,impl_SumOf.con k _ r hr,h⟩
 cases h
def impl_Sealed.sp : Nat → Option (Spec Ty):=fun r=>none
def impl_Sealed.en : Option (Spec Ty):=none
def impl_Sealed.ctx (k : Nat) : Ctx Ty D:=(cons 112 (impl_SumOf.x k) (fun _ _ _ _=>none))
def impl_Sealed.f (k : Nat) (a0 : ByteArray) : Option (ByteArray × Bool):=(if (a0.size : Int) > 20000 then (some ((⟨#[]⟩ : ByteArray),false)) else ((impl_SumOf.f k a0).bind fun t1=>(if a0.size + (strOfNums ([(Go.IntKind.wrap .u8 ((Int.fdiv t1 16777216))),(Go.IntKind.wrap .u8 ((Int.fdiv t1 65536))),(Go.IntKind.wrap .u8 ((Int.fdiv t1 256))),(Go.IntKind.wrap .u8 (t1))] : List Int)).size ≤ 9223372036854775807 then (some ((a0 ++ (strOfNums ([(Go.IntKind.wrap .u8 ((Int.fdiv t1 16777216))),(Go.IntKind.wrap .u8 ((Int.fdiv t1 65536))),(Go.IntKind.wrap .u8 ((Int.fdiv t1 256))),(Go.IntKind.wrap .u8 (t1))] : List Int))),true)) else none)))
def impl_Sealed.e (r : ByteArray × Bool) : Res Ty D:=(.tu [.sc (.string r.1),.sc (.bool r.2)],[],[])
abbrev impl_Sealed.g (rec : List Item → St Ty D → R) (k : Nat):=go1 Tryz.f100 (impl_Sealed.ctx k) impl_Sealed.sp 0 impl_Sealed.en rec
theorem impl_Sealed.te (rec : List Item → St Ty D → R) (k : Nat) (a0 : ByteArray) : impl_Sealed.g rec k [.code (body Tryz.f100)] (startSt [.sc (.string a0)] []) =
 bif decide ((a0.size : Int) > 20000) then some (impl_Sealed.e ((⟨#[]⟩ : ByteArray),false)) else (impl_SumOf.f k a0).bind fun t1=>bif decide (a0.size + (strOfNums ([(Go.IntKind.wrap .u8 ((Int.fdiv t1 16777216))),(Go.IntKind.wrap .u8 ((Int.fdiv t1 65536))),(Go.IntKind.wrap .u8 ((Int.fdiv t1 256))),(Go.IntKind.wrap .u8 (t1))] : List Int)).size ≤ 9223372036854775807) then some (impl_Sealed.e ((a0 ++ (strOfNums ([(Go.IntKind.wrap .u8 ((Int.fdiv t1 16777216))),(Go.IntKind.wrap .u8 ((Int.fdiv t1 65536))),(Go.IntKind.wrap .u8 ((Int.fdiv t1 256))),(Go.IntKind.wrap .u8 (t1))] : List Int))),true)) else none:=by kernel_rfl
theorem impl_Sealed.oke (k : Nat) (a0 : ByteArray) : goF Tryz.f100 impl_Sealed.ctx impl_Sealed.sp 0 impl_Sealed.en (k + 1) [.code (body Tryz.f100)] (startSt [.sc (.string a0)] []) = (impl_Sealed.f k a0).map impl_Sealed.e:=by
 rw [impl_Sealed.f];exact (impl_Sealed.te _ k a0).trans (cd rfl (bn (fun t1=>(cd rfl rfl))))
theorem impl_Sealed.con (k : Nat) (a0 : ByteArray) (r) (h : impl_Sealed.f k a0 = some r) : Contract Tryz.prog kit 100 [.sc (.string a0)] [] (impl_Sealed.e r).1 (impl_Sealed.e r).2.1 (impl_Sealed.e r).2.2 :=
 con_okG kitOk mix (fun k=>(CtxOk.cons (impl_SumOf.xok k) CtxOk.nil)) (impl_Sealed.oke k a0) h (by kernel_rfl) (by kernel_rfl) (by kernel_rfl) rfl (by kernel_rfl) rfl rfl
def impl_Sealed.x (k : Nat) : X:=fun ins bs κ=>match ins,bs with
 | [.sc (.string a0)],[]=>(impl_Sealed.f k a0).bind fun r=>κ (impl_Sealed.e r).1 (impl_Sealed.e r).2.1 (impl_Sealed.e r).2.2
 | _,_=>none
theorem impl_Sealed.xok (k : Nat) : XOk 100 (impl_Sealed.x k):=by
 intro ins bs κ res h;unfold impl_Sealed.x at h
 split at h
 ·obtain ⟨r,hr,h⟩:=Option.bind_eq_some_iff.1 h;exact ⟨_,_,_,impl_Sealed.con k _ r hr,h⟩
 cases h
def impl_Unsealed.sp : Nat → Option (Spec Ty):=fun r=>none
def impl_Unsealed.en : Option (Spec Ty):=none
def impl_Unsealed.ctx (k : Nat) : Ctx Ty D:=(cons 100 (impl_Sealed.x k) (fun _ _ _ _=>none))
def impl_Unsealed.f (k : Nat) (a0 : ByteArray) : Option (ByteArray × Bool):=(if (a0.size : Int) < 4 then (some ((⟨#[]⟩ : ByteArray),false)) else (if 0 ≤ (w64 ((a0.size : Int) - 4)) then (if (w64 ((a0.size : Int) - 4)) ≤ (a0.size : Int) then ((impl_Sealed.f k (a0.extract 0 ((w64 ((a0.size : Int) - 4)).toNat))).bind fun t1=>(if t1.2 = true then (if (seq t1.1 a0) = true then (some ((a0.extract 0 ((w64 ((a0.size : Int) - 4)).toNat)),true)) else (some ((⟨#[]⟩ : ByteArray),false))) else (some ((⟨#[]⟩ : ByteArray),false)))) else none) else none))
def impl_Unsealed.e (r : ByteArray × Bool) : Res Ty D:=(.tu [.sc (.string r.1),.sc (.bool r.2)],[],[])
abbrev impl_Unsealed.g (rec : List Item → St Ty D → R) (k : Nat):=go1 Tryz.f89 (impl_Unsealed.ctx k) impl_Unsealed.sp 0 impl_Unsealed.en rec
theorem impl_Unsealed.te (rec : List Item → St Ty D → R) (k : Nat) (a0 : ByteArray) : impl_Unsealed.g rec k [.code (body Tryz.f89)] (startSt [.sc (.string a0)] []) =
 bif decide ((a0.size : Int) < 4) then some (impl_Unsealed.e ((⟨#[]⟩ : ByteArray),false)) else bif decide (0 ≤ (w64 ((a0.size : Int) - 4))) then bif decide ((w64 ((a0.size : Int) - 4)) ≤ (a0.size : Int)) then (impl_Sealed.f k (a0.extract 0 ((w64 ((a0.size : Int) - 4)).toNat))).bind fun t1=>bif !t1.2 then some (impl_Unsealed.e ((⟨#[]⟩ : ByteArray),false)) else bif !(seq t1.1 a0) then some (impl_Unsealed.e ((⟨#[]⟩ : ByteArray),false)) else some (impl_Unsealed.e ((a0.extract 0 ((w64 ((a0.size : Int) - 4)).toNat)),true)) else none else none:=by kernel_rfl
theorem impl_Unsealed.oke (k : Nat) (a0 : ByteArray) : goF Tryz.f89 impl_Unsealed.ctx impl_Unsealed.sp 0 impl_Unsealed.en (k + 1) [.code (body Tryz.f89)] (startSt [.sc (.string a0)] []) = (impl_Unsealed.f k a0).map impl_Unsealed.e:=by
 rw [impl_Unsealed.f];exact (impl_Unsealed.te _ k a0).trans (cd rfl (cd (cd (bn (fun t1=>(nb rfl (nb rfl rfl)))) rfl) rfl))
theorem impl_Unsealed.con (k : Nat) (a0 : ByteArray) (r) (h : impl_Unsealed.f k a0 = some r) : Contract Tryz.prog kit 89 [.sc (.string a0)] [] (impl_Unsealed.e r).1 (impl_Unsealed.e r).2.1 (impl_Unsealed.e r).2.2 :=
 con_okG kitOk mix (fun k=>(CtxOk.cons (impl_Sealed.xok k) CtxOk.nil)) (impl_Unsealed.oke k a0) h (by kernel_rfl) (by kernel_rfl) (by kernel_rfl) rfl (by kernel_rfl) rfl rfl
def impl_Unsealed.x (k : Nat) : X:=fun ins bs κ=>match ins,bs with
 | [.sc (.string a0)],[]=>(impl_Unsealed.f k a0).bind fun r=>κ (impl_Unsealed.e r).1 (impl_Unsealed.e r).2.1 (impl_Unsealed.e r).2.2
 | _,_=>none
theorem impl_Unsealed.xok (k : Nat) : XOk 89 (impl_Unsealed.x k):=by
 intro ins bs κ res h;unfold impl_Unsealed.x at h
 split at h
 ·obtain ⟨r,hr,h⟩:=Option.bind_eq_some_iff.1 h;exact ⟨_,_,_,impl_Unsealed.con k _ r hr,h⟩
 cases h
def impl_ReadVar.sp : Nat → Option (Spec Ty):=fun r=>bif Nat.beq r 3 then some ⟨[(0,.keep),(1,.keep),(7,.keep),(8,.keep)],[]⟩ else none
def impl_ReadVar.en : Option (Spec Ty):=none
def impl_ReadVar.s3 (x0 : ByteArray) (x1 : Int) (x7 : Int) (x8 : Int) : St Ty D:=⟨(Env.put (Env.put (Env.put (Env.put E (some 0) (.sc (.string x0))) (some 1) (.sc (.int .i64 x1))) (some 7) (.sc (.int .i64 x7))) (some 8) (.sc (.int .i64 x8))),H0,1000⟩
def impl_ReadVar.ctx (k : Nat) : Ctx Ty D:=(fun _ _ _ _=>none)
def impl_ReadVar.c3 : Nat → ByteArray → Int → Int → Int → Option (Int × Int × Bool)
 | 0,_,_,_,_=>none
 | k + 1,x0,x1,x7,x8=>(if x8 < 5 then (if x1 ≥ 0 then (if x1 < (w64 ((x0.size : Int) - x8)) then (if 0 ≤ (w64 (x1 + x8)) then (if (w64 (x1 + x8)) < (x0.size : Int) then (if 0 ≤ (w64 (7 * x8)) then (if (w64 ((bt x0 (w64 (x1 + x8))))) ≥ 128 then (impl_ReadVar.c3 k x0 x1 (w64 (x7 + (w64 ((Int.tmod (w64 ((bt x0 (w64 (x1 + x8))))) 128) * 2 ^ (min (w64 (7 * x8)).toNat 64))))) (w64 (x8 + 1))) else (if (w64 ((bt x0 (w64 (x1 + x8))))) = 0 then (if x8 > 0 then (some (0,0,false)) else (if (w64 (x7 + (w64 ((Int.tmod (w64 ((bt x0 (w64 (x1 + x8))))) 128) * 2 ^ (min (w64 (7 * x8)).toNat 64))))) > 1000000000 then (some (0,0,false)) else (some ((w64 (x7 + (w64 ((Int.tmod (w64 ((bt x0 (w64 (x1 + x8))))) 128) * 2 ^ (min (w64 (7 * x8)).toNat 64))))),(w64 ((w64 (x1 + x8)) + 1)),true)))) else (if (w64 (x7 + (w64 ((Int.tmod (w64 ((bt x0 (w64 (x1 + x8))))) 128) * 2 ^ (min (w64 (7 * x8)).toNat 64))))) > 1000000000 then (some (0,0,false)) else (some ((w64 (x7 + (w64 ((Int.tmod (w64 ((bt x0 (w64 (x1 + x8))))) 128) * 2 ^ (min (w64 (7 * x8)).toNat 64))))),(w64 ((w64 (x1 + x8)) + 1)),true))))) else none) else none) else none) else (some (0,0,false))) else (some (0,0,false))) else (some (0,0,false)))
def impl_ReadVar.f (k : Nat) (a0 : ByteArray) (a1 : Int) : Option (Int × Int × Bool):=(impl_ReadVar.c3 k a0 a1 0 0)
def impl_ReadVar.e (r : Int × Int × Bool) : Res Ty D:=(.tu [.sc (.int .i64 r.1),.sc (.int .i64 r.2.1),.sc (.bool r.2.2)],[],[])
abbrev impl_ReadVar.g (rec : List Item → St Ty D → R) (k : Nat):=go1 Tryz.f90 (impl_ReadVar.ctx k) impl_ReadVar.sp 0 impl_ReadVar.en rec
theorem impl_ReadVar.t3 (rec : List Item → St Ty D → R) (k : Nat) (x0 : ByteArray) (x1 : Int) (x7 : Int) (x8 : Int) : impl_ReadVar.g rec k (td Tryz.f90 3) (impl_ReadVar.s3 x0 x1 x7 x8) =
 bif decide (x8 < 5) then bif decide (x1 ≥ 0) then bif decide (x1 < (w64 ((x0.size : Int) - x8))) then bif decide (0 ≤ (w64 (x1 + x8))) then bif decide ((w64 (x1 + x8)) < (x0.size : Int)) then bif decide (0 ≤ (w64 (7 * x8))) then bif decide ((w64 ((bt x0 (w64 (x1 + x8))))) ≥ 128) then rec (td Tryz.f90 3) (impl_ReadVar.s3 x0 x1 (w64 (x7 + (w64 ((Int.tmod (w64 ((bt x0 (w64 (x1 + x8))))) 128) * 2 ^ (min (w64 (7 * x8)).toNat 64))))) (w64 (x8 + 1))) else bif decide ((w64 ((bt x0 (w64 (x1 + x8))))) = 0) then bif decide (x8 > 0) then some (impl_ReadVar.e (0,0,false)) else bif decide ((w64 (x7 + (w64 ((Int.tmod (w64 ((bt x0 (w64 (x1 + x8))))) 128) * 2 ^ (min (w64 (7 * x8)).toNat 64))))) > 1000000000) then some (impl_ReadVar.e (0,0,false)) else some (impl_ReadVar.e ((w64 (x7 + (w64 ((Int.tmod (w64 ((bt x0 (w64 (x1 + x8))))) 128) * 2 ^ (min (w64 (7 * x8)).toNat 64))))),(w64 ((w64 (x1 + x8)) + 1)),true)) else bif decide ((w64 (x7 + (w64 ((Int.tmod (w64 ((bt x0 (w64 (x1 + x8))))) 128) * 2 ^ (min (w64 (7 * x8)).toNat 64))))) > 1000000000) then some (impl_ReadVar.e (0,0,false)) else some (impl_ReadVar.e ((w64 (x7 + (w64 ((Int.tmod (w64 ((bt x0 (w64 (x1 + x8))))) 128) * 2 ^ (min (w64 (7 * x8)).toNat 64))))),(w64 ((w64 (x1 + x8)) + 1)),true)) else none else none else none else some (impl_ReadVar.e (0,0,false)) else some (impl_ReadVar.e (0,0,false)) else some (impl_ReadVar.e (0,0,false)):=by kernel_rfl
theorem impl_ReadVar.te (rec : List Item → St Ty D → R) (k : Nat) (a0 : ByteArray) (a1 : Int) : impl_ReadVar.g rec k [.code (body Tryz.f90)] (startSt [.sc (.string a0),.sc (.int .i64 a1)] []) =
 rec (td Tryz.f90 3) (impl_ReadVar.s3 a0 a1 0 0):=by kernel_rfl
theorem impl_ReadVar.ok : ∀ k : Nat,(∀ (x0 : ByteArray) (x1 : Int) (x7 : Int) (x8 : Int),goF Tryz.f90 impl_ReadVar.ctx impl_ReadVar.sp 0 impl_ReadVar.en k (td Tryz.f90 3) (impl_ReadVar.s3 x0 x1 x7 x8) = (impl_ReadVar.c3 k x0 x1 x7 x8).map impl_ReadVar.e)
 | 0=>fun _ _ _ _=>rfl
 | k + 1=>by
  have ih:=impl_ReadVar.ok k;have i3:=ih;intro x0 x1 x7 x8;rw [impl_ReadVar.c3];exact (impl_ReadVar.t3 _ k x0 x1 x7 x8).trans (cd (cd (cd (cd (cd (cd (cd (i3 _ _ _ _) (cd (cd rfl (cd rfl rfl)) (cd rfl rfl))) rfl) rfl) rfl) rfl) rfl) rfl)
theorem impl_ReadVar.oke (k : Nat) (a0 : ByteArray) (a1 : Int) : goF Tryz.f90 impl_ReadVar.ctx impl_ReadVar.sp 0 impl_ReadVar.en (k + 1) [.code (body Tryz.f90)] (startSt [.sc (.string a0),.sc (.int .i64 a1)] []) = (impl_ReadVar.f k a0 a1).map impl_ReadVar.e:=by
 have i3:=impl_ReadVar.ok k;rw [impl_ReadVar.f];exact (impl_ReadVar.te _ k a0 a1).trans (i3 _ _ _ _)
theorem impl_ReadVar.con (k : Nat) (a0 : ByteArray) (a1 : Int) (r) (h : impl_ReadVar.f k a0 a1 = some r) : Contract Tryz.prog kit 90 [.sc (.string a0),.sc (.int .i64 a1)] [] (impl_ReadVar.e r).1 (impl_ReadVar.e r).2.1 (impl_ReadVar.e r).2.2 :=
 con_okG kitOk mix (fun k=>CtxOk.nil) (impl_ReadVar.oke k a0 a1) h (by kernel_rfl) (by kernel_rfl) (by kernel_rfl) rfl (by kernel_rfl) rfl rfl
def impl_ReadVar.x (k : Nat) : X:=fun ins bs κ=>match ins,bs with
 | [.sc (.string a0),.sc (.int .i64 a1)],[]=>(impl_ReadVar.f k a0 a1).bind fun r=>κ (impl_ReadVar.e r).1 (impl_ReadVar.e r).2.1 (impl_ReadVar.e r).2.2
 | _,_=>none
theorem impl_ReadVar.xok (k : Nat) : XOk 90 (impl_ReadVar.x k):=by
 intro ins bs κ res h;unfold impl_ReadVar.x at h
 split at h
 ·obtain ⟨r,hr,h⟩:=Option.bind_eq_some_iff.1 h;exact ⟨_,_,_,impl_ReadVar.con k _ _ r hr,h⟩
 cases h
def impl_PageOk.sp : Nat → Option (Spec Ty):=fun r=>none
def impl_PageOk.en : Option (Spec Ty):=none
def impl_PageOk.ctx (k : Nat) : Ctx Ty D:=(cons 49 (impl_in.x k) (fun _ _ _ _=>none))
def impl_PageOk.f (k : Nat) (a0_0 : Int) (a0_1 : Int) (a0_2 : Int) (a0_3 : Int) (a0_4 : Int) (a0_5 : ByteArray) : Option (Bool):=((impl_in.f k a0_1 1 1000000000).bind fun t1=>(if t1 = true then ((impl_in.f k a0_2 1 1000000000).bind fun t2=>(if t2 = true then ((impl_in.f k a0_4 1 9).bind fun t3=>(if t3 = true then ((impl_in.f k a0_3 0 (w64 (a0_4 - 1))).bind fun t4=>(if t4 = true then (if (a0_5.size : Int) > 90 then (some (false)) else (if a0_0 = 2 then (some (true)) else (if a0_0 = 1 then (some ((decide (a0_4 = 1)))) else (some (false))))) else (some (false)))) else (some (false)))) else (some (false)))) else (some (false))))
def impl_PageOk.e (r : Bool) : Res Ty D:=(.sc (.bool r),[],[])
abbrev impl_PageOk.g (rec : List Item → St Ty D → R) (k : Nat):=go1 Tryz.f91 (impl_PageOk.ctx k) impl_PageOk.sp 0 impl_PageOk.en rec
theorem impl_PageOk.te (rec : List Item → St Ty D → R) (k : Nat) (a0_0 : Int) (a0_1 : Int) (a0_2 : Int) (a0_3 : Int) (a0_4 : Int) (a0_5 : ByteArray) : impl_PageOk.g rec k [.code (body Tryz.f91)] (startSt [.ag [.sc (.int .i64 a0_0),.sc (.int .i64 a0_1),.sc (.int .i64 a0_2),.sc (.int .i64 a0_3),.sc (.int .i64 a0_4),.sc (.string a0_5)]] []) =
 (impl_in.f k a0_1 1 1000000000).bind fun t1=>bif !t1 then some (impl_PageOk.e (false)) else (impl_in.f k a0_2 1 1000000000).bind fun t2=>bif !t2 then some (impl_PageOk.e (false)) else (impl_in.f k a0_4 1 9).bind fun t3=>bif !t3 then some (impl_PageOk.e (false)) else (impl_in.f k a0_3 0 (w64 (a0_4 - 1))).bind fun t4=>bif !t4 then some (impl_PageOk.e (false)) else bif decide ((a0_5.size : Int) > 90) then some (impl_PageOk.e (false)) else bif decide (a0_0 = 2) then some (impl_PageOk.e (true)) else bif decide (a0_0 = 1) then some (impl_PageOk.e ((decide (a0_4 = 1)))) else some (impl_PageOk.e (false)):=by kernel_rfl
theorem impl_PageOk.oke (k : Nat) (a0_0 : Int) (a0_1 : Int) (a0_2 : Int) (a0_3 : Int) (a0_4 : Int) (a0_5 : ByteArray) : goF Tryz.f91 impl_PageOk.ctx impl_PageOk.sp 0 impl_PageOk.en (k + 1) [.code (body Tryz.f91)] (startSt [.ag [.sc (.int .i64 a0_0),.sc (.int .i64 a0_1),.sc (.int .i64 a0_2),.sc (.int .i64 a0_3),.sc (.int .i64 a0_4),.sc (.string a0_5)]] []) = (impl_PageOk.f k a0_0 a0_1 a0_2 a0_3 a0_4 a0_5).map impl_PageOk.e:=by
 rw [impl_PageOk.f];exact (impl_PageOk.te _ k a0_0 a0_1 a0_2 a0_3 a0_4 a0_5).trans (bn (fun t1=>(nb rfl (bn (fun t2=>(nb rfl (bn (fun t3=>(nb rfl (bn (fun t4=>(nb rfl (cd rfl (cd rfl (cd rfl rfl)))))))))))))))
theorem impl_PageOk.con (k : Nat) (a0_0 : Int) (a0_1 : Int) (a0_2 : Int) (a0_3 : Int) (a0_4 : Int) (a0_5 : ByteArray) (r) (h : impl_PageOk.f k a0_0 a0_1 a0_2 a0_3 a0_4 a0_5 = some r) : Contract Tryz.prog kit 91 [.ag [.sc (.int .i64 a0_0),.sc (.int .i64 a0_1),.sc (.int .i64 a0_2),.sc (.int .i64 a0_3),.sc (.int .i64 a0_4),.sc (.string a0_5)]] [] (impl_PageOk.e r).1 (impl_PageOk.e r).2.1 (impl_PageOk.e r).2.2 :=
 con_okG kitOk mix (fun k=>(CtxOk.cons (impl_in.xok k) CtxOk.nil)) (impl_PageOk.oke k a0_0 a0_1 a0_2 a0_3 a0_4 a0_5) h (by kernel_rfl) (by kernel_rfl) (by kernel_rfl) rfl (by kernel_rfl) rfl rfl
def impl_PageOk.x (k : Nat) : X:=fun ins bs κ=>match ins,bs with
 | [.ag [.sc (.int .i64 a0_0),.sc (.int .i64 a0_1),.sc (.int .i64 a0_2),.sc (.int .i64 a0_3),.sc (.int .i64 a0_4),.sc (.string a0_5)]],[]=>(impl_PageOk.f k a0_0 a0_1 a0_2 a0_3 a0_4 a0_5).bind fun r=>κ (impl_PageOk.e r).1 (impl_PageOk.e r).2.1 (impl_PageOk.e r).2.2
 | _,_=>none
theorem impl_PageOk.xok (k : Nat) : XOk 91 (impl_PageOk.x k):=by
 intro ins bs κ res h;unfold impl_PageOk.x at h
 split at h
 ·obtain ⟨r,hr,h⟩:=Option.bind_eq_some_iff.1 h;exact ⟨_,_,_,impl_PageOk.con k _ _ _ _ _ _ r hr,h⟩
 cases h
def impl_ReadPage.sp : Nat → Option (Spec Ty):=fun r=>bif Nat.beq r 7 then some ⟨[(2,.box [.keep,.keep,.keep,.keep,.keep,.keep]),(4,.keep),(6,.arr .t3),(7,.keep),(25,.keep)],[]⟩ else none
def impl_ReadPage.en : Option (Spec Ty):=none
def impl_ReadPage.s7 (x4 : ByteArray) (x7 : Int) (x25 : Int) (h64_0 : Int) (h64_1 : Int) (h64_2 : Int) (h64_3 : Int) (h64_4 : Int) (h64_5 : ByteArray) (h65 : List Int) : St Ty D:=⟨(Env.put (Env.put (Env.put (Env.put (Env.put E (some 2) (.pt 64 0 0)) (some 4) (.sc (.string x4))) (some 6) (.pt 65 0 0)) (some 7) (.sc (.int .i64 x7))) (some 25) (.sc (.int .i64 x25))),Heap.put H0 [(64,some (.box [.sc (.int .i64 h64_0),.sc (.int .i64 h64_1),.sc (.int .i64 h64_2),.sc (.int .i64 h64_3),.sc (.int .i64 h64_4),.sc (.string h64_5)])),(65,some (.rowb .t3 h65 0))],1000⟩
def impl_ReadPage.ctx (k : Nat) : Ctx Ty D:=(cons 89 (impl_Unsealed.x k) (cons 90 (impl_ReadVar.x k) (cons 91 (impl_PageOk.x k) (fun _ _ _ _=>none))))
def impl_ReadPage.c7 : Nat → ByteArray → Int → Int → Int → Int → Int → Int → Int → ByteArray → (List Int) → Option (Int × Int × Int × Int × Int × ByteArray × Bool)
 | 0,_,_,_,_,_,_,_,_,_,_=>none
 | k + 1,x4,x7,x25,h64_0,h64_1,h64_2,h64_3,h64_4,h64_5,h65=>(if x25 < 4 then ((impl_ReadVar.f k x4 x7).bind fun t2=>(if t2.2.2 = true then (if (Nat.beq 4 h65.length) = true then (if 0 ≤ x25 then (if x25 < (h65.length : Int) then (impl_ReadPage.c7 k x4 t2.2.1 (w64 (x25 + 1)) h64_0 h64_1 h64_2 h64_3 h64_4 h64_5 (h65.set x25.toNat t2.1)) else none) else none) else none) else (some (0,0,0,0,0,(⟨#[]⟩ : ByteArray),false)))) else (if 0 < (x4.size : Int) then (if (Nat.beq 4 h65.length) = true then (if 0 < (h65.length : Int) then (if (Nat.beq 4 h65.length) = true then (if 1 < (h65.length : Int) then (if (Nat.beq 4 h65.length) = true then (if 2 < (h65.length : Int) then (if (Nat.beq 4 h65.length) = true then (if 3 < (h65.length : Int) then (if 0 ≤ x7 then (if x7 ≤ (x4.size : Int) then ((impl_PageOk.f k (w64 ((bt x4 0))) (rd_T3 h65 0) (rd_T3 h65 1) (rd_T3 h65 2) (rd_T3 h65 3) (x4.extract x7.toNat x4.size)).bind fun t3=>(if t3 = true then (some ((w64 ((bt x4 0))),(rd_T3 h65 0),(rd_T3 h65 1),(rd_T3 h65 2),(rd_T3 h65 3),(x4.extract x7.toNat x4.size),true)) else (some (0,0,0,0,0,(⟨#[]⟩ : ByteArray),false)))) else none) else none) else none) else none) else none) else none) else none) else none) else none) else none) else none))
def impl_ReadPage.f (k : Nat) (a0 : ByteArray) : Option (Int × Int × Int × Int × Int × ByteArray × Bool):=((impl_Unsealed.f k a0).bind fun t1=>(if t1.2 = true then (if (seq t1.1 (⟨#[]⟩ : ByteArray)) = true then (some (0,0,0,0,0,(⟨#[]⟩ : ByteArray),false)) else (impl_ReadPage.c7 k t1.1 1 0 0 0 0 0 0 (⟨#[]⟩ : ByteArray) (List.replicate 4 z3))) else (some (0,0,0,0,0,(⟨#[]⟩ : ByteArray),false))))
def impl_ReadPage.e (r : Int × Int × Int × Int × Int × ByteArray × Bool) : Res Ty D:=(.tu [.ag [.sc (.int .i64 r.1),.sc (.int .i64 r.2.1),.sc (.int .i64 r.2.2.1),.sc (.int .i64 r.2.2.2.1),.sc (.int .i64 r.2.2.2.2.1),.sc (.string r.2.2.2.2.2.1)],.sc (.bool r.2.2.2.2.2.2)],[],[])
abbrev impl_ReadPage.g (rec : List Item → St Ty D → R) (k : Nat):=go1 Tryz.f77 (impl_ReadPage.ctx k) impl_ReadPage.sp 0 impl_ReadPage.en rec
theorem impl_ReadPage.t7 (rec : List Item → St Ty D → R) (k : Nat) (x4 : ByteArray) (x7 : Int) (x25 : Int) (h64_0 : Int) (h64_1 : Int) (h64_2 : Int) (h64_3 : Int) (h64_4 : Int) (h64_5 : ByteArray) (h65 : List Int) : impl_ReadPage.g rec k (td Tryz.f77 7) (impl_ReadPage.s7 x4 x7 x25 h64_0 h64_1 h64_2 h64_3 h64_4 h64_5 h65) =
 bif decide (x25 < 4) then (impl_ReadVar.f k x4 x7).bind fun t2=>bif !t2.2.2 then some (impl_ReadPage.e (0,0,0,0,0,(⟨#[]⟩ : ByteArray),false)) else bif (Nat.beq 4 h65.length) then bif decide (0 ≤ x25) then bif decide (x25 < (h65.length : Int)) then rec (td Tryz.f77 7) (impl_ReadPage.s7 x4 t2.2.1 (w64 (x25 + 1)) h64_0 h64_1 h64_2 h64_3 h64_4 h64_5 (h65.set x25.toNat t2.1)) else none else none else none else bif decide (0 < (x4.size : Int)) then bif (Nat.beq 4 h65.length) then bif decide (0 < (h65.length : Int)) then bif (Nat.beq 4 h65.length) then bif decide (1 < (h65.length : Int)) then bif (Nat.beq 4 h65.length) then bif decide (2 < (h65.length : Int)) then bif (Nat.beq 4 h65.length) then bif decide (3 < (h65.length : Int)) then bif decide (0 ≤ x7) then bif decide (x7 ≤ (x4.size : Int)) then (impl_PageOk.f k (w64 ((bt x4 0))) (rd_T3 h65 0) (rd_T3 h65 1) (rd_T3 h65 2) (rd_T3 h65 3) (x4.extract x7.toNat x4.size)).bind fun t3=>bif !t3 then some (impl_ReadPage.e (0,0,0,0,0,(⟨#[]⟩ : ByteArray),false)) else some (impl_ReadPage.e ((w64 ((bt x4 0))),(rd_T3 h65 0),(rd_T3 h65 1),(rd_T3 h65 2),(rd_T3 h65 3),(x4.extract x7.toNat x4.size),true)) else none else none else none else none else none else none else none else none else none else none else none:=by kernel_rfl
theorem impl_ReadPage.te (rec : List Item → St Ty D → R) (k : Nat) (a0 : ByteArray) : impl_ReadPage.g rec k [.code (body Tryz.f77)] (startSt [.sc (.string a0)] []) =
 (impl_Unsealed.f k a0).bind fun t1=>bif !t1.2 then some (impl_ReadPage.e (0,0,0,0,0,(⟨#[]⟩ : ByteArray),false)) else bif (seq t1.1 (⟨#[]⟩ : ByteArray)) then some (impl_ReadPage.e (0,0,0,0,0,(⟨#[]⟩ : ByteArray),false)) else rec (td Tryz.f77 7) (impl_ReadPage.s7 t1.1 1 0 0 0 0 0 0 (⟨#[]⟩ : ByteArray) (List.replicate 4 z3)):=by kernel_rfl
theorem impl_ReadPage.ok : ∀ k : Nat,(∀ (x4 : ByteArray) (x7 : Int) (x25 : Int) (h64_0 : Int) (h64_1 : Int) (h64_2 : Int) (h64_3 : Int) (h64_4 : Int) (h64_5 : ByteArray) (h65 : List Int),goF Tryz.f77 impl_ReadPage.ctx impl_ReadPage.sp 0 impl_ReadPage.en k (td Tryz.f77 7) (impl_ReadPage.s7 x4 x7 x25 h64_0 h64_1 h64_2 h64_3 h64_4 h64_5 h65) = (impl_ReadPage.c7 k x4 x7 x25 h64_0 h64_1 h64_2 h64_3 h64_4 h64_5 h65).map impl_ReadPage.e)
 | 0=>fun _ _ _ _ _ _ _ _ _ _=>rfl
 | k + 1=>by
  have ih:=impl_ReadPage.ok k;have i7:=ih;intro x4 x7 x25 h64_0 h64_1 h64_2 h64_3 h64_4 h64_5 h65;rw [impl_ReadPage.c7];exact (impl_ReadPage.t7 _ k x4 x7 x25 h64_0 h64_1 h64_2 h64_3 h64_4 h64_5 h65).trans (cd (bn (fun t2=>(nb rfl (cb (cd (cd (i7 _ _ _ _ _ _ _ _ _ _) rfl) rfl) rfl)))) (cd (cb (cd (cb (cd (cb (cd (cb (cd (cd (cd (bn (fun t3=>(nb rfl rfl))) rfl) rfl) rfl) rfl) rfl) rfl) rfl) rfl) rfl) rfl) rfl))
theorem impl_ReadPage.oke (k : Nat) (a0 : ByteArray) : goF Tryz.f77 impl_ReadPage.ctx impl_ReadPage.sp 0 impl_ReadPage.en (k + 1) [.code (body Tryz.f77)] (startSt [.sc (.string a0)] []) = (impl_ReadPage.f k a0).map impl_ReadPage.e:=by
 have i7:=impl_ReadPage.ok k;rw [impl_ReadPage.f];exact (impl_ReadPage.te _ k a0).trans (bn (fun t1=>(nb rfl (cb rfl (i7 _ _ _ _ _ _ _ _ _ _)))))
theorem impl_ReadPage.con (k : Nat) (a0 : ByteArray) (r) (h : impl_ReadPage.f k a0 = some r) : Contract Tryz.prog kit 77 [.sc (.string a0)] [] (impl_ReadPage.e r).1 (impl_ReadPage.e r).2.1 (impl_ReadPage.e r).2.2 :=
 con_okG kitOk mix (fun k=>(CtxOk.cons (impl_Unsealed.xok k) (CtxOk.cons (impl_ReadVar.xok k) (CtxOk.cons (impl_PageOk.xok k) CtxOk.nil)))) (impl_ReadPage.oke k a0) h (by kernel_rfl) (by kernel_rfl) (by kernel_rfl) rfl (by kernel_rfl) rfl rfl
def impl_ReadPage.x (k : Nat) : X:=fun ins bs κ=>match ins,bs with
 | [.sc (.string a0)],[]=>(impl_ReadPage.f k a0).bind fun r=>κ (impl_ReadPage.e r).1 (impl_ReadPage.e r).2.1 (impl_ReadPage.e r).2.2
 | _,_=>none
theorem impl_ReadPage.xok (k : Nat) : XOk 77 (impl_ReadPage.x k):=by
 intro ins bs κ res h;unfold impl_ReadPage.x at h
 split at h
 ·obtain ⟨r,hr,h⟩:=Option.bind_eq_some_iff.1 h;exact ⟨_,_,_,impl_ReadPage.con k _ r hr,h⟩
 cases h
def impl_ScanAll.sp : Nat → Option (Spec Ty):=fun r=>bif Nat.beq r 3 then some ⟨[(3,.box [.own .t75]),(11,.keep),(12,.keep),(13,.keep)],[]⟩ else bif Nat.beq r 6 then some ⟨[(3,.box [.own .t75]),(4,.keep),(11,.keep),(12,.keep),(13,.keep),(19,.keep),(20,.keep),(21,.keep)],[]⟩ else none
def impl_ScanAll.en : Option (Spec Ty):=some ⟨[(2,.own .t75)],[]⟩
def impl_ScanAll.s3 (x11 : List S68) (x12 : Int) (x13 : Int) (h65 : List S75) : St Ty D:=⟨(Env.put (Env.put (Env.put (Env.put E (some 3) (.pt 64 0 0)) (some 11) (.row 0 .t68 x11)) (some 12) (.sc (.int .i64 x12))) (some 13) (.sc (.int .i64 x13))),Heap.put H0 [(65,some (.rowb .t75 h65 0)),(64,some (.box [.sl 65 none]))],1000⟩
def impl_ScanAll.s6 (x4 : Int) (x11 : List S68) (x12 : Int) (x13 : Int) (x19 : List S96) (x20 : Int) (x21 : Int) (h65 : List S75) : St Ty D:=⟨(Env.put (Env.put (Env.put (Env.put (Env.put (Env.put (Env.put (Env.put E (some 3) (.pt 64 0 0)) (some 4) (.sc (.int .i64 x4))) (some 11) (.row 0 .t68 x11)) (some 12) (.sc (.int .i64 x12))) (some 13) (.sc (.int .i64 x13))) (some 19) (.row 0 .t96 x19)) (some 20) (.sc (.int .i64 x20))) (some 21) (.sc (.int .i64 x21))),Heap.put H0 [(65,some (.rowb .t75 h65 0)),(64,some (.box [.sl 65 none]))],1000⟩
def impl_ScanAll.ctx (k : Nat) : Ctx Ty D:=(cons 77 (impl_ReadPage.x k) (fun _ _ _ _=>none))
mutual
def impl_ScanAll.c3 : Nat → (List S68) → Int → Int → (List S75) → Option ((List S75))
 | 0,_,_,_,_=>none
 | k + 1,x11,x12,x13,h65=>(if x13 < x12 then (if 0 ≤ x13 then (if x13 < (x11.length : Int) then (impl_ScanAll.c6 k x13 x11 x12 x13 ((rd_T68 x11 x13).f2) (((rd_T68 x11 x13).f2).length : Int) 0 h65) else none) else none) else (if h65.length ≤ 576460752303423488 then (some ((lsort75 h65))) else none))
def impl_ScanAll.c6 : Nat → Int → (List S68) → Int → Int → (List S96) → Int → Int → (List S75) → Option ((List S75))
 | 0,_,_,_,_,_,_,_,_=>none
 | k + 1,x4,x11,x12,x13,x19,x20,x21,h65=>(if x21 < x20 then (if 0 ≤ x21 then (if x21 < (x19.length : Int) then ((impl_ReadPage.f k ((rd_T96 x19 x21).f1)).bind fun t1=>(if t1.2.2.2.2.2.2 = true then (if ((rd_T96 x19 x21).f0) = 1 then (if h65.length + ([(S75.mk x4 x21 (S71.mk t1.1 t1.2.1 t1.2.2.1 t1.2.2.2.1 t1.2.2.2.2.1 t1.2.2.2.2.2.1))] : List S75).length ≤ 1954687338268 then (impl_ScanAll.c6 k x4 x11 x12 x13 x19 x20 (w64 (x21 + 1)) (h65 ++ ([(S75.mk x4 x21 (S71.mk t1.1 t1.2.1 t1.2.2.1 t1.2.2.2.1 t1.2.2.2.2.1 t1.2.2.2.2.2.1))] : List S75))) else none) else (impl_ScanAll.c6 k x4 x11 x12 x13 x19 x20 (w64 (x21 + 1)) h65)) else (impl_ScanAll.c6 k x4 x11 x12 x13 x19 x20 (w64 (x21 + 1)) h65))) else none) else none) else (impl_ScanAll.c3 k x11 x12 (w64 (x13 + 1)) h65))
end
def impl_ScanAll.f (k : Nat) (a0_0 : List S68) : Option ((List S75)):=(impl_ScanAll.c3 k a0_0 (a0_0.length : Int) 0 ([] : List S75))
def impl_ScanAll.e (r : (List S75)) : Res Ty D:=(.sl 0 none,[],[.rowb .t75 r 0])
abbrev impl_ScanAll.g (rec : List Item → St Ty D → R) (k : Nat):=go1 Tryz.f53 (impl_ScanAll.ctx k) impl_ScanAll.sp 0 impl_ScanAll.en rec
theorem impl_ScanAll.t3 (rec : List Item → St Ty D → R) (k : Nat) (x11 : List S68) (x12 : Int) (x13 : Int) (h65 : List S75) : impl_ScanAll.g rec k (td Tryz.f53 3) (impl_ScanAll.s3 x11 x12 x13 h65) =
 bif decide (x13 < x12) then bif decide (0 ≤ x13) then bif decide (x13 < (x11.length : Int)) then rec (td Tryz.f53 6) (impl_ScanAll.s6 x13 x11 x12 x13 ((rd_T68 x11 x13).f2) (((rd_T68 x11 x13).f2).length : Int) 0 h65) else none else none else bif decide (h65.length ≤ 576460752303423488) then some (impl_ScanAll.e ((lsort75 h65))) else none:=by kernel_rfl
theorem impl_ScanAll.t6 (rec : List Item → St Ty D → R) (k : Nat) (x4 : Int) (x11 : List S68) (x12 : Int) (x13 : Int) (x19 : List S96) (x20 : Int) (x21 : Int) (h65 : List S75) : impl_ScanAll.g rec k (td Tryz.f53 6) (impl_ScanAll.s6 x4 x11 x12 x13 x19 x20 x21 h65) =
 bif decide (x21 < x20) then bif decide (0 ≤ x21) then bif decide (x21 < (x19.length : Int)) then (impl_ReadPage.f k ((rd_T96 x19 x21).f1)).bind fun t1=>bif t1.2.2.2.2.2.2 then bif decide (((rd_T96 x19 x21).f0) = 1) then bif decide (h65.length + ([(S75.mk x4 x21 (S71.mk t1.1 t1.2.1 t1.2.2.1 t1.2.2.2.1 t1.2.2.2.2.1 t1.2.2.2.2.2.1))] : List S75).length ≤ 1954687338268) then rec (td Tryz.f53 6) (impl_ScanAll.s6 x4 x11 x12 x13 x19 x20 (w64 (x21 + 1)) (h65 ++ ([(S75.mk x4 x21 (S71.mk t1.1 t1.2.1 t1.2.2.1 t1.2.2.2.1 t1.2.2.2.2.1 t1.2.2.2.2.2.1))] : List S75))) else none else rec (td Tryz.f53 6) (impl_ScanAll.s6 x4 x11 x12 x13 x19 x20 (w64 (x21 + 1)) h65) else rec (td Tryz.f53 6) (impl_ScanAll.s6 x4 x11 x12 x13 x19 x20 (w64 (x21 + 1)) h65) else none else none else rec (td Tryz.f53 3) (impl_ScanAll.s3 x11 x12 (w64 (x13 + 1)) h65):=by kernel_rfl
theorem impl_ScanAll.te (rec : List Item → St Ty D → R) (k : Nat) (a0_0 : List S68) : impl_ScanAll.g rec k [.code (body Tryz.f53)] (startSt [.ag [.row 0 .t68 a0_0]] []) =
 rec (td Tryz.f53 3) (impl_ScanAll.s3 a0_0 (a0_0.length : Int) 0 ([] : List S75)):=by kernel_rfl
theorem impl_ScanAll.ok : ∀ k : Nat,(∀ (x11 : List S68) (x12 : Int) (x13 : Int) (h65 : List S75),goF Tryz.f53 impl_ScanAll.ctx impl_ScanAll.sp 0 impl_ScanAll.en k (td Tryz.f53 3) (impl_ScanAll.s3 x11 x12 x13 h65) = (impl_ScanAll.c3 k x11 x12 x13 h65).map impl_ScanAll.e) ∧ (∀ (x4 : Int) (x11 : List S68) (x12 : Int) (x13 : Int) (x19 : List S96) (x20 : Int) (x21 : Int) (h65 : List S75),goF Tryz.f53 impl_ScanAll.ctx impl_ScanAll.sp 0 impl_ScanAll.en k (td Tryz.f53 6) (impl_ScanAll.s6 x4 x11 x12 x13 x19 x20 x21 h65) = (impl_ScanAll.c6 k x4 x11 x12 x13 x19 x20 x21 h65).map impl_ScanAll.e)
 | 0=>⟨fun _ _ _ _=>rfl,fun _ _ _ _ _ _ _ _=>rfl⟩
 | k + 1=>by
  have ih:=impl_ScanAll.ok k;obtain ⟨i3,i6⟩:=ih;refine ⟨?_,?_⟩
  ·intro x11 x12 x13 h65;rw [impl_ScanAll.c3];exact (impl_ScanAll.t3 _ k x11 x12 x13 h65).trans (cd (cd (cd (i6 _ _ _ _ _ _ _ _) rfl) rfl) (cd rfl rfl))
  intro x4 x11 x12 x13 x19 x20 x21 h65;rw [impl_ScanAll.c6];exact (impl_ScanAll.t6 _ k x4 x11 x12 x13 x19 x20 x21 h65).trans (cd (cd (cd (bn (fun t1=>(cb (cd (cd (i6 _ _ _ _ _ _ _ _) rfl) (i6 _ _ _ _ _ _ _ _)) (i6 _ _ _ _ _ _ _ _)))) rfl) rfl) (i3 _ _ _ _))
theorem impl_ScanAll.oke (k : Nat) (a0_0 : List S68) : goF Tryz.f53 impl_ScanAll.ctx impl_ScanAll.sp 0 impl_ScanAll.en (k + 1) [.code (body Tryz.f53)] (startSt [.ag [.row 0 .t68 a0_0]] []) = (impl_ScanAll.f k a0_0).map impl_ScanAll.e:=by
 obtain ⟨i3,i6⟩:=impl_ScanAll.ok k;rw [impl_ScanAll.f];exact (impl_ScanAll.te _ k a0_0).trans (i3 _ _ _ _)
theorem impl_ScanAll.con (k : Nat) (a0_0 : List S68) (r) (h : impl_ScanAll.f k a0_0 = some r) : Contract Tryz.prog kit 53 [.ag [.row 0 .t68 a0_0]] [] (impl_ScanAll.e r).1 (impl_ScanAll.e r).2.1 (impl_ScanAll.e r).2.2 :=
 con_okG kitOk mix (fun k=>(CtxOk.cons (impl_ReadPage.xok k) CtxOk.nil)) (impl_ScanAll.oke k a0_0) h (by kernel_rfl) (by kernel_rfl) (by kernel_rfl) rfl (by kernel_rfl) rfl rfl
def impl_ScanAll.x (k : Nat) : X:=fun ins bs κ=>match ins,bs with
 | [.ag [.row 0 .t68 a0_0]],[]=>(impl_ScanAll.f k a0_0).bind fun r=>κ (impl_ScanAll.e r).1 (impl_ScanAll.e r).2.1 (impl_ScanAll.e r).2.2
 | _,_=>none
theorem impl_ScanAll.xok (k : Nat) : XOk 53 (impl_ScanAll.x k):=by
 intro ins bs κ res h;unfold impl_ScanAll.x at h
 split at h
 ·obtain ⟨r,hr,h⟩:=Option.bind_eq_some_iff.1 h;exact ⟨_,_,_,impl_ScanAll.con k _ r hr,h⟩
 cases h
end
end Go.Proofs.YtbbfkodckpfjcaaGreat.M2

namespace Go.Proofs.YtbbfkodckpfjcaaGreat.M2
open Go Go.Proofs.YtbbfkodckpfjcaaGreat.PK
set_option linter.unusedVariables false
set_option linter.unusedSimpArgs false
set_option maxHeartbeats 4000000
set_option maxRecDepth 100000
noncomputable section
def impl_dataOf.sp : Nat → Option (Spec Ty):=fun r=>bif Nat.beq r 4 then some ⟨[(1,.keep),(4,.box [.keep,.keep,.keep,.keep,.keep,.keep,.keep,.keep]),(6,.box [.keep,.keep,.keep,.keep,.keep,.keep,.keep,.keep]),(7,.keep),(11,.own .t75),(12,.keep),(13,.keep)],[]⟩ else none
def impl_dataOf.en : Option (Spec Ty):=none
def impl_dataOf.s4 (x1 : Int) (x7 : Bool) (x12 : Int) (x13 : Int) (h64_0 : Int) (h64_1 : Int) (h64_2 : Int) (h64_3 : Int) (h64_4 : Int) (h64_5 : Int) (h64_6 : Int) (h64_7 : ByteArray) (h65_0 : Int) (h65_1 : Int) (h65_2 : Int) (h65_3 : Int) (h65_4 : Int) (h65_5 : Int) (h65_6 : Int) (h65_7 : ByteArray) (h66 : List S75) : St Ty D:=⟨(Env.put (Env.put (Env.put (Env.put (Env.put (Env.put (Env.put E (some 1) (.sc (.int .i64 x1))) (some 4) (.pt 64 0 0)) (some 6) (.pt 65 0 0)) (some 7) (.sc (.bool x7))) (some 11) (.sl 66 none)) (some 12) (.sc (.int .i64 x12))) (some 13) (.sc (.int .i64 x13))),Heap.put H0 [(64,some (.box [.sc (.int .i64 h64_0),.sc (.int .i64 h64_1),.sc (.int .i64 h64_2),.sc (.int .i64 h64_3),.sc (.int .i64 h64_4),.sc (.int .i64 h64_5),.sc (.int .i64 h64_6),.sc (.string h64_7)])),(65,some (.box [.sc (.int .i64 h65_0),.sc (.int .i64 h65_1),.sc (.int .i64 h65_2),.sc (.int .i64 h65_3),.sc (.int .i64 h65_4),.sc (.int .i64 h65_5),.sc (.int .i64 h65_6),.sc (.string h65_7)])),(66,some (.rowb .t75 h66 0))],1000⟩
def impl_dataOf.ctx (k : Nat) : Ctx Ty D:=(cons 53 (impl_ScanAll.x k) (fun _ _ _ _=>none))
def impl_dataOf.c4 : Nat → Int → Bool → Int → Int → Int → Int → Int → Int → Int → Int → Int → ByteArray → Int → Int → Int → Int → Int → Int → Int → ByteArray → (List S75) → Option (Int × Int × Int × Int × Int × Int × Int × ByteArray × Bool)
 | 0,_,_,_,_,_,_,_,_,_,_,_,_,_,_,_,_,_,_,_,_,_=>none
 | k + 1,x1,x7,x12,x13,h64_0,h64_1,h64_2,h64_3,h64_4,h64_5,h64_6,h64_7,h65_0,h65_1,h65_2,h65_3,h65_4,h65_5,h65_6,h65_7,h66=>(if x13 < x12 then (if 0 ≤ x13 then (if x13 < (h66.length : Int) then (if ((rd_T75 h66 x13).f2.f0) = 1 then (if ((rd_T75 h66 x13).f2.f2) = x1 then (if x7 = true then (if ((rd_T75 h66 x13).f2.f1) ≥ h65_3 then (impl_dataOf.c4 k x1 true x12 (w64 (x13 + 1)) h64_0 h64_1 h64_2 h64_3 h64_4 h64_5 h64_6 h64_7 ((rd_T75 h66 x13).f0) ((rd_T75 h66 x13).f1) ((rd_T75 h66 x13).f2.f0) ((rd_T75 h66 x13).f2.f1) ((rd_T75 h66 x13).f2.f2) ((rd_T75 h66 x13).f2.f3) ((rd_T75 h66 x13).f2.f4) ((rd_T75 h66 x13).f2.f5) h66) else (impl_dataOf.c4 k x1 x7 x12 (w64 (x13 + 1)) h64_0 h64_1 h64_2 h64_3 h64_4 h64_5 h64_6 h64_7 h65_0 h65_1 h65_2 h65_3 h65_4 h65_5 h65_6 h65_7 h66)) else (impl_dataOf.c4 k x1 true x12 (w64 (x13 + 1)) h64_0 h64_1 h64_2 h64_3 h64_4 h64_5 h64_6 h64_7 ((rd_T75 h66 x13).f0) ((rd_T75 h66 x13).f1) ((rd_T75 h66 x13).f2.f0) ((rd_T75 h66 x13).f2.f1) ((rd_T75 h66 x13).f2.f2) ((rd_T75 h66 x13).f2.f3) ((rd_T75 h66 x13).f2.f4) ((rd_T75 h66 x13).f2.f5) h66)) else (impl_dataOf.c4 k x1 x7 x12 (w64 (x13 + 1)) h64_0 h64_1 h64_2 h64_3 h64_4 h64_5 h64_6 h64_7 h65_0 h65_1 h65_2 h65_3 h65_4 h65_5 h65_6 h65_7 h66)) else (impl_dataOf.c4 k x1 x7 x12 (w64 (x13 + 1)) h64_0 h64_1 h64_2 h64_3 h64_4 h64_5 h64_6 h64_7 h65_0 h65_1 h65_2 h65_3 h65_4 h65_5 h65_6 h65_7 h66)) else none) else none) else (some (h65_0,h65_1,h65_2,h65_3,h65_4,h65_5,h65_6,h65_7,x7)))
def impl_dataOf.f (k : Nat) (a0_0 : List S68) (a1 : Int) : Option (Int × Int × Int × Int × Int × Int × Int × ByteArray × Bool):=((impl_ScanAll.f k a0_0).bind fun t1=>(impl_dataOf.c4 k a1 false (t1.length : Int) 0 0 0 0 0 0 0 0 (⟨#[]⟩ : ByteArray) 0 0 0 0 0 0 0 (⟨#[]⟩ : ByteArray) t1))
def impl_dataOf.e (r : Int × Int × Int × Int × Int × Int × Int × ByteArray × Bool) : Res Ty D:=(.tu [.ag [.sc (.int .i64 r.1),.sc (.int .i64 r.2.1),.sc (.int .i64 r.2.2.1),.sc (.int .i64 r.2.2.2.1),.sc (.int .i64 r.2.2.2.2.1),.sc (.int .i64 r.2.2.2.2.2.1),.sc (.int .i64 r.2.2.2.2.2.2.1),.sc (.string r.2.2.2.2.2.2.2.1)],.sc (.bool r.2.2.2.2.2.2.2.2)],[],[])
abbrev impl_dataOf.g (rec : List Item → St Ty D → R) (k : Nat):=go1 Tryz.f32 (impl_dataOf.ctx k) impl_dataOf.sp 0 impl_dataOf.en rec
theorem impl_dataOf.t4 (rec : List Item → St Ty D → R) (k : Nat) (x1 : Int) (x7 : Bool) (x12 : Int) (x13 : Int) (h64_0 : Int) (h64_1 : Int) (h64_2 : Int) (h64_3 : Int) (h64_4 : Int) (h64_5 : Int) (h64_6 : Int) (h64_7 : ByteArray) (h65_0 : Int) (h65_1 : Int) (h65_2 : Int) (h65_3 : Int) (h65_4 : Int) (h65_5 : Int) (h65_6 : Int) (h65_7 : ByteArray) (h66 : List S75) : impl_dataOf.g rec k (td Tryz.f32 4) (impl_dataOf.s4 x1 x7 x12 x13 h64_0 h64_1 h64_2 h64_3 h64_4 h64_5 h64_6 h64_7 h65_0 h65_1 h65_2 h65_3 h65_4 h65_5 h65_6 h65_7 h66) =
 bif decide (x13 < x12) then bif decide (0 ≤ x13) then bif decide (x13 < (h66.length : Int)) then bif decide (((rd_T75 h66 x13).f2.f0) = 1) then bif decide (((rd_T75 h66 x13).f2.f2) = x1) then bif !x7 then rec (td Tryz.f32 4) (impl_dataOf.s4 x1 true x12 (w64 (x13 + 1)) h64_0 h64_1 h64_2 h64_3 h64_4 h64_5 h64_6 h64_7 ((rd_T75 h66 x13).f0) ((rd_T75 h66 x13).f1) ((rd_T75 h66 x13).f2.f0) ((rd_T75 h66 x13).f2.f1) ((rd_T75 h66 x13).f2.f2) ((rd_T75 h66 x13).f2.f3) ((rd_T75 h66 x13).f2.f4) ((rd_T75 h66 x13).f2.f5) h66) else bif decide (((rd_T75 h66 x13).f2.f1) ≥ h65_3) then rec (td Tryz.f32 4) (impl_dataOf.s4 x1 true x12 (w64 (x13 + 1)) h64_0 h64_1 h64_2 h64_3 h64_4 h64_5 h64_6 h64_7 ((rd_T75 h66 x13).f0) ((rd_T75 h66 x13).f1) ((rd_T75 h66 x13).f2.f0) ((rd_T75 h66 x13).f2.f1) ((rd_T75 h66 x13).f2.f2) ((rd_T75 h66 x13).f2.f3) ((rd_T75 h66 x13).f2.f4) ((rd_T75 h66 x13).f2.f5) h66) else rec (td Tryz.f32 4) (impl_dataOf.s4 x1 x7 x12 (w64 (x13 + 1)) h64_0 h64_1 h64_2 h64_3 h64_4 h64_5 h64_6 h64_7 h65_0 h65_1 h65_2 h65_3 h65_4 h65_5 h65_6 h65_7 h66) else rec (td Tryz.f32 4) (impl_dataOf.s4 x1 x7 x12 (w64 (x13 + 1)) h64_0 h64_1 h64_2 h64_3 h64_4 h64_5 h64_6 h64_7 h65_0 h65_1 h65_2 h65_3 h65_4 h65_5 h65_6 h65_7 h66) else rec (td Tryz.f32 4) (impl_dataOf.s4 x1 x7 x12 (w64 (x13 + 1)) h64_0 h64_1 h64_2 h64_3 h64_4 h64_5 h64_6 h64_7 h65_0 h65_1 h65_2 h65_3 h65_4 h65_5 h65_6 h65_7 h66) else none else none else some (impl_dataOf.e (h65_0,h65_1,h65_2,h65_3,h65_4,h65_5,h65_6,h65_7,x7)):=by kernel_rfl
theorem impl_dataOf.te (rec : List Item → St Ty D → R) (k : Nat) (a0_0 : List S68) (a1 : Int) : impl_dataOf.g rec k [.code (body Tryz.f32)] (startSt [.ag [.row 0 .t68 a0_0],.sc (.int .i64 a1)] []) =
 (impl_ScanAll.f k a0_0).bind fun t1=>rec (td Tryz.f32 4) (impl_dataOf.s4 a1 false (t1.length : Int) 0 0 0 0 0 0 0 0 (⟨#[]⟩ : ByteArray) 0 0 0 0 0 0 0 (⟨#[]⟩ : ByteArray) t1):=by kernel_rfl
theorem impl_dataOf.ok : ∀ k : Nat,(∀ (x1 : Int) (x7 : Bool) (x12 : Int) (x13 : Int) (h64_0 : Int) (h64_1 : Int) (h64_2 : Int) (h64_3 : Int) (h64_4 : Int) (h64_5 : Int) (h64_6 : Int) (h64_7 : ByteArray) (h65_0 : Int) (h65_1 : Int) (h65_2 : Int) (h65_3 : Int) (h65_4 : Int) (h65_5 : Int) (h65_6 : Int) (h65_7 : ByteArray) (h66 : List S75),goF Tryz.f32 impl_dataOf.ctx impl_dataOf.sp 0 impl_dataOf.en k (td Tryz.f32 4) (impl_dataOf.s4 x1 x7 x12 x13 h64_0 h64_1 h64_2 h64_3 h64_4 h64_5 h64_6 h64_7 h65_0 h65_1 h65_2 h65_3 h65_4 h65_5 h65_6 h65_7 h66) = (impl_dataOf.c4 k x1 x7 x12 x13 h64_0 h64_1 h64_2 h64_3 h64_4 h64_5 h64_6 h64_7 h65_0 h65_1 h65_2 h65_3 h65_4 h65_5 h65_6 h65_7 h66).map impl_dataOf.e)
 | 0=>fun _ _ _ _ _ _ _ _ _ _ _ _ _ _ _ _ _ _ _ _ _=>rfl
 | k + 1=>by
  have ih:=impl_dataOf.ok k;have i4:=ih;intro x1 x7 x12 x13 h64_0 h64_1 h64_2 h64_3 h64_4 h64_5 h64_6 h64_7 h65_0 h65_1 h65_2 h65_3 h65_4 h65_5 h65_6 h65_7 h66;rw [impl_dataOf.c4];exact (impl_dataOf.t4 _ k x1 x7 x12 x13 h64_0 h64_1 h64_2 h64_3 h64_4 h64_5 h64_6 h64_7 h65_0 h65_1 h65_2 h65_3 h65_4 h65_5 h65_6 h65_7 h66).trans (cd (cd (cd (cd (cd (nb (i4 _ _ _ _ _ _ _ _ _ _ _ _ _ _ _ _ _ _ _ _ _) (cd (i4 _ _ _ _ _ _ _ _ _ _ _ _ _ _ _ _ _ _ _ _ _) (i4 _ _ _ _ _ _ _ _ _ _ _ _ _ _ _ _ _ _ _ _ _))) (i4 _ _ _ _ _ _ _ _ _ _ _ _ _ _ _ _ _ _ _ _ _)) (i4 _ _ _ _ _ _ _ _ _ _ _ _ _ _ _ _ _ _ _ _ _)) rfl) rfl) rfl)
theorem impl_dataOf.oke (k : Nat) (a0_0 : List S68) (a1 : Int) : goF Tryz.f32 impl_dataOf.ctx impl_dataOf.sp 0 impl_dataOf.en (k + 1) [.code (body Tryz.f32)] (startSt [.ag [.row 0 .t68 a0_0],.sc (.int .i64 a1)] []) = (impl_dataOf.f k a0_0 a1).map impl_dataOf.e:=by
 have i4:=impl_dataOf.ok k;rw [impl_dataOf.f];exact (impl_dataOf.te _ k a0_0 a1).trans (bn (fun t1=>(i4 _ _ _ _ _ _ _ _ _ _ _ _ _ _ _ _ _ _ _ _ _)))
theorem impl_dataOf.con (k : Nat) (a0_0 : List S68) (a1 : Int) (r) (h : impl_dataOf.f k a0_0 a1 = some r) : Contract Tryz.prog kit 32 [.ag [.row 0 .t68 a0_0],.sc (.int .i64 a1)] [] (impl_dataOf.e r).1 (impl_dataOf.e r).2.1 (impl_dataOf.e r).2.2 :=
 con_okG kitOk mix (fun k=>(CtxOk.cons (impl_ScanAll.xok k) CtxOk.nil)) (impl_dataOf.oke k a0_0 a1) h (by kernel_rfl) (by kernel_rfl) (by kernel_rfl) rfl (by kernel_rfl) rfl rfl
def impl_dataOf.x (k : Nat) : X:=fun ins bs κ=>match ins,bs with
 | [.ag [.row 0 .t68 a0_0],.sc (.int .i64 a1)],[]=>(impl_dataOf.f k a0_0 a1).bind fun r=>κ (impl_dataOf.e r).1 (impl_dataOf.e r).2.1 (impl_dataOf.e r).2.2
 | _,_=>none
theorem impl_dataOf.xok (k : Nat) : XOk 32 (impl_dataOf.x k):=by
 intro ins bs κ res h;unfold impl_dataOf.x at h
 split at h
 ·obtain ⟨r,hr,h⟩:=Option.bind_eq_some_iff.1 h;exact ⟨_,_,_,impl_dataOf.con k _ _ r hr,h⟩
 cases h
def impl_tokensIn.sp : Nat → Option (Spec Ty):=fun r=>bif Nat.beq r 2 then some ⟨[(0,.keep),(4,.own .t133)],[]⟩ else none
def impl_tokensIn.en : Option (Spec Ty):=some ⟨[(2,.own .t133),(3,.keep)],[]⟩
def impl_tokensIn.s2 (x0 : ByteArray) (h64 : List S133) : St Ty D:=⟨(Env.put (Env.put E (some 0) (.sc (.string x0))) (some 4) (.sl 64 none)),Heap.put H0 [(64,some (.rowb .t133 h64 0))],1000⟩
def impl_tokensIn.ctx (k : Nat) : Ctx Ty D:=(fun _ _ _ _=>none)
def impl_tokensIn.c2 : Nat → ByteArray → (List S133) → Option ((List S133) × Bool)
 | 0,_,_=>none
 | k + 1,x0,h64=>(if (seq x0 (⟨#[]⟩ : ByteArray)) = true then (some (h64,true)) else (if 0 < (x0.size : Int) then (if (w64 ((bt x0 0))) ≥ 128 then (if (x0.size : Int) ≥ 2 then (if 1 < (x0.size : Int) then (if h64.length + ([(S133.mk (w64 ((bt x0 1))) (w64 ((w64 ((bt x0 0))) - 128)) (⟨#[]⟩ : ByteArray))] : List S133).length ≤ 4398046511104 then (if 2 ≤ (x0.size : Int) then (impl_tokensIn.c2 k (x0.extract 2 x0.size) (h64 ++ ([(S133.mk (w64 ((bt x0 1))) (w64 ((w64 ((bt x0 0))) - 128)) (⟨#[]⟩ : ByteArray))] : List S133))) else none) else none) else none) else (if (w64 ((bt x0 0))) < 128 then (if (w64 ((bt x0 0))) < (x0.size : Int) then (if 0 ≤ (w64 (1 + (w64 ((bt x0 0))))) then (if (w64 (1 + (w64 ((bt x0 0))))) ≤ (x0.size : Int) then (if 1 ≤ (w64 (1 + (w64 ((bt x0 0))))) then (if h64.length + ([(S133.mk 0 0 (x0.extract 1 ((w64 (1 + (w64 ((bt x0 0))))).toNat)))] : List S133).length ≤ 4398046511104 then (if 0 ≤ (w64 (1 + (w64 ((bt x0 0))))) then (if (w64 (1 + (w64 ((bt x0 0))))) ≤ (x0.size : Int) then (impl_tokensIn.c2 k (x0.extract ((w64 (1 + (w64 ((bt x0 0))))).toNat) x0.size) (h64 ++ ([(S133.mk 0 0 (x0.extract 1 ((w64 (1 + (w64 ((bt x0 0))))).toNat)))] : List S133))) else none) else none) else none) else none) else none) else none) else (some (([] : List S133),false))) else (some (([] : List S133),false)))) else (if (w64 ((bt x0 0))) < 128 then (if (w64 ((bt x0 0))) < (x0.size : Int) then (if 0 ≤ (w64 (1 + (w64 ((bt x0 0))))) then (if (w64 (1 + (w64 ((bt x0 0))))) ≤ (x0.size : Int) then (if 1 ≤ (w64 (1 + (w64 ((bt x0 0))))) then (if h64.length + ([(S133.mk 0 0 (x0.extract 1 ((w64 (1 + (w64 ((bt x0 0))))).toNat)))] : List S133).length ≤ 4398046511104 then (if 0 ≤ (w64 (1 + (w64 ((bt x0 0))))) then (if (w64 (1 + (w64 ((bt x0 0))))) ≤ (x0.size : Int) then (impl_tokensIn.c2 k (x0.extract ((w64 (1 + (w64 ((bt x0 0))))).toNat) x0.size) (h64 ++ ([(S133.mk 0 0 (x0.extract 1 ((w64 (1 + (w64 ((bt x0 0))))).toNat)))] : List S133))) else none) else none) else none) else none) else none) else none) else (some (([] : List S133),false))) else (some (([] : List S133),false)))) else none))
def impl_tokensIn.f (k : Nat) (a0 : ByteArray) : Option ((List S133) × Bool):=(impl_tokensIn.c2 k a0 ([] : List S133))
def impl_tokensIn.e (r : (List S133) × Bool) : Res Ty D:=(.tu [.sl 0 none,.sc (.bool r.2)],[],[.rowb .t133 r.1 0])
abbrev impl_tokensIn.g (rec : List Item → St Ty D → R) (k : Nat):=go1 Tryz.f54 (impl_tokensIn.ctx k) impl_tokensIn.sp 0 impl_tokensIn.en rec
theorem impl_tokensIn.t2 (rec : List Item → St Ty D → R) (k : Nat) (x0 : ByteArray) (h64 : List S133) : impl_tokensIn.g rec k (td Tryz.f54 2) (impl_tokensIn.s2 x0 h64) =
 bif !(seq x0 (⟨#[]⟩ : ByteArray)) then bif decide (0 < (x0.size : Int)) then bif decide ((w64 ((bt x0 0))) ≥ 128) then bif decide ((x0.size : Int) ≥ 2) then bif decide (1 < (x0.size : Int)) then bif decide (h64.length + ([(S133.mk (w64 ((bt x0 1))) (w64 ((w64 ((bt x0 0))) - 128)) (⟨#[]⟩ : ByteArray))] : List S133).length ≤ 4398046511104) then bif decide (2 ≤ (x0.size : Int)) then rec (td Tryz.f54 2) (impl_tokensIn.s2 (x0.extract 2 x0.size) (h64 ++ ([(S133.mk (w64 ((bt x0 1))) (w64 ((w64 ((bt x0 0))) - 128)) (⟨#[]⟩ : ByteArray))] : List S133))) else none else none else none else bif decide ((w64 ((bt x0 0))) < 128) then bif decide ((w64 ((bt x0 0))) < (x0.size : Int)) then bif decide (0 ≤ (w64 (1 + (w64 ((bt x0 0)))))) then bif decide ((w64 (1 + (w64 ((bt x0 0))))) ≤ (x0.size : Int)) then bif decide (1 ≤ (w64 (1 + (w64 ((bt x0 0)))))) then bif decide (h64.length + ([(S133.mk 0 0 (x0.extract 1 ((w64 (1 + (w64 ((bt x0 0))))).toNat)))] : List S133).length ≤ 4398046511104) then bif decide (0 ≤ (w64 (1 + (w64 ((bt x0 0)))))) then bif decide ((w64 (1 + (w64 ((bt x0 0))))) ≤ (x0.size : Int)) then rec (td Tryz.f54 2) (impl_tokensIn.s2 (x0.extract ((w64 (1 + (w64 ((bt x0 0))))).toNat) x0.size) (h64 ++ ([(S133.mk 0 0 (x0.extract 1 ((w64 (1 + (w64 ((bt x0 0))))).toNat)))] : List S133))) else none else none else none else none else none else none else some (impl_tokensIn.e (([] : List S133),false)) else some (impl_tokensIn.e (([] : List S133),false)) else bif decide ((w64 ((bt x0 0))) < 128) then bif decide ((w64 ((bt x0 0))) < (x0.size : Int)) then bif decide (0 ≤ (w64 (1 + (w64 ((bt x0 0)))))) then bif decide ((w64 (1 + (w64 ((bt x0 0))))) ≤ (x0.size : Int)) then bif decide (1 ≤ (w64 (1 + (w64 ((bt x0 0)))))) then bif decide (h64.length + ([(S133.mk 0 0 (x0.extract 1 ((w64 (1 + (w64 ((bt x0 0))))).toNat)))] : List S133).length ≤ 4398046511104) then bif decide (0 ≤ (w64 (1 + (w64 ((bt x0 0)))))) then bif decide ((w64 (1 + (w64 ((bt x0 0))))) ≤ (x0.size : Int)) then rec (td Tryz.f54 2) (impl_tokensIn.s2 (x0.extract ((w64 (1 + (w64 ((bt x0 0))))).toNat) x0.size) (h64 ++ ([(S133.mk 0 0 (x0.extract 1 ((w64 (1 + (w64 ((bt x0 0))))).toNat)))] : List S133))) else none else none else none else none else none else none else some (impl_tokensIn.e (([] : List S133),false)) else some (impl_tokensIn.e (([] : List S133),false)) else none else some (impl_tokensIn.e (h64,true)):=by kernel_rfl
theorem impl_tokensIn.te (rec : List Item → St Ty D → R) (k : Nat) (a0 : ByteArray) : impl_tokensIn.g rec k [.code (body Tryz.f54)] (startSt [.sc (.string a0)] []) =
 rec (td Tryz.f54 2) (impl_tokensIn.s2 a0 ([] : List S133)):=by kernel_rfl
theorem impl_tokensIn.ok : ∀ k : Nat,(∀ (x0 : ByteArray) (h64 : List S133),goF Tryz.f54 impl_tokensIn.ctx impl_tokensIn.sp 0 impl_tokensIn.en k (td Tryz.f54 2) (impl_tokensIn.s2 x0 h64) = (impl_tokensIn.c2 k x0 h64).map impl_tokensIn.e)
 | 0=>fun _ _=>rfl
 | k + 1=>by
  have ih:=impl_tokensIn.ok k;have i2:=ih;intro x0 h64;rw [impl_tokensIn.c2];exact (impl_tokensIn.t2 _ k x0 h64).trans (nb (cd (cd (cd (cd (cd (cd (i2 _ _) rfl) rfl) rfl) (cd (cd (cd (cd (cd (cd (cd (cd (i2 _ _) rfl) rfl) rfl) rfl) rfl) rfl) rfl) rfl)) (cd (cd (cd (cd (cd (cd (cd (cd (i2 _ _) rfl) rfl) rfl) rfl) rfl) rfl) rfl) rfl)) rfl) rfl)
theorem impl_tokensIn.oke (k : Nat) (a0 : ByteArray) : goF Tryz.f54 impl_tokensIn.ctx impl_tokensIn.sp 0 impl_tokensIn.en (k + 1) [.code (body Tryz.f54)] (startSt [.sc (.string a0)] []) = (impl_tokensIn.f k a0).map impl_tokensIn.e:=by
 have i2:=impl_tokensIn.ok k;rw [impl_tokensIn.f];exact (impl_tokensIn.te _ k a0).trans (i2 _ _)
theorem impl_tokensIn.con (k : Nat) (a0 : ByteArray) (r) (h : impl_tokensIn.f k a0 = some r) : Contract Tryz.prog kit 54 [.sc (.string a0)] [] (impl_tokensIn.e r).1 (impl_tokensIn.e r).2.1 (impl_tokensIn.e r).2.2 :=
 con_okG kitOk mix (fun k=>CtxOk.nil) (impl_tokensIn.oke k a0) h (by kernel_rfl) (by kernel_rfl) (by kernel_rfl) rfl (by kernel_rfl) rfl rfl
def impl_tokensIn.x (k : Nat) : X:=fun ins bs κ=>match ins,bs with
 | [.sc (.string a0)],[]=>(impl_tokensIn.f k a0).bind fun r=>κ (impl_tokensIn.e r).1 (impl_tokensIn.e r).2.1 (impl_tokensIn.e r).2.2
 | _,_=>none
theorem impl_tokensIn.xok (k : Nat) : XOk 54 (impl_tokensIn.x k):=by
 intro ins bs κ res h;unfold impl_tokensIn.x at h
 split at h
 ·obtain ⟨r,hr,h⟩:=Option.bind_eq_some_iff.1 h;exact ⟨_,_,_,impl_tokensIn.con k _ r hr,h⟩
 cases h
def impl_PlainOf.sp : Nat → Option (Spec Ty):=fun r=>bif Nat.beq r 3 then some ⟨[(4,.own .t5),(7,.keep),(8,.keep),(9,.keep)],[]⟩ else bif Nat.beq r 12 then some ⟨[(4,.own .t5),(6,.box [.keep,.keep,.keep]),(7,.keep),(8,.keep),(9,.keep),(37,.box [.keep,.keep,.keep]),(38,.keep),(39,.keep),(40,.keep),(43,.box [.keep,.keep,.keep]),(44,.keep),(45,.keep),(48,.keep),(49,.keep)],[]⟩ else none
def impl_PlainOf.en : Option (Spec Ty):=none
def impl_PlainOf.s3 (x7 : List S133) (x8 : Int) (x9 : Int) (h64 : List Int) : St Ty D:=⟨(Env.put (Env.put (Env.put (Env.put E (some 4) (.sl 64 none)) (some 7) (.row 0 .t133 x7)) (some 8) (.sc (.int .i64 x8))) (some 9) (.sc (.int .i64 x9))),Heap.put H0 [(64,some (.rowb .t5 h64 0))],1000⟩
def impl_PlainOf.s12 (x7 : List S133) (x8 : Int) (x9 : Int) (x38 : Int) (x39 : Bool) (x40 : Bool) (x44 : ByteArray) (x45 : Bool) (x48 : Int) (x49 : Int) (h64 : List Int) (h65_0 : Int) (h65_1 : Int) (h65_2 : ByteArray) : St Ty D:=⟨(Env.put (Env.put (Env.put (Env.put (Env.put (Env.put (Env.put (Env.put (Env.put (Env.put (Env.put (Env.put (Env.put (Env.put E (some 4) (.sl 64 none)) (some 6) (.pt 65 0 0)) (some 7) (.row 0 .t133 x7)) (some 8) (.sc (.int .i64 x8))) (some 9) (.sc (.int .i64 x9))) (some 37) (.pt 65 0 1)) (some 38) (.sc (.int .i64 x38))) (some 39) (.sc (.bool x39))) (some 40) (.sc (.bool x40))) (some 43) (.pt 65 0 2)) (some 44) (.sc (.string x44))) (some 45) (.sc (.bool x45))) (some 48) (.sc (.int .i64 x48))) (some 49) (.sc (.int .i64 x49))),Heap.put H0 [(64,some (.rowb .t5 h64 0)),(65,some (.box [.sc (.int .i64 h65_0),.sc (.int .i64 h65_1),.sc (.string h65_2)]))],1000⟩
def impl_PlainOf.ctx (k : Nat) : Ctx Ty D:=(cons 49 (impl_in.x k) (fun _ _ _ _=>none))
mutual
def impl_PlainOf.c3 : Nat → (List S133) → Int → Int → (List Int) → Option (ByteArray × Bool)
 | 0,_,_,_,_=>none
 | k + 1,x7,x8,x9,h64=>(if x9 < x8 then (if 0 ≤ x9 then (if x9 < (x7.length : Int) then (if ((rd_T133 x7 x9).f0) = 0 then (if ((rd_T133 x7 x9).f1) = 0 then ((impl_in.f k (((rd_T133 x7 x9).f2).size : Int) 1 31).bind fun t1=>(if t1 = true then (if h64.length + (bytesOf ((rd_T133 x7 x9).f2)).length ≤ 140737488355328 then (if ((h64 ++ (bytesOf ((rd_T133 x7 x9).f2))).length : Int) > 64 then (some ((⟨#[]⟩ : ByteArray),false)) else (impl_PlainOf.c3 k x7 x8 (w64 (x9 + 1)) (h64 ++ (bytesOf ((rd_T133 x7 x9).f2))))) else none) else (some ((⟨#[]⟩ : ByteArray),false)))) else (some ((⟨#[]⟩ : ByteArray),false))) else ((impl_in.f k ((rd_T133 x7 x9).f0) 1 (h64.length : Int)).bind fun t2=>(if t2 = true then ((impl_in.f k ((rd_T133 x7 x9).f1) 1 31).bind fun t3=>(if t3 = true then (if (seq ((rd_T133 x7 x9).f2) (⟨#[]⟩ : ByteArray)) = true then (impl_PlainOf.c12 k x7 x8 x9 ((rd_T133 x7 x9).f1) t3 (!t3) ((rd_T133 x7 x9).f2) (!(seq ((rd_T133 x7 x9).f2) (⟨#[]⟩ : ByteArray))) ((rd_T133 x7 x9).f1) 0 h64 ((rd_T133 x7 x9).f0) ((rd_T133 x7 x9).f1) ((rd_T133 x7 x9).f2)) else (some ((⟨#[]⟩ : ByteArray),false))) else (some ((⟨#[]⟩ : ByteArray),false)))) else (some ((⟨#[]⟩ : ByteArray),false))))) else none) else none) else (some ((strOfNums h64),true)))
def impl_PlainOf.c12 : Nat → (List S133) → Int → Int → Int → Bool → Bool → ByteArray → Bool → Int → Int → (List Int) → Int → Int → ByteArray → Option (ByteArray × Bool)
 | 0,_,_,_,_,_,_,_,_,_,_,_,_,_,_=>none
 | k + 1,x7,x8,x9,x38,x39,x40,x44,x45,x48,x49,h64,h65_0,h65_1,h65_2=>(if x49 < x48 then (if 0 ≤ (w64 ((h64.length : Int) - h65_0)) then (if (w64 ((h64.length : Int) - h65_0)) < (h64.length : Int) then (if h64.length + ([(rd_T5 h64 (w64 ((h64.length : Int) - h65_0)))] : List Int).length ≤ 140737488355328 then (impl_PlainOf.c12 k x7 x8 x9 x38 x39 x40 x44 x45 x48 (w64 (x49 + 1)) (h64 ++ ([(rd_T5 h64 (w64 ((h64.length : Int) - h65_0)))] : List Int)) h65_0 h65_1 h65_2) else none) else none) else none) else (if (h64.length : Int) > 64 then (some ((⟨#[]⟩ : ByteArray),false)) else (impl_PlainOf.c3 k x7 x8 (w64 (x9 + 1)) h64)))
end
def impl_PlainOf.f (k : Nat) (a0 : List S133) : Option (ByteArray × Bool):=(impl_PlainOf.c3 k a0 (a0.length : Int) 0 ([] : List Int))
def impl_PlainOf.e (r : ByteArray × Bool) : Res Ty D:=(.tu [.sc (.string r.1),.sc (.bool r.2)],[],[])
abbrev impl_PlainOf.g (rec : List Item → St Ty D → R) (k : Nat):=go1 Tryz.f55 (impl_PlainOf.ctx k) impl_PlainOf.sp 0 impl_PlainOf.en rec
theorem impl_PlainOf.t3 (rec : List Item → St Ty D → R) (k : Nat) (x7 : List S133) (x8 : Int) (x9 : Int) (h64 : List Int) : impl_PlainOf.g rec k (td Tryz.f55 3) (impl_PlainOf.s3 x7 x8 x9 h64) =
 bif decide (x9 < x8) then bif decide (0 ≤ x9) then bif decide (x9 < (x7.length : Int)) then bif decide (((rd_T133 x7 x9).f0) = 0) then bif !decide (((rd_T133 x7 x9).f1) = 0) then some (impl_PlainOf.e ((⟨#[]⟩ : ByteArray),false)) else (impl_in.f k (((rd_T133 x7 x9).f2).size : Int) 1 31).bind fun t1=>bif !t1 then some (impl_PlainOf.e ((⟨#[]⟩ : ByteArray),false)) else bif decide (h64.length + (bytesOf ((rd_T133 x7 x9).f2)).length ≤ 140737488355328) then bif decide (((h64 ++ (bytesOf ((rd_T133 x7 x9).f2))).length : Int) > 64) then some (impl_PlainOf.e ((⟨#[]⟩ : ByteArray),false)) else rec (td Tryz.f55 3) (impl_PlainOf.s3 x7 x8 (w64 (x9 + 1)) (h64 ++ (bytesOf ((rd_T133 x7 x9).f2)))) else none else (impl_in.f k ((rd_T133 x7 x9).f0) 1 (h64.length : Int)).bind fun t2=>bif !t2 then some (impl_PlainOf.e ((⟨#[]⟩ : ByteArray),false)) else (impl_in.f k ((rd_T133 x7 x9).f1) 1 31).bind fun t3=>bif !t3 then some (impl_PlainOf.e ((⟨#[]⟩ : ByteArray),false)) else bif !(seq ((rd_T133 x7 x9).f2) (⟨#[]⟩ : ByteArray)) then some (impl_PlainOf.e ((⟨#[]⟩ : ByteArray),false)) else rec (td Tryz.f55 12) (impl_PlainOf.s12 x7 x8 x9 ((rd_T133 x7 x9).f1) t3 (!t3) ((rd_T133 x7 x9).f2) (!(seq ((rd_T133 x7 x9).f2) (⟨#[]⟩ : ByteArray))) ((rd_T133 x7 x9).f1) 0 h64 ((rd_T133 x7 x9).f0) ((rd_T133 x7 x9).f1) ((rd_T133 x7 x9).f2)) else none else none else some (impl_PlainOf.e ((strOfNums h64),true)):=by kernel_rfl
theorem impl_PlainOf.t12 (rec : List Item → St Ty D → R) (k : Nat) (x7 : List S133) (x8 : Int) (x9 : Int) (x38 : Int) (x39 : Bool) (x40 : Bool) (x44 : ByteArray) (x45 : Bool) (x48 : Int) (x49 : Int) (h64 : List Int) (h65_0 : Int) (h65_1 : Int) (h65_2 : ByteArray) : impl_PlainOf.g rec k (td Tryz.f55 12) (impl_PlainOf.s12 x7 x8 x9 x38 x39 x40 x44 x45 x48 x49 h64 h65_0 h65_1 h65_2) =
 bif decide (x49 < x48) then bif decide (0 ≤ (w64 ((h64.length : Int) - h65_0))) then bif decide ((w64 ((h64.length : Int) - h65_0)) < (h64.length : Int)) then bif decide (h64.length + ([(rd_T5 h64 (w64 ((h64.length : Int) - h65_0)))] : List Int).length ≤ 140737488355328) then rec (td Tryz.f55 12) (impl_PlainOf.s12 x7 x8 x9 x38 x39 x40 x44 x45 x48 (w64 (x49 + 1)) (h64 ++ ([(rd_T5 h64 (w64 ((h64.length : Int) - h65_0)))] : List Int)) h65_0 h65_1 h65_2) else none else none else none else bif decide ((h64.length : Int) > 64) then some (impl_PlainOf.e ((⟨#[]⟩ : ByteArray),false)) else rec (td Tryz.f55 3) (impl_PlainOf.s3 x7 x8 (w64 (x9 + 1)) h64):=by kernel_rfl
theorem impl_PlainOf.te (rec : List Item → St Ty D → R) (k : Nat) (a0 : List S133) : impl_PlainOf.g rec k [.code (body Tryz.f55)] (startSt [.row 0 .t133 a0] []) =
 rec (td Tryz.f55 3) (impl_PlainOf.s3 a0 (a0.length : Int) 0 ([] : List Int)):=by kernel_rfl
theorem impl_PlainOf.ok : ∀ k : Nat,(∀ (x7 : List S133) (x8 : Int) (x9 : Int) (h64 : List Int),goF Tryz.f55 impl_PlainOf.ctx impl_PlainOf.sp 0 impl_PlainOf.en k (td Tryz.f55 3) (impl_PlainOf.s3 x7 x8 x9 h64) = (impl_PlainOf.c3 k x7 x8 x9 h64).map impl_PlainOf.e) ∧ (∀ (x7 : List S133) (x8 : Int) (x9 : Int) (x38 : Int) (x39 : Bool) (x40 : Bool) (x44 : ByteArray) (x45 : Bool) (x48 : Int) (x49 : Int) (h64 : List Int) (h65_0 : Int) (h65_1 : Int) (h65_2 : ByteArray),goF Tryz.f55 impl_PlainOf.ctx impl_PlainOf.sp 0 impl_PlainOf.en k (td Tryz.f55 12) (impl_PlainOf.s12 x7 x8 x9 x38 x39 x40 x44 x45 x48 x49 h64 h65_0 h65_1 h65_2) = (impl_PlainOf.c12 k x7 x8 x9 x38 x39 x40 x44 x45 x48 x49 h64 h65_0 h65_1 h65_2).map impl_PlainOf.e)
 | 0=>⟨fun _ _ _ _=>rfl,fun _ _ _ _ _ _ _ _ _ _ _ _ _ _=>rfl⟩
 | k + 1=>by
  have ih:=impl_PlainOf.ok k;obtain ⟨i3,i12⟩:=ih;refine ⟨?_,?_⟩
  ·intro x7 x8 x9 h64;rw [impl_PlainOf.c3];exact (impl_PlainOf.t3 _ k x7 x8 x9 h64).trans (cd (cd (cd (cd (nd rfl (bn (fun t1=>(nb rfl (cd (cd rfl (i3 _ _ _ _)) rfl))))) (bn (fun t2=>(nb rfl (bn (fun t3=>(nb rfl (nb rfl (i12 _ _ _ _ _ _ _ _ _ _ _ _ _ _))))))))) rfl) rfl) rfl)
  intro x7 x8 x9 x38 x39 x40 x44 x45 x48 x49 h64 h65_0 h65_1 h65_2;rw [impl_PlainOf.c12];exact (impl_PlainOf.t12 _ k x7 x8 x9 x38 x39 x40 x44 x45 x48 x49 h64 h65_0 h65_1 h65_2).trans (cd (cd (cd (cd (i12 _ _ _ _ _ _ _ _ _ _ _ _ _ _) rfl) rfl) rfl) (cd rfl (i3 _ _ _ _)))
theorem impl_PlainOf.oke (k : Nat) (a0 : List S133) : goF Tryz.f55 impl_PlainOf.ctx impl_PlainOf.sp 0 impl_PlainOf.en (k + 1) [.code (body Tryz.f55)] (startSt [.row 0 .t133 a0] []) = (impl_PlainOf.f k a0).map impl_PlainOf.e:=by
 obtain ⟨i3,i12⟩:=impl_PlainOf.ok k;rw [impl_PlainOf.f];exact (impl_PlainOf.te _ k a0).trans (i3 _ _ _ _)
theorem impl_PlainOf.con (k : Nat) (a0 : List S133) (r) (h : impl_PlainOf.f k a0 = some r) : Contract Tryz.prog kit 55 [.row 0 .t133 a0] [] (impl_PlainOf.e r).1 (impl_PlainOf.e r).2.1 (impl_PlainOf.e r).2.2 :=
 con_okG kitOk mix (fun k=>(CtxOk.cons (impl_in.xok k) CtxOk.nil)) (impl_PlainOf.oke k a0) h (by kernel_rfl) (by kernel_rfl) (by kernel_rfl) rfl (by kernel_rfl) rfl rfl
def impl_PlainOf.x (k : Nat) : X:=fun ins bs κ=>match ins,bs with
 | [.row 0 .t133 a0],[]=>(impl_PlainOf.f k a0).bind fun r=>κ (impl_PlainOf.e r).1 (impl_PlainOf.e r).2.1 (impl_PlainOf.e r).2.2
 | _,_=>none
theorem impl_PlainOf.xok (k : Nat) : XOk 55 (impl_PlainOf.x k):=by
 intro ins bs κ res h;unfold impl_PlainOf.x at h
 split at h
 ·obtain ⟨r,hr,h⟩:=Option.bind_eq_some_iff.1 h;exact ⟨_,_,_,impl_PlainOf.con k _ r hr,h⟩
 cases h
def impl_matchAt.sp : Nat → Option (Spec Ty):=fun r=>bif Nat.beq r 3 then some ⟨[(0,.keep),(1,.keep),(6,.keep),(7,.keep),(8,.keep)],[]⟩ else bif Nat.beq r 6 then some ⟨[(0,.keep),(1,.keep),(6,.keep),(7,.keep),(8,.keep),(9,.keep)],[]⟩ else none
def impl_matchAt.en : Option (Spec Ty):=none
def impl_matchAt.s3 (x0 : ByteArray) (x1 : Int) (x6 : Int) (x7 : Int) (x8 : Int) : St Ty D:=⟨(Env.put (Env.put (Env.put (Env.put (Env.put E (some 0) (.sc (.string x0))) (some 1) (.sc (.int .i64 x1))) (some 6) (.sc (.int .i64 x6))) (some 7) (.sc (.int .i64 x7))) (some 8) (.sc (.int .i64 x8))),H0,1000⟩
def impl_matchAt.s6 (x0 : ByteArray) (x1 : Int) (x6 : Int) (x7 : Int) (x8 : Int) (x9 : Int) : St Ty D:=⟨(Env.put (Env.put (Env.put (Env.put (Env.put (Env.put E (some 0) (.sc (.string x0))) (some 1) (.sc (.int .i64 x1))) (some 6) (.sc (.int .i64 x6))) (some 7) (.sc (.int .i64 x7))) (some 8) (.sc (.int .i64 x8))) (some 9) (.sc (.int .i64 x9))),H0,1000⟩
def impl_matchAt.ctx (k : Nat) : Ctx Ty D:=(fun _ _ _ _=>none)
mutual
def impl_matchAt.c3 : Nat → ByteArray → Int → Int → Int → Int → Option (Int × Int)
 | 0,_,_,_,_,_=>none
 | k + 1,x0,x1,x6,x7,x8=>(if x8 ≥ 0 then (impl_matchAt.c6 k x0 x1 x6 x7 x8 0) else (some (x6,x7)))
def impl_matchAt.c6 : Nat → ByteArray → Int → Int → Int → Int → Int → Option (Int × Int)
 | 0,_,_,_,_,_,_=>none
 | k + 1,x0,x1,x6,x7,x8,x9=>(if x9 < 31 then (if (w64 (x1 + x9)) < (x0.size : Int) then (if 0 ≤ (w64 (x8 + x9)) then (if (w64 (x8 + x9)) < (x0.size : Int) then (if 0 ≤ (w64 (x1 + x9)) then (if (w64 (x1 + x9)) < (x0.size : Int) then (if (bt x0 (w64 (x8 + x9))) = (bt x0 (w64 (x1 + x9))) then (impl_matchAt.c6 k x0 x1 x6 x7 x8 (w64 (x9 + 1))) else (if x9 ≥ 4 then (if x9 > x6 then (impl_matchAt.c3 k x0 x1 x9 (w64 (x1 - x8)) (w64 (x8 - 1))) else (impl_matchAt.c3 k x0 x1 x6 x7 (w64 (x8 - 1)))) else (impl_matchAt.c3 k x0 x1 x6 x7 (w64 (x8 - 1))))) else none) else none) else none) else none) else (if x9 ≥ 4 then (if x9 > x6 then (impl_matchAt.c3 k x0 x1 x9 (w64 (x1 - x8)) (w64 (x8 - 1))) else (impl_matchAt.c3 k x0 x1 x6 x7 (w64 (x8 - 1)))) else (impl_matchAt.c3 k x0 x1 x6 x7 (w64 (x8 - 1))))) else (if x9 ≥ 4 then (if x9 > x6 then (impl_matchAt.c3 k x0 x1 x9 (w64 (x1 - x8)) (w64 (x8 - 1))) else (impl_matchAt.c3 k x0 x1 x6 x7 (w64 (x8 - 1)))) else (impl_matchAt.c3 k x0 x1 x6 x7 (w64 (x8 - 1)))))
end
def impl_matchAt.f (k : Nat) (a0 : ByteArray) (a1 : Int) : Option (Int × Int):=(impl_matchAt.c3 k a0 a1 0 0 (w64 (a1 - 1)))
def impl_matchAt.e (r : Int × Int) : Res Ty D:=(.tu [.sc (.int .i64 r.1),.sc (.int .i64 r.2)],[],[])
abbrev impl_matchAt.g (rec : List Item → St Ty D → R) (k : Nat):=go1 Tryz.f96 (impl_matchAt.ctx k) impl_matchAt.sp 0 impl_matchAt.en rec
theorem impl_matchAt.t3 (rec : List Item → St Ty D → R) (k : Nat) (x0 : ByteArray) (x1 : Int) (x6 : Int) (x7 : Int) (x8 : Int) : impl_matchAt.g rec k (td Tryz.f96 3) (impl_matchAt.s3 x0 x1 x6 x7 x8) =
 bif decide (x8 ≥ 0) then rec (td Tryz.f96 6) (impl_matchAt.s6 x0 x1 x6 x7 x8 0) else some (impl_matchAt.e (x6,x7)):=by kernel_rfl
theorem impl_matchAt.t6 (rec : List Item → St Ty D → R) (k : Nat) (x0 : ByteArray) (x1 : Int) (x6 : Int) (x7 : Int) (x8 : Int) (x9 : Int) : impl_matchAt.g rec k (td Tryz.f96 6) (impl_matchAt.s6 x0 x1 x6 x7 x8 x9) =
 bif decide (x9 < 31) then bif decide ((w64 (x1 + x9)) < (x0.size : Int)) then bif decide (0 ≤ (w64 (x8 + x9))) then bif decide ((w64 (x8 + x9)) < (x0.size : Int)) then bif decide (0 ≤ (w64 (x1 + x9))) then bif decide ((w64 (x1 + x9)) < (x0.size : Int)) then bif decide ((bt x0 (w64 (x8 + x9))) = (bt x0 (w64 (x1 + x9)))) then rec (td Tryz.f96 6) (impl_matchAt.s6 x0 x1 x6 x7 x8 (w64 (x9 + 1))) else bif decide (x9 ≥ 4) then bif decide (x9 > x6) then rec (td Tryz.f96 3) (impl_matchAt.s3 x0 x1 x9 (w64 (x1 - x8)) (w64 (x8 - 1))) else rec (td Tryz.f96 3) (impl_matchAt.s3 x0 x1 x6 x7 (w64 (x8 - 1))) else rec (td Tryz.f96 3) (impl_matchAt.s3 x0 x1 x6 x7 (w64 (x8 - 1))) else none else none else none else none else bif decide (x9 ≥ 4) then bif decide (x9 > x6) then rec (td Tryz.f96 3) (impl_matchAt.s3 x0 x1 x9 (w64 (x1 - x8)) (w64 (x8 - 1))) else rec (td Tryz.f96 3) (impl_matchAt.s3 x0 x1 x6 x7 (w64 (x8 - 1))) else rec (td Tryz.f96 3) (impl_matchAt.s3 x0 x1 x6 x7 (w64 (x8 - 1))) else bif decide (x9 ≥ 4) then bif decide (x9 > x6) then rec (td Tryz.f96 3) (impl_matchAt.s3 x0 x1 x9 (w64 (x1 - x8)) (w64 (x8 - 1))) else rec (td Tryz.f96 3) (impl_matchAt.s3 x0 x1 x6 x7 (w64 (x8 - 1))) else rec (td Tryz.f96 3) (impl_matchAt.s3 x0 x1 x6 x7 (w64 (x8 - 1))):=by kernel_rfl
theorem impl_matchAt.te (rec : List Item → St Ty D → R) (k : Nat) (a0 : ByteArray) (a1 : Int) : impl_matchAt.g rec k [.code (body Tryz.f96)] (startSt [.sc (.string a0),.sc (.int .i64 a1)] []) =
 rec (td Tryz.f96 3) (impl_matchAt.s3 a0 a1 0 0 (w64 (a1 - 1))):=by kernel_rfl
theorem impl_matchAt.ok : ∀ k : Nat,(∀ (x0 : ByteArray) (x1 : Int) (x6 : Int) (x7 : Int) (x8 : Int),goF Tryz.f96 impl_matchAt.ctx impl_matchAt.sp 0 impl_matchAt.en k (td Tryz.f96 3) (impl_matchAt.s3 x0 x1 x6 x7 x8) = (impl_matchAt.c3 k x0 x1 x6 x7 x8).map impl_matchAt.e) ∧ (∀ (x0 : ByteArray) (x1 : Int) (x6 : Int) (x7 : Int) (x8 : Int) (x9 : Int),goF Tryz.f96 impl_matchAt.ctx impl_matchAt.sp 0 impl_matchAt.en k (td Tryz.f96 6) (impl_matchAt.s6 x0 x1 x6 x7 x8 x9) = (impl_matchAt.c6 k x0 x1 x6 x7 x8 x9).map impl_matchAt.e)
 | 0=>⟨fun _ _ _ _ _=>rfl,fun _ _ _ _ _ _=>rfl⟩
 | k + 1=>by
  have ih:=impl_matchAt.ok k;obtain ⟨i3,i6⟩:=ih;refine ⟨?_,?_⟩
  ·intro x0 x1 x6 x7 x8;rw [impl_matchAt.c3];exact (impl_matchAt.t3 _ k x0 x1 x6 x7 x8).trans (cd (i6 _ _ _ _ _ _) rfl)
  intro x0 x1 x6 x7 x8 x9;rw [impl_matchAt.c6];exact (impl_matchAt.t6 _ k x0 x1 x6 x7 x8 x9).trans (cd (cd (cd (cd (cd (cd (cd (i6 _ _ _ _ _ _) (cd (cd (i3 _ _ _ _ _) (i3 _ _ _ _ _)) (i3 _ _ _ _ _))) rfl) rfl) rfl) rfl) (cd (cd (i3 _ _ _ _ _) (i3 _ _ _ _ _)) (i3 _ _ _ _ _))) (cd (cd (i3 _ _ _ _ _) (i3 _ _ _ _ _)) (i3 _ _ _ _ _)))
theorem impl_matchAt.oke (k : Nat) (a0 : ByteArray) (a1 : Int) : goF Tryz.f96 impl_matchAt.ctx impl_matchAt.sp 0 impl_matchAt.en (k + 1) [.code (body Tryz.f96)] (startSt [.sc (.string a0),.sc (.int .i64 a1)] []) = (impl_matchAt.f k a0 a1).map impl_matchAt.e:=by
 obtain ⟨i3,i6⟩:=impl_matchAt.ok k;rw [impl_matchAt.f];exact (impl_matchAt.te _ k a0 a1).trans (i3 _ _ _ _ _)
theorem impl_matchAt.con (k : Nat) (a0 : ByteArray) (a1 : Int) (r) (h : impl_matchAt.f k a0 a1 = some r) : Contract Tryz.prog kit 96 [.sc (.string a0),.sc (.int .i64 a1)] [] (impl_matchAt.e r).1 (impl_matchAt.e r).2.1 (impl_matchAt.e r).2.2 :=
 con_okG kitOk mix (fun k=>CtxOk.nil) (impl_matchAt.oke k a0 a1) h (by kernel_rfl) (by kernel_rfl) (by kernel_rfl) rfl (by kernel_rfl) rfl rfl
def impl_matchAt.x (k : Nat) : X:=fun ins bs κ=>match ins,bs with
 | [.sc (.string a0),.sc (.int .i64 a1)],[]=>(impl_matchAt.f k a0 a1).bind fun r=>κ (impl_matchAt.e r).1 (impl_matchAt.e r).2.1 (impl_matchAt.e r).2.2
 | _,_=>none
theorem impl_matchAt.xok (k : Nat) : XOk 96 (impl_matchAt.x k):=by
 intro ins bs κ res h;unfold impl_matchAt.x at h
 split at h
 ·obtain ⟨r,hr,h⟩:=Option.bind_eq_some_iff.1 h;exact ⟨_,_,_,impl_matchAt.con k _ _ r hr,h⟩
 cases h
def impl_TokensOf.sp : Nat → Option (Spec Ty):=fun r=>bif Nat.beq r 5 then some ⟨[(0,.keep),(3,.own .t133),(4,.keep)],[]⟩ else none
def impl_TokensOf.en : Option (Spec Ty):=some ⟨[(2,.own .t133)],[]⟩
def impl_TokensOf.s5 (x0 : ByteArray) (x4 : Int) (h64 : List S133) : St Ty D:=⟨(Env.put (Env.put (Env.put E (some 0) (.sc (.string x0))) (some 3) (.sl 64 none)) (some 4) (.sc (.int .i64 x4))),Heap.put H0 [(64,some (.rowb .t133 h64 0))],1000⟩
def impl_TokensOf.ctx (k : Nat) : Ctx Ty D:=(cons 96 (impl_matchAt.x k) (fun _ _ _ _=>none))
def impl_TokensOf.c5 : Nat → ByteArray → Int → (List S133) → Option ((List S133))
 | 0,_,_,_=>none
 | k + 1,x0,x4,h64=>(if x4 < (x0.size : Int) then ((impl_matchAt.f k x0 x4).bind fun t1=>(if t1.1 > 0 then (if h64.length + ([(S133.mk t1.2 t1.1 (⟨#[]⟩ : ByteArray))] : List S133).length ≤ 4398046511104 then (impl_TokensOf.c5 k x0 (w64 (x4 + t1.1)) (h64 ++ ([(S133.mk t1.2 t1.1 (⟨#[]⟩ : ByteArray))] : List S133))) else none) else (if (w64 ((h64.length : Int) - 1)) < 0 then (if h64.length + ([(S133.mk 0 0 (⟨#[]⟩ : ByteArray))] : List S133).length ≤ 4398046511104 then (if 0 ≤ (w64 ((w64 ((h64.length : Int) - 1)) + 1)) then (if (w64 ((w64 ((h64.length : Int) - 1)) + 1)) < ((h64 ++ ([(S133.mk 0 0 (⟨#[]⟩ : ByteArray))] : List S133)).length : Int) then (if 0 ≤ (w64 (x4 + 1)) then (if (w64 (x4 + 1)) ≤ (x0.size : Int) then (if 0 ≤ x4 then (if x4 ≤ (w64 (x4 + 1)) then (if ((rd_T133 (h64 ++ ([(S133.mk 0 0 (⟨#[]⟩ : ByteArray))] : List S133)) (w64 ((w64 ((h64.length : Int) - 1)) + 1))).f2).size + (x0.extract x4.toNat ((w64 (x4 + 1)).toNat)).size ≤ 9223372036854775807 then (if 0 ≤ (w64 ((w64 ((h64.length : Int) - 1)) + 1)) then (if (w64 ((w64 ((h64.length : Int) - 1)) + 1)) < ((h64 ++ ([(S133.mk 0 0 (⟨#[]⟩ : ByteArray))] : List S133)).length : Int) then (impl_TokensOf.c5 k x0 (w64 (x4 + 1)) ((h64 ++ ([(S133.mk 0 0 (⟨#[]⟩ : ByteArray))] : List S133)).set ((w64 ((w64 ((h64.length : Int) - 1)) + 1)).toNat) (S133.mk ((rd_T133 (h64 ++ ([(S133.mk 0 0 (⟨#[]⟩ : ByteArray))] : List S133)) (w64 ((w64 ((h64.length : Int) - 1)) + 1))).f0) ((rd_T133 (h64 ++ ([(S133.mk 0 0 (⟨#[]⟩ : ByteArray))] : List S133)) (w64 ((w64 ((h64.length : Int) - 1)) + 1))).f1) (((rd_T133 (h64 ++ ([(S133.mk 0 0 (⟨#[]⟩ : ByteArray))] : List S133)) (w64 ((w64 ((h64.length : Int) - 1)) + 1))).f2) ++ (x0.extract x4.toNat ((w64 (x4 + 1)).toNat)))))) else none) else none) else none) else none) else none) else none) else none) else none) else none) else none) else (if 0 ≤ (w64 ((h64.length : Int) - 1)) then (if (w64 ((h64.length : Int) - 1)) < (h64.length : Int) then (if ((rd_T133 h64 (w64 ((h64.length : Int) - 1))).f0) > 0 then (if h64.length + ([(S133.mk 0 0 (⟨#[]⟩ : ByteArray))] : List S133).length ≤ 4398046511104 then (if 0 ≤ (w64 ((w64 ((h64.length : Int) - 1)) + 1)) then (if (w64 ((w64 ((h64.length : Int) - 1)) + 1)) < ((h64 ++ ([(S133.mk 0 0 (⟨#[]⟩ : ByteArray))] : List S133)).length : Int) then (if 0 ≤ (w64 (x4 + 1)) then (if (w64 (x4 + 1)) ≤ (x0.size : Int) then (if 0 ≤ x4 then (if x4 ≤ (w64 (x4 + 1)) then (if ((rd_T133 (h64 ++ ([(S133.mk 0 0 (⟨#[]⟩ : ByteArray))] : List S133)) (w64 ((w64 ((h64.length : Int) - 1)) + 1))).f2).size + (x0.extract x4.toNat ((w64 (x4 + 1)).toNat)).size ≤ 9223372036854775807 then (if 0 ≤ (w64 ((w64 ((h64.length : Int) - 1)) + 1)) then (if (w64 ((w64 ((h64.length : Int) - 1)) + 1)) < ((h64 ++ ([(S133.mk 0 0 (⟨#[]⟩ : ByteArray))] : List S133)).length : Int) then (impl_TokensOf.c5 k x0 (w64 (x4 + 1)) ((h64 ++ ([(S133.mk 0 0 (⟨#[]⟩ : ByteArray))] : List S133)).set ((w64 ((w64 ((h64.length : Int) - 1)) + 1)).toNat) (S133.mk ((rd_T133 (h64 ++ ([(S133.mk 0 0 (⟨#[]⟩ : ByteArray))] : List S133)) (w64 ((w64 ((h64.length : Int) - 1)) + 1))).f0) ((rd_T133 (h64 ++ ([(S133.mk 0 0 (⟨#[]⟩ : ByteArray))] : List S133)) (w64 ((w64 ((h64.length : Int) - 1)) + 1))).f1) (((rd_T133 (h64 ++ ([(S133.mk 0 0 (⟨#[]⟩ : ByteArray))] : List S133)) (w64 ((w64 ((h64.length : Int) - 1)) + 1))).f2) ++ (x0.extract x4.toNat ((w64 (x4 + 1)).toNat)))))) else none) else none) else none) else none) else none) else none) else none) else none) else none) else none) else (if 0 ≤ (w64 ((h64.length : Int) - 1)) then (if (w64 ((h64.length : Int) - 1)) < (h64.length : Int) then (if (((rd_T133 h64 (w64 ((h64.length : Int) - 1))).f2).size : Int) ≥ 31 then (if h64.length + ([(S133.mk 0 0 (⟨#[]⟩ : ByteArray))] : List S133).length ≤ 4398046511104 then (if 0 ≤ (w64 ((w64 ((h64.length : Int) - 1)) + 1)) then (if (w64 ((w64 ((h64.length : Int) - 1)) + 1)) < ((h64 ++ ([(S133.mk 0 0 (⟨#[]⟩ : ByteArray))] : List S133)).length : Int) then (if 0 ≤ (w64 (x4 + 1)) then (if (w64 (x4 + 1)) ≤ (x0.size : Int) then (if 0 ≤ x4 then (if x4 ≤ (w64 (x4 + 1)) then (if ((rd_T133 (h64 ++ ([(S133.mk 0 0 (⟨#[]⟩ : ByteArray))] : List S133)) (w64 ((w64 ((h64.length : Int) - 1)) + 1))).f2).size + (x0.extract x4.toNat ((w64 (x4 + 1)).toNat)).size ≤ 9223372036854775807 then (if 0 ≤ (w64 ((w64 ((h64.length : Int) - 1)) + 1)) then (if (w64 ((w64 ((h64.length : Int) - 1)) + 1)) < ((h64 ++ ([(S133.mk 0 0 (⟨#[]⟩ : ByteArray))] : List S133)).length : Int) then (impl_TokensOf.c5 k x0 (w64 (x4 + 1)) ((h64 ++ ([(S133.mk 0 0 (⟨#[]⟩ : ByteArray))] : List S133)).set ((w64 ((w64 ((h64.length : Int) - 1)) + 1)).toNat) (S133.mk ((rd_T133 (h64 ++ ([(S133.mk 0 0 (⟨#[]⟩ : ByteArray))] : List S133)) (w64 ((w64 ((h64.length : Int) - 1)) + 1))).f0) ((rd_T133 (h64 ++ ([(S133.mk 0 0 (⟨#[]⟩ : ByteArray))] : List S133)) (w64 ((w64 ((h64.length : Int) - 1)) + 1))).f1) (((rd_T133 (h64 ++ ([(S133.mk 0 0 (⟨#[]⟩ : ByteArray))] : List S133)) (w64 ((w64 ((h64.length : Int) - 1)) + 1))).f2) ++ (x0.extract x4.toNat ((w64 (x4 + 1)).toNat)))))) else none) else none) else none) else none) else none) else none) else none) else none) else none) else none) else (if 0 ≤ (w64 ((h64.length : Int) - 1)) then (if (w64 ((h64.length : Int) - 1)) < (h64.length : Int) then (if 0 ≤ (w64 (x4 + 1)) then (if (w64 (x4 + 1)) ≤ (x0.size : Int) then (if 0 ≤ x4 then (if x4 ≤ (w64 (x4 + 1)) then (if ((rd_T133 h64 (w64 ((h64.length : Int) - 1))).f2).size + (x0.extract x4.toNat ((w64 (x4 + 1)).toNat)).size ≤ 9223372036854775807 then (if 0 ≤ (w64 ((h64.length : Int) - 1)) then (if (w64 ((h64.length : Int) - 1)) < (h64.length : Int) then (impl_TokensOf.c5 k x0 (w64 (x4 + 1)) (h64.set ((w64 ((h64.length : Int) - 1)).toNat) (S133.mk ((rd_T133 h64 (w64 ((h64.length : Int) - 1))).f0) ((rd_T133 h64 (w64 ((h64.length : Int) - 1))).f1) (((rd_T133 h64 (w64 ((h64.length : Int) - 1))).f2) ++ (x0.extract x4.toNat ((w64 (x4 + 1)).toNat)))))) else none) else none) else none) else none) else none) else none) else none) else none) else none)) else none) else none)) else none) else none)))) else (some (h64)))
def impl_TokensOf.f (k : Nat) (a0 : ByteArray) : Option ((List S133)):=(if (a0.size : Int) > 64 then (some (([] : List S133))) else (impl_TokensOf.c5 k a0 0 ([] : List S133)))
def impl_TokensOf.e (r : (List S133)) : Res Ty D:=(.sl 0 none,[],[.rowb .t133 r 0])
abbrev impl_TokensOf.g (rec : List Item → St Ty D → R) (k : Nat):=go1 Tryz.f80 (impl_TokensOf.ctx k) impl_TokensOf.sp 0 impl_TokensOf.en rec
theorem impl_TokensOf.t5 (rec : List Item → St Ty D → R) (k : Nat) (x0 : ByteArray) (x4 : Int) (h64 : List S133) : impl_TokensOf.g rec k (td Tryz.f80 5) (impl_TokensOf.s5 x0 x4 h64) =
 bif decide (x4 < (x0.size : Int)) then (impl_matchAt.f k x0 x4).bind fun t1=>bif decide (t1.1 > 0) then bif decide (h64.length + ([(S133.mk t1.2 t1.1 (⟨#[]⟩ : ByteArray))] : List S133).length ≤ 4398046511104) then rec (td Tryz.f80 5) (impl_TokensOf.s5 x0 (w64 (x4 + t1.1)) (h64 ++ ([(S133.mk t1.2 t1.1 (⟨#[]⟩ : ByteArray))] : List S133))) else none else bif decide ((w64 ((h64.length : Int) - 1)) < 0) then bif decide (h64.length + ([(S133.mk 0 0 (⟨#[]⟩ : ByteArray))] : List S133).length ≤ 4398046511104) then bif decide (0 ≤ (w64 ((w64 ((h64.length : Int) - 1)) + 1))) then bif decide ((w64 ((w64 ((h64.length : Int) - 1)) + 1)) < ((h64 ++ ([(S133.mk 0 0 (⟨#[]⟩ : ByteArray))] : List S133)).length : Int)) then bif decide (0 ≤ (w64 (x4 + 1))) then bif decide ((w64 (x4 + 1)) ≤ (x0.size : Int)) then bif decide (0 ≤ x4) then bif decide (x4 ≤ (w64 (x4 + 1))) then bif decide (((rd_T133 (h64 ++ ([(S133.mk 0 0 (⟨#[]⟩ : ByteArray))] : List S133)) (w64 ((w64 ((h64.length : Int) - 1)) + 1))).f2).size + (x0.extract x4.toNat ((w64 (x4 + 1)).toNat)).size ≤ 9223372036854775807) then bif decide (0 ≤ (w64 ((w64 ((h64.length : Int) - 1)) + 1))) then bif decide ((w64 ((w64 ((h64.length : Int) - 1)) + 1)) < ((h64 ++ ([(S133.mk 0 0 (⟨#[]⟩ : ByteArray))] : List S133)).length : Int)) then rec (td Tryz.f80 5) (impl_TokensOf.s5 x0 (w64 (x4 + 1)) ((h64 ++ ([(S133.mk 0 0 (⟨#[]⟩ : ByteArray))] : List S133)).set ((w64 ((w64 ((h64.length : Int) - 1)) + 1)).toNat) (S133.mk ((rd_T133 (h64 ++ ([(S133.mk 0 0 (⟨#[]⟩ : ByteArray))] : List S133)) (w64 ((w64 ((h64.length : Int) - 1)) + 1))).f0) ((rd_T133 (h64 ++ ([(S133.mk 0 0 (⟨#[]⟩ : ByteArray))] : List S133)) (w64 ((w64 ((h64.length : Int) - 1)) + 1))).f1) (((rd_T133 (h64 ++ ([(S133.mk 0 0 (⟨#[]⟩ : ByteArray))] : List S133)) (w64 ((w64 ((h64.length : Int) - 1)) + 1))).f2) ++ (x0.extract x4.toNat ((w64 (x4 + 1)).toNat)))))) else none else none else none else none else none else none else none else none else none else none else bif decide (0 ≤ (w64 ((h64.length : Int) - 1))) then bif decide ((w64 ((h64.length : Int) - 1)) < (h64.length : Int)) then bif decide (((rd_T133 h64 (w64 ((h64.length : Int) - 1))).f0) > 0) then bif decide (h64.length + ([(S133.mk 0 0 (⟨#[]⟩ : ByteArray))] : List S133).length ≤ 4398046511104) then bif decide (0 ≤ (w64 ((w64 ((h64.length : Int) - 1)) + 1))) then bif decide ((w64 ((w64 ((h64.length : Int) - 1)) + 1)) < ((h64 ++ ([(S133.mk 0 0 (⟨#[]⟩ : ByteArray))] : List S133)).length : Int)) then bif decide (0 ≤ (w64 (x4 + 1))) then bif decide ((w64 (x4 + 1)) ≤ (x0.size : Int)) then bif decide (0 ≤ x4) then bif decide (x4 ≤ (w64 (x4 + 1))) then bif decide (((rd_T133 (h64 ++ ([(S133.mk 0 0 (⟨#[]⟩ : ByteArray))] : List S133)) (w64 ((w64 ((h64.length : Int) - 1)) + 1))).f2).size + (x0.extract x4.toNat ((w64 (x4 + 1)).toNat)).size ≤ 9223372036854775807) then bif decide (0 ≤ (w64 ((w64 ((h64.length : Int) - 1)) + 1))) then bif decide ((w64 ((w64 ((h64.length : Int) - 1)) + 1)) < ((h64 ++ ([(S133.mk 0 0 (⟨#[]⟩ : ByteArray))] : List S133)).length : Int)) then rec (td Tryz.f80 5) (impl_TokensOf.s5 x0 (w64 (x4 + 1)) ((h64 ++ ([(S133.mk 0 0 (⟨#[]⟩ : ByteArray))] : List S133)).set ((w64 ((w64 ((h64.length : Int) - 1)) + 1)).toNat) (S133.mk ((rd_T133 (h64 ++ ([(S133.mk 0 0 (⟨#[]⟩ : ByteArray))] : List S133)) (w64 ((w64 ((h64.length : Int) - 1)) + 1))).f0) ((rd_T133 (h64 ++ ([(S133.mk 0 0 (⟨#[]⟩ : ByteArray))] : List S133)) (w64 ((w64 ((h64.length : Int) - 1)) + 1))).f1) (((rd_T133 (h64 ++ ([(S133.mk 0 0 (⟨#[]⟩ : ByteArray))] : List S133)) (w64 ((w64 ((h64.length : Int) - 1)) + 1))).f2) ++ (x0.extract x4.toNat ((w64 (x4 + 1)).toNat)))))) else none else none else none else none else none else none else none else none else none else none else bif decide (0 ≤ (w64 ((h64.length : Int) - 1))) then bif decide ((w64 ((h64.length : Int) - 1)) < (h64.length : Int)) then bif decide ((((rd_T133 h64 (w64 ((h64.length : Int) - 1))).f2).size : Int) ≥ 31) then bif decide (h64.length + ([(S133.mk 0 0 (⟨#[]⟩ : ByteArray))] : List S133).length ≤ 4398046511104) then bif decide (0 ≤ (w64 ((w64 ((h64.length : Int) - 1)) + 1))) then bif decide ((w64 ((w64 ((h64.length : Int) - 1)) + 1)) < ((h64 ++ ([(S133.mk 0 0 (⟨#[]⟩ : ByteArray))] : List S133)).length : Int)) then bif decide (0 ≤ (w64 (x4 + 1))) then bif decide ((w64 (x4 + 1)) ≤ (x0.size : Int)) then bif decide (0 ≤ x4) then bif decide (x4 ≤ (w64 (x4 + 1))) then bif decide (((rd_T133 (h64 ++ ([(S133.mk 0 0 (⟨#[]⟩ : ByteArray))] : List S133)) (w64 ((w64 ((h64.length : Int) - 1)) + 1))).f2).size + (x0.extract x4.toNat ((w64 (x4 + 1)).toNat)).size ≤ 9223372036854775807) then bif decide (0 ≤ (w64 ((w64 ((h64.length : Int) - 1)) + 1))) then bif decide ((w64 ((w64 ((h64.length : Int) - 1)) + 1)) < ((h64 ++ ([(S133.mk 0 0 (⟨#[]⟩ : ByteArray))] : List S133)).length : Int)) then rec (td Tryz.f80 5) (impl_TokensOf.s5 x0 (w64 (x4 + 1)) ((h64 ++ ([(S133.mk 0 0 (⟨#[]⟩ : ByteArray))] : List S133)).set ((w64 ((w64 ((h64.length : Int) - 1)) + 1)).toNat) (S133.mk ((rd_T133 (h64 ++ ([(S133.mk 0 0 (⟨#[]⟩ : ByteArray))] : List S133)) (w64 ((w64 ((h64.length : Int) - 1)) + 1))).f0) ((rd_T133 (h64 ++ ([(S133.mk 0 0 (⟨#[]⟩ : ByteArray))] : List S133)) (w64 ((w64 ((h64.length : Int) - 1)) + 1))).f1) (((rd_T133 (h64 ++ ([(S133.mk 0 0 (⟨#[]⟩ : ByteArray))] : List S133)) (w64 ((w64 ((h64.length : Int) - 1)) + 1))).f2) ++ (x0.extract x4.toNat ((w64 (x4 + 1)).toNat)))))) else none else none else none else none else none else none else none else none else none else none else bif decide (0 ≤ (w64 ((h64.length : Int) - 1))) then bif decide ((w64 ((h64.length : Int) - 1)) < (h64.length : Int)) then bif decide (0 ≤ (w64 (x4 + 1))) then bif decide ((w64 (x4 + 1)) ≤ (x0.size : Int)) then bif decide (0 ≤ x4) then bif decide (x4 ≤ (w64 (x4 + 1))) then bif decide (((rd_T133 h64 (w64 ((h64.length : Int) - 1))).f2).size + (x0.extract x4.toNat ((w64 (x4 + 1)).toNat)).size ≤ 9223372036854775807) then bif decide (0 ≤ (w64 ((h64.length : Int) - 1))) then bif decide ((w64 ((h64.length : Int) - 1)) < (h64.length : Int)) then rec (td Tryz.f80 5) (impl_TokensOf.s5 x0 (w64 (x4 + 1)) (h64.set ((w64 ((h64.length : Int) - 1)).toNat) (S133.mk ((rd_T133 h64 (w64 ((h64.length : Int) - 1))).f0) ((rd_T133 h64 (w64 ((h64.length : Int) - 1))).f1) (((rd_T133 h64 (w64 ((h64.length : Int) - 1))).f2) ++ (x0.extract x4.toNat ((w64 (x4 + 1)).toNat)))))) else none else none else none else none else none else none else none else none else none else none else none else none else none else some (impl_TokensOf.e (h64)):=by kernel_rfl
theorem impl_TokensOf.te (rec : List Item → St Ty D → R) (k : Nat) (a0 : ByteArray) : impl_TokensOf.g rec k [.code (body Tryz.f80)] (startSt [.sc (.string a0)] []) =
 bif decide ((a0.size : Int) > 64) then some (impl_TokensOf.e (([] : List S133))) else rec (td Tryz.f80 5) (impl_TokensOf.s5 a0 0 ([] : List S133)):=by kernel_rfl
theorem impl_TokensOf.ok : ∀ k : Nat,(∀ (x0 : ByteArray) (x4 : Int) (h64 : List S133),goF Tryz.f80 impl_TokensOf.ctx impl_TokensOf.sp 0 impl_TokensOf.en k (td Tryz.f80 5) (impl_TokensOf.s5 x0 x4 h64) = (impl_TokensOf.c5 k x0 x4 h64).map impl_TokensOf.e)
 | 0=>fun _ _ _=>rfl
 | k + 1=>by
  have ih:=impl_TokensOf.ok k;have i5:=ih;intro x0 x4 h64;rw [impl_TokensOf.c5];exact (impl_TokensOf.t5 _ k x0 x4 h64).trans (cd (bn (fun t1=>(cd (cd (i5 _ _ _) rfl) (cd (cd (cd (cd (cd (cd (cd (cd (cd (cd (cd (i5 _ _ _) rfl) rfl) rfl) rfl) rfl) rfl) rfl) rfl) rfl) rfl) (cd (cd (cd (cd (cd (cd (cd (cd (cd (cd (cd (cd (cd (i5 _ _ _) rfl) rfl) rfl) rfl) rfl) rfl) rfl) rfl) rfl) rfl) (cd (cd (cd (cd (cd (cd (cd (cd (cd (cd (cd (cd (cd (i5 _ _ _) rfl) rfl) rfl) rfl) rfl) rfl) rfl) rfl) rfl) rfl) (cd (cd (cd (cd (cd (cd (cd (cd (cd (i5 _ _ _) rfl) rfl) rfl) rfl) rfl) rfl) rfl) rfl) rfl)) rfl) rfl)) rfl) rfl))))) rfl)
theorem impl_TokensOf.oke (k : Nat) (a0 : ByteArray) : goF Tryz.f80 impl_TokensOf.ctx impl_TokensOf.sp 0 impl_TokensOf.en (k + 1) [.code (body Tryz.f80)] (startSt [.sc (.string a0)] []) = (impl_TokensOf.f k a0).map impl_TokensOf.e:=by
 have i5:=impl_TokensOf.ok k;rw [impl_TokensOf.f];exact (impl_TokensOf.te _ k a0).trans (cd rfl (i5 _ _ _))
theorem impl_TokensOf.con (k : Nat) (a0 : ByteArray) (r) (h : impl_TokensOf.f k a0 = some r) : Contract Tryz.prog kit 80 [.sc (.string a0)] [] (impl_TokensOf.e r).1 (impl_TokensOf.e r).2.1 (impl_TokensOf.e r).2.2 :=
 con_okG kitOk mix (fun k=>(CtxOk.cons (impl_matchAt.xok k) CtxOk.nil)) (impl_TokensOf.oke k a0) h (by kernel_rfl) (by kernel_rfl) (by kernel_rfl) rfl (by kernel_rfl) rfl rfl
def impl_TokensOf.x (k : Nat) : X:=fun ins bs κ=>match ins,bs with
 | [.sc (.string a0)],[]=>(impl_TokensOf.f k a0).bind fun r=>κ (impl_TokensOf.e r).1 (impl_TokensOf.e r).2.1 (impl_TokensOf.e r).2.2
 | _,_=>none
theorem impl_TokensOf.xok (k : Nat) : XOk 80 (impl_TokensOf.x k):=by
 intro ins bs κ res h;unfold impl_TokensOf.x at h
 split at h
 ·obtain ⟨r,hr,h⟩:=Option.bind_eq_some_iff.1 h;exact ⟨_,_,_,impl_TokensOf.con k _ r hr,h⟩
 cases h
end
end Go.Proofs.YtbbfkodckpfjcaaGreat.M2

namespace Go.Proofs.YtbbfkodckpfjcaaGreat.M2
open Go Go.Proofs.YtbbfkodckpfjcaaGreat.PK
set_option linter.unusedVariables false
set_option linter.unusedSimpArgs false
set_option maxHeartbeats 4000000
set_option maxRecDepth 100000
noncomputable section
def impl_PackText.sp : Nat → Option (Spec Ty):=fun r=>bif Nat.beq r 5 then some ⟨[(0,.keep),(4,.own .t5),(12,.own .t133),(13,.keep),(14,.keep)],[]⟩ else none
def impl_PackText.en : Option (Spec Ty):=none
def impl_PackText.s5 (x0 : ByteArray) (x13 : Int) (x14 : Int) (h64 : List Int) (h65 : List S133) : St Ty D:=⟨(Env.put (Env.put (Env.put (Env.put (Env.put E (some 0) (.sc (.string x0))) (some 4) (.sl 64 none)) (some 12) (.sl 65 none)) (some 13) (.sc (.int .i64 x13))) (some 14) (.sc (.int .i64 x14))),Heap.put H0 [(64,some (.rowb .t5 h64 0)),(65,some (.rowb .t133 h65 0))],1000⟩
def impl_PackText.ctx (k : Nat) : Ctx Ty D:=(cons 80 (impl_TokensOf.x k) (fun _ _ _ _=>none))
def impl_PackText.c5 : Nat → ByteArray → Int → Int → (List Int) → (List S133) → Option (ByteArray × Bool)
 | 0,_,_,_,_,_=>none
 | k + 1,x0,x13,x14,h64,h65=>(if x14 < x13 then (if 0 ≤ x14 then (if x14 < (h65.length : Int) then (if ((rd_T133 h65 x14).f0) > 0 then (if h64.length + ([(Go.IntKind.wrap .u8 ((w64 (128 + ((rd_T133 h65 x14).f1))))),(Go.IntKind.wrap .u8 ((rd_T133 h65 x14).f0))] : List Int).length ≤ 140737488355328 then (impl_PackText.c5 k x0 x13 (w64 (x14 + 1)) (h64 ++ ([(Go.IntKind.wrap .u8 ((w64 (128 + ((rd_T133 h65 x14).f1))))),(Go.IntKind.wrap .u8 ((rd_T133 h65 x14).f0))] : List Int)) h65) else none) else (if h64.length + ([(Go.IntKind.wrap .u8 ((((rd_T133 h65 x14).f2).size : Int)))] : List Int).length ≤ 140737488355328 then (if (h64 ++ ([(Go.IntKind.wrap .u8 ((((rd_T133 h65 x14).f2).size : Int)))] : List Int)).length + (bytesOf ((rd_T133 h65 x14).f2)).length ≤ 140737488355328 then (impl_PackText.c5 k x0 x13 (w64 (x14 + 1)) ((h64 ++ ([(Go.IntKind.wrap .u8 ((((rd_T133 h65 x14).f2).size : Int)))] : List Int)) ++ (bytesOf ((rd_T133 h65 x14).f2))) h65) else none) else none)) else none) else none) else (if (w64 ((x0.size : Int) + 1)) ≤ (h64.length : Int) then (if (⟨#[114]⟩ : ByteArray).size + x0.size ≤ 9223372036854775807 then (some (((⟨#[114]⟩ : ByteArray) ++ x0),true)) else none) else (some ((strOfNums h64),true))))
def impl_PackText.f (k : Nat) (a0 : ByteArray) : Option (ByteArray × Bool):=(if (a0.size : Int) > 64 then (some ((⟨#[]⟩ : ByteArray),false)) else ((impl_TokensOf.f k a0).bind fun t1=>(impl_PackText.c5 k a0 (t1.length : Int) 0 ([122] : List Int) t1)))
def impl_PackText.e (r : ByteArray × Bool) : Res Ty D:=(.tu [.sc (.string r.1),.sc (.bool r.2)],[],[])
abbrev impl_PackText.g (rec : List Item → St Ty D → R) (k : Nat):=go1 Tryz.f56 (impl_PackText.ctx k) impl_PackText.sp 0 impl_PackText.en rec
theorem impl_PackText.t5 (rec : List Item → St Ty D → R) (k : Nat) (x0 : ByteArray) (x13 : Int) (x14 : Int) (h64 : List Int) (h65 : List S133) : impl_PackText.g rec k (td Tryz.f56 5) (impl_PackText.s5 x0 x13 x14 h64 h65) =
 bif decide (x14 < x13) then bif decide (0 ≤ x14) then bif decide (x14 < (h65.length : Int)) then bif decide (((rd_T133 h65 x14).f0) > 0) then bif decide (h64.length + ([(Go.IntKind.wrap .u8 ((w64 (128 + ((rd_T133 h65 x14).f1))))),(Go.IntKind.wrap .u8 ((rd_T133 h65 x14).f0))] : List Int).length ≤ 140737488355328) then rec (td Tryz.f56 5) (impl_PackText.s5 x0 x13 (w64 (x14 + 1)) (h64 ++ ([(Go.IntKind.wrap .u8 ((w64 (128 + ((rd_T133 h65 x14).f1))))),(Go.IntKind.wrap .u8 ((rd_T133 h65 x14).f0))] : List Int)) h65) else none else bif decide (h64.length + ([(Go.IntKind.wrap .u8 ((((rd_T133 h65 x14).f2).size : Int)))] : List Int).length ≤ 140737488355328) then bif decide ((h64 ++ ([(Go.IntKind.wrap .u8 ((((rd_T133 h65 x14).f2).size : Int)))] : List Int)).length + (bytesOf ((rd_T133 h65 x14).f2)).length ≤ 140737488355328) then rec (td Tryz.f56 5) (impl_PackText.s5 x0 x13 (w64 (x14 + 1)) ((h64 ++ ([(Go.IntKind.wrap .u8 ((((rd_T133 h65 x14).f2).size : Int)))] : List Int)) ++ (bytesOf ((rd_T133 h65 x14).f2))) h65) else none else none else none else none else bif decide ((w64 ((x0.size : Int) + 1)) ≤ (h64.length : Int)) then bif decide ((⟨#[114]⟩ : ByteArray).size + x0.size ≤ 9223372036854775807) then some (impl_PackText.e (((⟨#[114]⟩ : ByteArray) ++ x0),true)) else none else some (impl_PackText.e ((strOfNums h64),true)):=by kernel_rfl
theorem impl_PackText.te (rec : List Item → St Ty D → R) (k : Nat) (a0 : ByteArray) : impl_PackText.g rec k [.code (body Tryz.f56)] (startSt [.sc (.string a0)] []) =
 bif decide ((a0.size : Int) > 64) then some (impl_PackText.e ((⟨#[]⟩ : ByteArray),false)) else (impl_TokensOf.f k a0).bind fun t1=>rec (td Tryz.f56 5) (impl_PackText.s5 a0 (t1.length : Int) 0 ([122] : List Int) t1):=by kernel_rfl
theorem impl_PackText.ok : ∀ k : Nat,(∀ (x0 : ByteArray) (x13 : Int) (x14 : Int) (h64 : List Int) (h65 : List S133),goF Tryz.f56 impl_PackText.ctx impl_PackText.sp 0 impl_PackText.en k (td Tryz.f56 5) (impl_PackText.s5 x0 x13 x14 h64 h65) = (impl_PackText.c5 k x0 x13 x14 h64 h65).map impl_PackText.e)
 | 0=>fun _ _ _ _ _=>rfl
 | k + 1=>by
  have ih:=impl_PackText.ok k;have i5:=ih;intro x0 x13 x14 h64 h65;rw [impl_PackText.c5];exact (impl_PackText.t5 _ k x0 x13 x14 h64 h65).trans (cd (cd (cd (cd (cd (i5 _ _ _ _ _) rfl) (cd (cd (i5 _ _ _ _ _) rfl) rfl)) rfl) rfl) (cd (cd rfl rfl) rfl))
theorem impl_PackText.oke (k : Nat) (a0 : ByteArray) : goF Tryz.f56 impl_PackText.ctx impl_PackText.sp 0 impl_PackText.en (k + 1) [.code (body Tryz.f56)] (startSt [.sc (.string a0)] []) = (impl_PackText.f k a0).map impl_PackText.e:=by
 have i5:=impl_PackText.ok k;rw [impl_PackText.f];exact (impl_PackText.te _ k a0).trans (cd rfl (bn (fun t1=>(i5 _ _ _ _ _))))
theorem impl_PackText.con (k : Nat) (a0 : ByteArray) (r) (h : impl_PackText.f k a0 = some r) : Contract Tryz.prog kit 56 [.sc (.string a0)] [] (impl_PackText.e r).1 (impl_PackText.e r).2.1 (impl_PackText.e r).2.2 :=
 con_okG kitOk mix (fun k=>(CtxOk.cons (impl_TokensOf.xok k) CtxOk.nil)) (impl_PackText.oke k a0) h (by kernel_rfl) (by kernel_rfl) (by kernel_rfl) rfl (by kernel_rfl) rfl rfl
def impl_PackText.x (k : Nat) : X:=fun ins bs κ=>match ins,bs with
 | [.sc (.string a0)],[]=>(impl_PackText.f k a0).bind fun r=>κ (impl_PackText.e r).1 (impl_PackText.e r).2.1 (impl_PackText.e r).2.2
 | _,_=>none
theorem impl_PackText.xok (k : Nat) : XOk 56 (impl_PackText.x k):=by
 intro ins bs κ res h;unfold impl_PackText.x at h
 split at h
 ·obtain ⟨r,hr,h⟩:=Option.bind_eq_some_iff.1 h;exact ⟨_,_,_,impl_PackText.con k _ r hr,h⟩
 cases h
def impl_UnpackText.sp : Nat → Option (Spec Ty):=fun r=>none
def impl_UnpackText.en : Option (Spec Ty):=none
def impl_UnpackText.ctx (k : Nat) : Ctx Ty D:=(cons 54 (impl_tokensIn.x k) (cons 55 (impl_PlainOf.x k) (cons 56 (impl_PackText.x k) (fun _ _ _ _=>none))))
def impl_UnpackText.f (k : Nat) (a0 : ByteArray) : Option (ByteArray × Bool):=(if (seq a0 (⟨#[]⟩ : ByteArray)) = true then (some ((⟨#[]⟩ : ByteArray),false)) else (if 1 ≤ (a0.size : Int) then (if 0 < (a0.size : Int) then (if (bt a0 0) = 114 then ((impl_PackText.f k (a0.extract 1 a0.size)).bind fun t4=>(if t4.2 = true then (if (seq t4.1 a0) = true then (some ((a0.extract 1 a0.size),true)) else (some ((⟨#[]⟩ : ByteArray),false))) else (some ((⟨#[]⟩ : ByteArray),false)))) else ((impl_tokensIn.f k (a0.extract 1 a0.size)).bind fun t1=>((impl_PlainOf.f k t1.1).bind fun t2=>(if t1.2 = true then (if t2.2 = true then ((impl_PackText.f k t2.1).bind fun t3=>(if t3.2 = true then (if (seq t3.1 a0) = true then (some (t2.1,true)) else (some ((⟨#[]⟩ : ByteArray),false))) else (some ((⟨#[]⟩ : ByteArray),false)))) else (some ((⟨#[]⟩ : ByteArray),false))) else (some ((⟨#[]⟩ : ByteArray),false)))))) else none) else none))
def impl_UnpackText.e (r : ByteArray × Bool) : Res Ty D:=(.tu [.sc (.string r.1),.sc (.bool r.2)],[],[])
abbrev impl_UnpackText.g (rec : List Item → St Ty D → R) (k : Nat):=go1 Tryz.f33 (impl_UnpackText.ctx k) impl_UnpackText.sp 0 impl_UnpackText.en rec
theorem impl_UnpackText.te (rec : List Item → St Ty D → R) (k : Nat) (a0 : ByteArray) : impl_UnpackText.g rec k [.code (body Tryz.f33)] (startSt [.sc (.string a0)] []) =
 bif (seq a0 (⟨#[]⟩ : ByteArray)) then some (impl_UnpackText.e ((⟨#[]⟩ : ByteArray),false)) else bif decide (1 ≤ (a0.size : Int)) then bif decide (0 < (a0.size : Int)) then bif !decide ((bt a0 0) = 114) then (impl_tokensIn.f k (a0.extract 1 a0.size)).bind fun t1=>(impl_PlainOf.f k t1.1).bind fun t2=>bif !t1.2 then some (impl_UnpackText.e ((⟨#[]⟩ : ByteArray),false)) else bif !t2.2 then some (impl_UnpackText.e ((⟨#[]⟩ : ByteArray),false)) else (impl_PackText.f k t2.1).bind fun t3=>bif !t3.2 then some (impl_UnpackText.e ((⟨#[]⟩ : ByteArray),false)) else bif !(seq t3.1 a0) then some (impl_UnpackText.e ((⟨#[]⟩ : ByteArray),false)) else some (impl_UnpackText.e (t2.1,true)) else (impl_PackText.f k (a0.extract 1 a0.size)).bind fun t4=>bif !t4.2 then some (impl_UnpackText.e ((⟨#[]⟩ : ByteArray),false)) else bif !(seq t4.1 a0) then some (impl_UnpackText.e ((⟨#[]⟩ : ByteArray),false)) else some (impl_UnpackText.e ((a0.extract 1 a0.size),true)) else none else none:=by kernel_rfl
theorem impl_UnpackText.oke (k : Nat) (a0 : ByteArray) : goF Tryz.f33 impl_UnpackText.ctx impl_UnpackText.sp 0 impl_UnpackText.en (k + 1) [.code (body Tryz.f33)] (startSt [.sc (.string a0)] []) = (impl_UnpackText.f k a0).map impl_UnpackText.e:=by
 rw [impl_UnpackText.f];exact (impl_UnpackText.te _ k a0).trans (cb rfl (cd (cd (nd (bn (fun t1=>(bn (fun t2=>(nb rfl (nb rfl (bn (fun t3=>(nb rfl (nb rfl rfl)))))))))) (bn (fun t4=>(nb rfl (nb rfl rfl))))) rfl) rfl))
theorem impl_UnpackText.con (k : Nat) (a0 : ByteArray) (r) (h : impl_UnpackText.f k a0 = some r) : Contract Tryz.prog kit 33 [.sc (.string a0)] [] (impl_UnpackText.e r).1 (impl_UnpackText.e r).2.1 (impl_UnpackText.e r).2.2 :=
 con_okG kitOk mix (fun k=>(CtxOk.cons (impl_tokensIn.xok k) (CtxOk.cons (impl_PlainOf.xok k) (CtxOk.cons (impl_PackText.xok k) CtxOk.nil)))) (impl_UnpackText.oke k a0) h (by kernel_rfl) (by kernel_rfl) (by kernel_rfl) rfl (by kernel_rfl) rfl rfl
def impl_UnpackText.x (k : Nat) : X:=fun ins bs κ=>match ins,bs with
 | [.sc (.string a0)],[]=>(impl_UnpackText.f k a0).bind fun r=>κ (impl_UnpackText.e r).1 (impl_UnpackText.e r).2.1 (impl_UnpackText.e r).2.2
 | _,_=>none
theorem impl_UnpackText.xok (k : Nat) : XOk 33 (impl_UnpackText.x k):=by
 intro ins bs κ res h;unfold impl_UnpackText.x at h
 split at h
 ·obtain ⟨r,hr,h⟩:=Option.bind_eq_some_iff.1 h;exact ⟨_,_,_,impl_UnpackText.con k _ r hr,h⟩
 cases h
def impl_ChunkText.sp : Nat → Option (Spec Ty):=fun r=>none
def impl_ChunkText.en : Option (Spec Ty):=none
def impl_ChunkText.ctx (k : Nat) : Ctx Ty D:=(cons 32 (impl_dataOf.x k) (cons 33 (impl_UnpackText.x k) (fun _ _ _ _=>none)))
def impl_ChunkText.f (k : Nat) (a0_0 : List S68) (a1 : Int) : Option (ByteArray × Bool):=((impl_dataOf.f k a0_0 a1).bind fun t1=>(if t1.2.2.2.2.2.2.2.2 = true then ((impl_UnpackText.f k t1.2.2.2.2.2.2.2.1).bind fun t2=>(some (t2.1,t2.2))) else (some ((⟨#[]⟩ : ByteArray),false))))
def impl_ChunkText.e (r : ByteArray × Bool) : Res Ty D:=(.tu [.sc (.string r.1),.sc (.bool r.2)],[],[])
abbrev impl_ChunkText.g (rec : List Item → St Ty D → R) (k : Nat):=go1 Tryz.f17 (impl_ChunkText.ctx k) impl_ChunkText.sp 0 impl_ChunkText.en rec
theorem impl_ChunkText.te (rec : List Item → St Ty D → R) (k : Nat) (a0_0 : List S68) (a1 : Int) : impl_ChunkText.g rec k [.code (body Tryz.f17)] (startSt [.ag [.row 0 .t68 a0_0],.sc (.int .i64 a1)] []) =
 (impl_dataOf.f k a0_0 a1).bind fun t1=>bif !t1.2.2.2.2.2.2.2.2 then some (impl_ChunkText.e ((⟨#[]⟩ : ByteArray),false)) else (impl_UnpackText.f k t1.2.2.2.2.2.2.2.1).bind fun t2=>some (impl_ChunkText.e (t2.1,t2.2)):=by kernel_rfl
theorem impl_ChunkText.oke (k : Nat) (a0_0 : List S68) (a1 : Int) : goF Tryz.f17 impl_ChunkText.ctx impl_ChunkText.sp 0 impl_ChunkText.en (k + 1) [.code (body Tryz.f17)] (startSt [.ag [.row 0 .t68 a0_0],.sc (.int .i64 a1)] []) = (impl_ChunkText.f k a0_0 a1).map impl_ChunkText.e:=by
 rw [impl_ChunkText.f];exact (impl_ChunkText.te _ k a0_0 a1).trans (bn (fun t1=>(nb rfl (bn (fun t2=>rfl)))))
theorem impl_ChunkText.con (k : Nat) (a0_0 : List S68) (a1 : Int) (r) (h : impl_ChunkText.f k a0_0 a1 = some r) : Contract Tryz.prog kit 17 [.ag [.row 0 .t68 a0_0],.sc (.int .i64 a1)] [] (impl_ChunkText.e r).1 (impl_ChunkText.e r).2.1 (impl_ChunkText.e r).2.2 :=
 con_okG kitOk mix (fun k=>(CtxOk.cons (impl_dataOf.xok k) (CtxOk.cons (impl_UnpackText.xok k) CtxOk.nil))) (impl_ChunkText.oke k a0_0 a1) h (by kernel_rfl) (by kernel_rfl) (by kernel_rfl) rfl (by kernel_rfl) rfl rfl
def impl_ChunkText.x (k : Nat) : X:=fun ins bs κ=>match ins,bs with
 | [.ag [.row 0 .t68 a0_0],.sc (.int .i64 a1)],[]=>(impl_ChunkText.f k a0_0 a1).bind fun r=>κ (impl_ChunkText.e r).1 (impl_ChunkText.e r).2.1 (impl_ChunkText.e r).2.2
 | _,_=>none
theorem impl_ChunkText.xok (k : Nat) : XOk 17 (impl_ChunkText.x k):=by
 intro ins bs κ res h;unfold impl_ChunkText.x at h
 split at h
 ·obtain ⟨r,hr,h⟩:=Option.bind_eq_some_iff.1 h;exact ⟨_,_,_,impl_ChunkText.con k _ _ r hr,h⟩
 cases h
def impl_ReadOf.sp : Nat → Option (Spec Ty):=fun r=>none
def impl_ReadOf.en : Option (Spec Ty):=none
def impl_ReadOf.ctx (k : Nat) : Ctx Ty D:=(cons 15 (impl_volAt.x k) (cons 16 (impl_ChunkOf.x k) (cons 17 (impl_ChunkText.x k) (fun _ _ _ _=>none))))
def impl_ReadOf.f (k : Nat) (a0_0 : List S68) (a0_1 : List S80) (a0_2 : List S128) (a0_3 : Int) (a0_4 : Int) (a0_5 : Int) (a0_6 : Int) (a1 : Int) (a2 : Int) : Option (ByteArray × Bool):=((impl_volAt.f k a0_1 a0_2 a0_3 a1).bind fun t1=>(if t1 < 0 then (some ((⟨#[]⟩ : ByteArray),false)) else ((impl_ChunkOf.f k a0_1 a0_2 a0_3 a1 a2).bind fun t2=>(if t2 = 0 then (some ((⟨#[]⟩ : ByteArray),true)) else ((impl_ChunkText.f k a0_0 t2).bind fun t3=>(some (t3.1,t3.2)))))))
def impl_ReadOf.e (r : ByteArray × Bool) : Res Ty D:=(.tu [.sc (.string r.1),.sc (.bool r.2)],[],[])
abbrev impl_ReadOf.g (rec : List Item → St Ty D → R) (k : Nat):=go1 Tryz.f7 (impl_ReadOf.ctx k) impl_ReadOf.sp 0 impl_ReadOf.en rec
theorem impl_ReadOf.te (rec : List Item → St Ty D → R) (k : Nat) (a0_0 : List S68) (a0_1 : List S80) (a0_2 : List S128) (a0_3 : Int) (a0_4 : Int) (a0_5 : Int) (a0_6 : Int) (a1 : Int) (a2 : Int) : impl_ReadOf.g rec k [.code (body Tryz.f7)] (startSt [.ag [.row 0 .t68 a0_0,.row 0 .t80 a0_1,.row 0 .t128 a0_2,.sc (.int .i64 a0_3),.sc (.int .i64 a0_4),.sc (.int .i64 a0_5),.sc (.int .i64 a0_6)],.sc (.int .i64 a1),.sc (.int .i64 a2)] []) =
 (impl_volAt.f k a0_1 a0_2 a0_3 a1).bind fun t1=>bif decide (t1 < 0) then some (impl_ReadOf.e ((⟨#[]⟩ : ByteArray),false)) else (impl_ChunkOf.f k a0_1 a0_2 a0_3 a1 a2).bind fun t2=>bif decide (t2 = 0) then some (impl_ReadOf.e ((⟨#[]⟩ : ByteArray),true)) else (impl_ChunkText.f k a0_0 t2).bind fun t3=>some (impl_ReadOf.e (t3.1,t3.2)):=by kernel_rfl
theorem impl_ReadOf.oke (k : Nat) (a0_0 : List S68) (a0_1 : List S80) (a0_2 : List S128) (a0_3 : Int) (a0_4 : Int) (a0_5 : Int) (a0_6 : Int) (a1 : Int) (a2 : Int) : goF Tryz.f7 impl_ReadOf.ctx impl_ReadOf.sp 0 impl_ReadOf.en (k + 1) [.code (body Tryz.f7)] (startSt [.ag [.row 0 .t68 a0_0,.row 0 .t80 a0_1,.row 0 .t128 a0_2,.sc (.int .i64 a0_3),.sc (.int .i64 a0_4),.sc (.int .i64 a0_5),.sc (.int .i64 a0_6)],.sc (.int .i64 a1),.sc (.int .i64 a2)] []) = (impl_ReadOf.f k a0_0 a0_1 a0_2 a0_3 a0_4 a0_5 a0_6 a1 a2).map impl_ReadOf.e:=by
 rw [impl_ReadOf.f];exact (impl_ReadOf.te _ k a0_0 a0_1 a0_2 a0_3 a0_4 a0_5 a0_6 a1 a2).trans (bn (fun t1=>(cd rfl (bn (fun t2=>(cd rfl (bn (fun t3=>rfl))))))))
theorem impl_ReadOf.con (k : Nat) (a0_0 : List S68) (a0_1 : List S80) (a0_2 : List S128) (a0_3 : Int) (a0_4 : Int) (a0_5 : Int) (a0_6 : Int) (a1 : Int) (a2 : Int) (r) (h : impl_ReadOf.f k a0_0 a0_1 a0_2 a0_3 a0_4 a0_5 a0_6 a1 a2 = some r) : Contract Tryz.prog kit 7 [.ag [.row 0 .t68 a0_0,.row 0 .t80 a0_1,.row 0 .t128 a0_2,.sc (.int .i64 a0_3),.sc (.int .i64 a0_4),.sc (.int .i64 a0_5),.sc (.int .i64 a0_6)],.sc (.int .i64 a1),.sc (.int .i64 a2)] [] (impl_ReadOf.e r).1 (impl_ReadOf.e r).2.1 (impl_ReadOf.e r).2.2 :=
 con_okG kitOk mix (fun k=>(CtxOk.cons (impl_volAt.xok k) (CtxOk.cons (impl_ChunkOf.xok k) (CtxOk.cons (impl_ChunkText.xok k) CtxOk.nil)))) (impl_ReadOf.oke k a0_0 a0_1 a0_2 a0_3 a0_4 a0_5 a0_6 a1 a2) h (by kernel_rfl) (by kernel_rfl) (by kernel_rfl) rfl (by kernel_rfl) rfl rfl
def impl_ReadOf.x (k : Nat) : X:=fun ins bs κ=>match ins,bs with
 | [.ag [.row 0 .t68 a0_0,.row 0 .t80 a0_1,.row 0 .t128 a0_2,.sc (.int .i64 a0_3),.sc (.int .i64 a0_4),.sc (.int .i64 a0_5),.sc (.int .i64 a0_6)],.sc (.int .i64 a1),.sc (.int .i64 a2)],[]=>(impl_ReadOf.f k a0_0 a0_1 a0_2 a0_3 a0_4 a0_5 a0_6 a1 a2).bind fun r=>κ (impl_ReadOf.e r).1 (impl_ReadOf.e r).2.1 (impl_ReadOf.e r).2.2
 | _,_=>none
theorem impl_ReadOf.xok (k : Nat) : XOk 7 (impl_ReadOf.x k):=by
 intro ins bs κ res h;unfold impl_ReadOf.x at h
 split at h
 ·obtain ⟨r,hr,h⟩:=Option.bind_eq_some_iff.1 h;exact ⟨_,_,_,impl_ReadOf.con k _ _ _ _ _ _ _ _ _ r hr,h⟩
 cases h
def laws_eqLeaf.sp : Nat → Option (Spec Ty):=fun r=>none
def laws_eqLeaf.en : Option (Spec Ty):=none
def laws_eqLeaf.ctx (k : Nat) : Ctx Ty D:=(fun _ _ _ _=>none)
def laws_eqLeaf.f (k : Nat) (a0_0 : Int) (a0_1 : ByteArray) (a1_0 : Int) (a1_1 : ByteArray) : Option (Bool):=(if a0_0 = a1_0 then (if (seq a0_1 a1_1) = true then (some (true)) else (some (false))) else (some (false)))
def laws_eqLeaf.e (r : Bool) : Res Ty D:=(.sc (.bool r),[],[])
abbrev laws_eqLeaf.g (rec : List Item → St Ty D → R) (k : Nat):=go1 Tryz.f97 (laws_eqLeaf.ctx k) laws_eqLeaf.sp 0 laws_eqLeaf.en rec
theorem laws_eqLeaf.te (rec : List Item → St Ty D → R) (k : Nat) (a0_0 : Int) (a0_1 : ByteArray) (a1_0 : Int) (a1_1 : ByteArray) : laws_eqLeaf.g rec k [.code (body Tryz.f97)] (startSt [.ag [.sc (.int .i64 a0_0),.sc (.string a0_1)],.ag [.sc (.int .i64 a1_0),.sc (.string a1_1)]] []) =
 bif !decide (a0_0 = a1_0) then some (laws_eqLeaf.e (false)) else bif !(seq a0_1 a1_1) then some (laws_eqLeaf.e (false)) else some (laws_eqLeaf.e (true)):=by kernel_rfl
theorem laws_eqLeaf.oke (k : Nat) (a0_0 : Int) (a0_1 : ByteArray) (a1_0 : Int) (a1_1 : ByteArray) : goF Tryz.f97 laws_eqLeaf.ctx laws_eqLeaf.sp 0 laws_eqLeaf.en (k + 1) [.code (body Tryz.f97)] (startSt [.ag [.sc (.int .i64 a0_0),.sc (.string a0_1)],.ag [.sc (.int .i64 a1_0),.sc (.string a1_1)]] []) = (laws_eqLeaf.f k a0_0 a0_1 a1_0 a1_1).map laws_eqLeaf.e:=by
 rw [laws_eqLeaf.f];exact (laws_eqLeaf.te _ k a0_0 a0_1 a1_0 a1_1).trans (nd rfl (nb rfl rfl))
theorem laws_eqLeaf.con (k : Nat) (a0_0 : Int) (a0_1 : ByteArray) (a1_0 : Int) (a1_1 : ByteArray) (r) (h : laws_eqLeaf.f k a0_0 a0_1 a1_0 a1_1 = some r) : Contract Tryz.prog kit 97 [.ag [.sc (.int .i64 a0_0),.sc (.string a0_1)],.ag [.sc (.int .i64 a1_0),.sc (.string a1_1)]] [] (laws_eqLeaf.e r).1 (laws_eqLeaf.e r).2.1 (laws_eqLeaf.e r).2.2 :=
 con_okG kitOk mix (fun k=>CtxOk.nil) (laws_eqLeaf.oke k a0_0 a0_1 a1_0 a1_1) h (by kernel_rfl) (by kernel_rfl) (by kernel_rfl) rfl (by kernel_rfl) rfl rfl
def laws_eqLeaf.x (k : Nat) : X:=fun ins bs κ=>match ins,bs with
 | [.ag [.sc (.int .i64 a0_0),.sc (.string a0_1)],.ag [.sc (.int .i64 a1_0),.sc (.string a1_1)]],[]=>(laws_eqLeaf.f k a0_0 a0_1 a1_0 a1_1).bind fun r=>κ (laws_eqLeaf.e r).1 (laws_eqLeaf.e r).2.1 (laws_eqLeaf.e r).2.2
 | _,_=>none
theorem laws_eqLeaf.xok (k : Nat) : XOk 97 (laws_eqLeaf.x k):=by
 intro ins bs κ res h;unfold laws_eqLeaf.x at h
 split at h
 ·obtain ⟨r,hr,h⟩:=Option.bind_eq_some_iff.1 h;exact ⟨_,_,_,laws_eqLeaf.con k _ _ _ _ r hr,h⟩
 cases h
def laws_eqLeafS.sp : Nat → Option (Spec Ty):=fun r=>bif Nat.beq r 4 then some ⟨[(0,.keep),(1,.keep),(5,.keep)],[]⟩ else none
def laws_eqLeafS.en : Option (Spec Ty):=none
def laws_eqLeafS.s4 (x0 : List S96) (x1 : List S96) (x5 : Int) : St Ty D:=⟨(Env.put (Env.put (Env.put E (some 0) (.row 0 .t96 x0)) (some 1) (.row 0 .t96 x1)) (some 5) (.sc (.int .i64 x5))),H0,1000⟩
def laws_eqLeafS.ctx (k : Nat) : Ctx Ty D:=(cons 97 (laws_eqLeaf.x k) (fun _ _ _ _=>none))
def laws_eqLeafS.c4 : Nat → (List S96) → (List S96) → Int → Option (Bool)
 | 0,_,_,_=>none
 | k + 1,x0,x1,x5=>(if x5 < (x0.length : Int) then (if 0 ≤ x5 then (if x5 < (x0.length : Int) then (if 0 ≤ x5 then (if x5 < (x1.length : Int) then ((laws_eqLeaf.f k ((rd_T96 x0 x5).f0) ((rd_T96 x0 x5).f1) ((rd_T96 x1 x5).f0) ((rd_T96 x1 x5).f1)).bind fun t1=>(if t1 = true then (laws_eqLeafS.c4 k x0 x1 (w64 (x5 + 1))) else (some (false)))) else none) else none) else none) else none) else (some (true)))
def laws_eqLeafS.f (k : Nat) (a0 : List S96) (a1 : List S96) : Option (Bool):=(if (a0.length : Int) = (a1.length : Int) then (laws_eqLeafS.c4 k a0 a1 0) else (some (false)))
def laws_eqLeafS.e (r : Bool) : Res Ty D:=(.sc (.bool r),[],[])
abbrev laws_eqLeafS.g (rec : List Item → St Ty D → R) (k : Nat):=go1 Tryz.f81 (laws_eqLeafS.ctx k) laws_eqLeafS.sp 0 laws_eqLeafS.en rec
theorem laws_eqLeafS.t4 (rec : List Item → St Ty D → R) (k : Nat) (x0 : List S96) (x1 : List S96) (x5 : Int) : laws_eqLeafS.g rec k (td Tryz.f81 4) (laws_eqLeafS.s4 x0 x1 x5) =
 bif decide (x5 < (x0.length : Int)) then bif decide (0 ≤ x5) then bif decide (x5 < (x0.length : Int)) then bif decide (0 ≤ x5) then bif decide (x5 < (x1.length : Int)) then (laws_eqLeaf.f k ((rd_T96 x0 x5).f0) ((rd_T96 x0 x5).f1) ((rd_T96 x1 x5).f0) ((rd_T96 x1 x5).f1)).bind fun t1=>bif !t1 then some (laws_eqLeafS.e (false)) else rec (td Tryz.f81 4) (laws_eqLeafS.s4 x0 x1 (w64 (x5 + 1))) else none else none else none else none else some (laws_eqLeafS.e (true)):=by kernel_rfl
theorem laws_eqLeafS.te (rec : List Item → St Ty D → R) (k : Nat) (a0 : List S96) (a1 : List S96) : laws_eqLeafS.g rec k [.code (body Tryz.f81)] (startSt [.row 0 .t96 a0,.row 0 .t96 a1] []) =
 bif !decide ((a0.length : Int) = (a1.length : Int)) then some (laws_eqLeafS.e (false)) else rec (td Tryz.f81 4) (laws_eqLeafS.s4 a0 a1 0):=by kernel_rfl
theorem laws_eqLeafS.ok : ∀ k : Nat,(∀ (x0 : List S96) (x1 : List S96) (x5 : Int),goF Tryz.f81 laws_eqLeafS.ctx laws_eqLeafS.sp 0 laws_eqLeafS.en k (td Tryz.f81 4) (laws_eqLeafS.s4 x0 x1 x5) = (laws_eqLeafS.c4 k x0 x1 x5).map laws_eqLeafS.e)
 | 0=>fun _ _ _=>rfl
 | k + 1=>by
  have ih:=laws_eqLeafS.ok k;have i4:=ih;intro x0 x1 x5;rw [laws_eqLeafS.c4];exact (laws_eqLeafS.t4 _ k x0 x1 x5).trans (cd (cd (cd (cd (cd (bn (fun t1=>(nb rfl (i4 _ _ _)))) rfl) rfl) rfl) rfl) rfl)
theorem laws_eqLeafS.oke (k : Nat) (a0 : List S96) (a1 : List S96) : goF Tryz.f81 laws_eqLeafS.ctx laws_eqLeafS.sp 0 laws_eqLeafS.en (k + 1) [.code (body Tryz.f81)] (startSt [.row 0 .t96 a0,.row 0 .t96 a1] []) = (laws_eqLeafS.f k a0 a1).map laws_eqLeafS.e:=by
 have i4:=laws_eqLeafS.ok k;rw [laws_eqLeafS.f];exact (laws_eqLeafS.te _ k a0 a1).trans (nd rfl (i4 _ _ _))
theorem laws_eqLeafS.con (k : Nat) (a0 : List S96) (a1 : List S96) (r) (h : laws_eqLeafS.f k a0 a1 = some r) : Contract Tryz.prog kit 81 [.row 0 .t96 a0,.row 0 .t96 a1] [] (laws_eqLeafS.e r).1 (laws_eqLeafS.e r).2.1 (laws_eqLeafS.e r).2.2 :=
 con_okG kitOk mix (fun k=>(CtxOk.cons (laws_eqLeaf.xok k) CtxOk.nil)) (laws_eqLeafS.oke k a0 a1) h (by kernel_rfl) (by kernel_rfl) (by kernel_rfl) rfl (by kernel_rfl) rfl rfl
def laws_eqLeafS.x (k : Nat) : X:=fun ins bs κ=>match ins,bs with
 | [.row 0 .t96 a0,.row 0 .t96 a1],[]=>(laws_eqLeafS.f k a0 a1).bind fun r=>κ (laws_eqLeafS.e r).1 (laws_eqLeafS.e r).2.1 (laws_eqLeafS.e r).2.2
 | _,_=>none
theorem laws_eqLeafS.xok (k : Nat) : XOk 81 (laws_eqLeafS.x k):=by
 intro ins bs κ res h;unfold laws_eqLeafS.x at h
 split at h
 ·obtain ⟨r,hr,h⟩:=Option.bind_eq_some_iff.1 h;exact ⟨_,_,_,laws_eqLeafS.con k _ _ r hr,h⟩
 cases h
def laws_eqBlock.sp : Nat → Option (Spec Ty):=fun r=>none
def laws_eqBlock.en : Option (Spec Ty):=none
def laws_eqBlock.ctx (k : Nat) : Ctx Ty D:=(cons 81 (laws_eqLeafS.x k) (fun _ _ _ _=>none))
def laws_eqBlock.f (k : Nat) (a0_0 : Bool) (a0_1 : Int) (a0_2 : List S96) (a1_0 : Bool) (a1_1 : Int) (a1_2 : List S96) : Option (Bool):=(if (a0_0 == a1_0) = true then (if a0_1 = a1_1 then ((laws_eqLeafS.f k a0_2 a1_2).bind fun t1=>(if t1 = true then (some (true)) else (some (false)))) else (some (false))) else (some (false)))
def laws_eqBlock.e (r : Bool) : Res Ty D:=(.sc (.bool r),[],[])
abbrev laws_eqBlock.g (rec : List Item → St Ty D → R) (k : Nat):=go1 Tryz.f57 (laws_eqBlock.ctx k) laws_eqBlock.sp 0 laws_eqBlock.en rec
theorem laws_eqBlock.te (rec : List Item → St Ty D → R) (k : Nat) (a0_0 : Bool) (a0_1 : Int) (a0_2 : List S96) (a1_0 : Bool) (a1_1 : Int) (a1_2 : List S96) : laws_eqBlock.g rec k [.code (body Tryz.f57)] (startSt [.ag [.sc (.bool a0_0),.sc (.int .i64 a0_1),.row 0 .t96 a0_2],.ag [.sc (.bool a1_0),.sc (.int .i64 a1_1),.row 0 .t96 a1_2]] []) =
 bif !(a0_0 == a1_0) then some (laws_eqBlock.e (false)) else bif !decide (a0_1 = a1_1) then some (laws_eqBlock.e (false)) else (laws_eqLeafS.f k a0_2 a1_2).bind fun t1=>bif !t1 then some (laws_eqBlock.e (false)) else some (laws_eqBlock.e (true)):=by kernel_rfl
theorem laws_eqBlock.oke (k : Nat) (a0_0 : Bool) (a0_1 : Int) (a0_2 : List S96) (a1_0 : Bool) (a1_1 : Int) (a1_2 : List S96) : goF Tryz.f57 laws_eqBlock.ctx laws_eqBlock.sp 0 laws_eqBlock.en (k + 1) [.code (body Tryz.f57)] (startSt [.ag [.sc (.bool a0_0),.sc (.int .i64 a0_1),.row 0 .t96 a0_2],.ag [.sc (.bool a1_0),.sc (.int .i64 a1_1),.row 0 .t96 a1_2]] []) = (laws_eqBlock.f k a0_0 a0_1 a0_2 a1_0 a1_1 a1_2).map laws_eqBlock.e:=by
 rw [laws_eqBlock.f];exact (laws_eqBlock.te _ k a0_0 a0_1 a0_2 a1_0 a1_1 a1_2).trans (nb rfl (nd rfl (bn (fun t1=>(nb rfl rfl)))))
theorem laws_eqBlock.con (k : Nat) (a0_0 : Bool) (a0_1 : Int) (a0_2 : List S96) (a1_0 : Bool) (a1_1 : Int) (a1_2 : List S96) (r) (h : laws_eqBlock.f k a0_0 a0_1 a0_2 a1_0 a1_1 a1_2 = some r) : Contract Tryz.prog kit 57 [.ag [.sc (.bool a0_0),.sc (.int .i64 a0_1),.row 0 .t96 a0_2],.ag [.sc (.bool a1_0),.sc (.int .i64 a1_1),.row 0 .t96 a1_2]] [] (laws_eqBlock.e r).1 (laws_eqBlock.e r).2.1 (laws_eqBlock.e r).2.2 :=
 con_okG kitOk mix (fun k=>(CtxOk.cons (laws_eqLeafS.xok k) CtxOk.nil)) (laws_eqBlock.oke k a0_0 a0_1 a0_2 a1_0 a1_1 a1_2) h (by kernel_rfl) (by kernel_rfl) (by kernel_rfl) rfl (by kernel_rfl) rfl rfl
def laws_eqBlock.x (k : Nat) : X:=fun ins bs κ=>match ins,bs with
 | [.ag [.sc (.bool a0_0),.sc (.int .i64 a0_1),.row 0 .t96 a0_2],.ag [.sc (.bool a1_0),.sc (.int .i64 a1_1),.row 0 .t96 a1_2]],[]=>(laws_eqBlock.f k a0_0 a0_1 a0_2 a1_0 a1_1 a1_2).bind fun r=>κ (laws_eqBlock.e r).1 (laws_eqBlock.e r).2.1 (laws_eqBlock.e r).2.2
 | _,_=>none
theorem laws_eqBlock.xok (k : Nat) : XOk 57 (laws_eqBlock.x k):=by
 intro ins bs κ res h;unfold laws_eqBlock.x at h
 split at h
 ·obtain ⟨r,hr,h⟩:=Option.bind_eq_some_iff.1 h;exact ⟨_,_,_,laws_eqBlock.con k _ _ _ _ _ _ r hr,h⟩
 cases h
def laws_eqBlockS.sp : Nat → Option (Spec Ty):=fun r=>bif Nat.beq r 4 then some ⟨[(0,.keep),(1,.keep),(5,.keep)],[]⟩ else none
def laws_eqBlockS.en : Option (Spec Ty):=none
def laws_eqBlockS.s4 (x0 : List S68) (x1 : List S68) (x5 : Int) : St Ty D:=⟨(Env.put (Env.put (Env.put E (some 0) (.row 0 .t68 x0)) (some 1) (.row 0 .t68 x1)) (some 5) (.sc (.int .i64 x5))),H0,1000⟩
def laws_eqBlockS.ctx (k : Nat) : Ctx Ty D:=(cons 57 (laws_eqBlock.x k) (fun _ _ _ _=>none))
def laws_eqBlockS.c4 : Nat → (List S68) → (List S68) → Int → Option (Bool)
 | 0,_,_,_=>none
 | k + 1,x0,x1,x5=>(if x5 < (x0.length : Int) then (if 0 ≤ x5 then (if x5 < (x0.length : Int) then (if 0 ≤ x5 then (if x5 < (x1.length : Int) then ((laws_eqBlock.f k ((rd_T68 x0 x5).f0) ((rd_T68 x0 x5).f1) ((rd_T68 x0 x5).f2) ((rd_T68 x1 x5).f0) ((rd_T68 x1 x5).f1) ((rd_T68 x1 x5).f2)).bind fun t1=>(if t1 = true then (laws_eqBlockS.c4 k x0 x1 (w64 (x5 + 1))) else (some (false)))) else none) else none) else none) else none) else (some (true)))
def laws_eqBlockS.f (k : Nat) (a0 : List S68) (a1 : List S68) : Option (Bool):=(if (a0.length : Int) = (a1.length : Int) then (laws_eqBlockS.c4 k a0 a1 0) else (some (false)))
def laws_eqBlockS.e (r : Bool) : Res Ty D:=(.sc (.bool r),[],[])
abbrev laws_eqBlockS.g (rec : List Item → St Ty D → R) (k : Nat):=go1 Tryz.f34 (laws_eqBlockS.ctx k) laws_eqBlockS.sp 0 laws_eqBlockS.en rec
theorem laws_eqBlockS.t4 (rec : List Item → St Ty D → R) (k : Nat) (x0 : List S68) (x1 : List S68) (x5 : Int) : laws_eqBlockS.g rec k (td Tryz.f34 4) (laws_eqBlockS.s4 x0 x1 x5) =
 bif decide (x5 < (x0.length : Int)) then bif decide (0 ≤ x5) then bif decide (x5 < (x0.length : Int)) then bif decide (0 ≤ x5) then bif decide (x5 < (x1.length : Int)) then (laws_eqBlock.f k ((rd_T68 x0 x5).f0) ((rd_T68 x0 x5).f1) ((rd_T68 x0 x5).f2) ((rd_T68 x1 x5).f0) ((rd_T68 x1 x5).f1) ((rd_T68 x1 x5).f2)).bind fun t1=>bif !t1 then some (laws_eqBlockS.e (false)) else rec (td Tryz.f34 4) (laws_eqBlockS.s4 x0 x1 (w64 (x5 + 1))) else none else none else none else none else some (laws_eqBlockS.e (true)):=by kernel_rfl
theorem laws_eqBlockS.te (rec : List Item → St Ty D → R) (k : Nat) (a0 : List S68) (a1 : List S68) : laws_eqBlockS.g rec k [.code (body Tryz.f34)] (startSt [.row 0 .t68 a0,.row 0 .t68 a1] []) =
 bif !decide ((a0.length : Int) = (a1.length : Int)) then some (laws_eqBlockS.e (false)) else rec (td Tryz.f34 4) (laws_eqBlockS.s4 a0 a1 0):=by kernel_rfl
theorem laws_eqBlockS.ok : ∀ k : Nat,(∀ (x0 : List S68) (x1 : List S68) (x5 : Int),goF Tryz.f34 laws_eqBlockS.ctx laws_eqBlockS.sp 0 laws_eqBlockS.en k (td Tryz.f34 4) (laws_eqBlockS.s4 x0 x1 x5) = (laws_eqBlockS.c4 k x0 x1 x5).map laws_eqBlockS.e)
 | 0=>fun _ _ _=>rfl
 | k + 1=>by
  have ih:=laws_eqBlockS.ok k;have i4:=ih;intro x0 x1 x5;rw [laws_eqBlockS.c4];exact (laws_eqBlockS.t4 _ k x0 x1 x5).trans (cd (cd (cd (cd (cd (bn (fun t1=>(nb rfl (i4 _ _ _)))) rfl) rfl) rfl) rfl) rfl)
theorem laws_eqBlockS.oke (k : Nat) (a0 : List S68) (a1 : List S68) : goF Tryz.f34 laws_eqBlockS.ctx laws_eqBlockS.sp 0 laws_eqBlockS.en (k + 1) [.code (body Tryz.f34)] (startSt [.row 0 .t68 a0,.row 0 .t68 a1] []) = (laws_eqBlockS.f k a0 a1).map laws_eqBlockS.e:=by
 have i4:=laws_eqBlockS.ok k;rw [laws_eqBlockS.f];exact (laws_eqBlockS.te _ k a0 a1).trans (nd rfl (i4 _ _ _))
theorem laws_eqBlockS.con (k : Nat) (a0 : List S68) (a1 : List S68) (r) (h : laws_eqBlockS.f k a0 a1 = some r) : Contract Tryz.prog kit 34 [.row 0 .t68 a0,.row 0 .t68 a1] [] (laws_eqBlockS.e r).1 (laws_eqBlockS.e r).2.1 (laws_eqBlockS.e r).2.2 :=
 con_okG kitOk mix (fun k=>(CtxOk.cons (laws_eqBlock.xok k) CtxOk.nil)) (laws_eqBlockS.oke k a0 a1) h (by kernel_rfl) (by kernel_rfl) (by kernel_rfl) rfl (by kernel_rfl) rfl rfl
def laws_eqBlockS.x (k : Nat) : X:=fun ins bs κ=>match ins,bs with
 | [.row 0 .t68 a0,.row 0 .t68 a1],[]=>(laws_eqBlockS.f k a0 a1).bind fun r=>κ (laws_eqBlockS.e r).1 (laws_eqBlockS.e r).2.1 (laws_eqBlockS.e r).2.2
 | _,_=>none
theorem laws_eqBlockS.xok (k : Nat) : XOk 34 (laws_eqBlockS.x k):=by
 intro ins bs κ res h;unfold laws_eqBlockS.x at h
 split at h
 ·obtain ⟨r,hr,h⟩:=Option.bind_eq_some_iff.1 h;exact ⟨_,_,_,laws_eqBlockS.con k _ _ r hr,h⟩
 cases h
def laws_eqFlash.sp : Nat → Option (Spec Ty):=fun r=>none
def laws_eqFlash.en : Option (Spec Ty):=none
def laws_eqFlash.ctx (k : Nat) : Ctx Ty D:=(cons 34 (laws_eqBlockS.x k) (fun _ _ _ _=>none))
def laws_eqFlash.f (k : Nat) (a0_0 : List S68) (a1_0 : List S68) : Option (Bool):=((laws_eqBlockS.f k a0_0 a1_0).bind fun t1=>(if t1 = true then (some (true)) else (some (false))))
def laws_eqFlash.e (r : Bool) : Res Ty D:=(.sc (.bool r),[],[])
abbrev laws_eqFlash.g (rec : List Item → St Ty D → R) (k : Nat):=go1 Tryz.f18 (laws_eqFlash.ctx k) laws_eqFlash.sp 0 laws_eqFlash.en rec
theorem laws_eqFlash.te (rec : List Item → St Ty D → R) (k : Nat) (a0_0 : List S68) (a1_0 : List S68) : laws_eqFlash.g rec k [.code (body Tryz.f18)] (startSt [.ag [.row 0 .t68 a0_0],.ag [.row 0 .t68 a1_0]] []) =
 (laws_eqBlockS.f k a0_0 a1_0).bind fun t1=>bif !t1 then some (laws_eqFlash.e (false)) else some (laws_eqFlash.e (true)):=by kernel_rfl
theorem laws_eqFlash.oke (k : Nat) (a0_0 : List S68) (a1_0 : List S68) : goF Tryz.f18 laws_eqFlash.ctx laws_eqFlash.sp 0 laws_eqFlash.en (k + 1) [.code (body Tryz.f18)] (startSt [.ag [.row 0 .t68 a0_0],.ag [.row 0 .t68 a1_0]] []) = (laws_eqFlash.f k a0_0 a1_0).map laws_eqFlash.e:=by
 rw [laws_eqFlash.f];exact (laws_eqFlash.te _ k a0_0 a1_0).trans (bn (fun t1=>(nb rfl rfl)))
theorem laws_eqFlash.con (k : Nat) (a0_0 : List S68) (a1_0 : List S68) (r) (h : laws_eqFlash.f k a0_0 a1_0 = some r) : Contract Tryz.prog kit 18 [.ag [.row 0 .t68 a0_0],.ag [.row 0 .t68 a1_0]] [] (laws_eqFlash.e r).1 (laws_eqFlash.e r).2.1 (laws_eqFlash.e r).2.2 :=
 con_okG kitOk mix (fun k=>(CtxOk.cons (laws_eqBlockS.xok k) CtxOk.nil)) (laws_eqFlash.oke k a0_0 a1_0) h (by kernel_rfl) (by kernel_rfl) (by kernel_rfl) rfl (by kernel_rfl) rfl rfl
def laws_eqFlash.x (k : Nat) : X:=fun ins bs κ=>match ins,bs with
 | [.ag [.row 0 .t68 a0_0],.ag [.row 0 .t68 a1_0]],[]=>(laws_eqFlash.f k a0_0 a1_0).bind fun r=>κ (laws_eqFlash.e r).1 (laws_eqFlash.e r).2.1 (laws_eqFlash.e r).2.2
 | _,_=>none
theorem laws_eqFlash.xok (k : Nat) : XOk 18 (laws_eqFlash.x k):=by
 intro ins bs κ res h;unfold laws_eqFlash.x at h
 split at h
 ·obtain ⟨r,hr,h⟩:=Option.bind_eq_some_iff.1 h;exact ⟨_,_,_,laws_eqFlash.con k _ _ r hr,h⟩
 cases h
def laws_eqVol.sp : Nat → Option (Spec Ty):=fun r=>none
def laws_eqVol.en : Option (Spec Ty):=none
def laws_eqVol.ctx (k : Nat) : Ctx Ty D:=(fun _ _ _ _=>none)
def laws_eqVol.f (k : Nat) (a0_0 : Int) (a0_1 : Int) (a1_0 : Int) (a1_1 : Int) : Option (Bool):=(if a0_0 = a1_0 then (if a0_1 = a1_1 then (some (true)) else (some (false))) else (some (false)))
def laws_eqVol.e (r : Bool) : Res Ty D:=(.sc (.bool r),[],[])
abbrev laws_eqVol.g (rec : List Item → St Ty D → R) (k : Nat):=go1 Tryz.f58 (laws_eqVol.ctx k) laws_eqVol.sp 0 laws_eqVol.en rec
theorem laws_eqVol.te (rec : List Item → St Ty D → R) (k : Nat) (a0_0 : Int) (a0_1 : Int) (a1_0 : Int) (a1_1 : Int) : laws_eqVol.g rec k [.code (body Tryz.f58)] (startSt [.ag [.sc (.int .i64 a0_0),.sc (.int .i64 a0_1)],.ag [.sc (.int .i64 a1_0),.sc (.int .i64 a1_1)]] []) =
 bif !decide (a0_0 = a1_0) then some (laws_eqVol.e (false)) else bif !decide (a0_1 = a1_1) then some (laws_eqVol.e (false)) else some (laws_eqVol.e (true)):=by kernel_rfl
theorem laws_eqVol.oke (k : Nat) (a0_0 : Int) (a0_1 : Int) (a1_0 : Int) (a1_1 : Int) : goF Tryz.f58 laws_eqVol.ctx laws_eqVol.sp 0 laws_eqVol.en (k + 1) [.code (body Tryz.f58)] (startSt [.ag [.sc (.int .i64 a0_0),.sc (.int .i64 a0_1)],.ag [.sc (.int .i64 a1_0),.sc (.int .i64 a1_1)]] []) = (laws_eqVol.f k a0_0 a0_1 a1_0 a1_1).map laws_eqVol.e:=by
 rw [laws_eqVol.f];exact (laws_eqVol.te _ k a0_0 a0_1 a1_0 a1_1).trans (nd rfl (nd rfl rfl))
theorem laws_eqVol.con (k : Nat) (a0_0 : Int) (a0_1 : Int) (a1_0 : Int) (a1_1 : Int) (r) (h : laws_eqVol.f k a0_0 a0_1 a1_0 a1_1 = some r) : Contract Tryz.prog kit 58 [.ag [.sc (.int .i64 a0_0),.sc (.int .i64 a0_1)],.ag [.sc (.int .i64 a1_0),.sc (.int .i64 a1_1)]] [] (laws_eqVol.e r).1 (laws_eqVol.e r).2.1 (laws_eqVol.e r).2.2 :=
 con_okG kitOk mix (fun k=>CtxOk.nil) (laws_eqVol.oke k a0_0 a0_1 a1_0 a1_1) h (by kernel_rfl) (by kernel_rfl) (by kernel_rfl) rfl (by kernel_rfl) rfl rfl
def laws_eqVol.x (k : Nat) : X:=fun ins bs κ=>match ins,bs with
 | [.ag [.sc (.int .i64 a0_0),.sc (.int .i64 a0_1)],.ag [.sc (.int .i64 a1_0),.sc (.int .i64 a1_1)]],[]=>(laws_eqVol.f k a0_0 a0_1 a1_0 a1_1).bind fun r=>κ (laws_eqVol.e r).1 (laws_eqVol.e r).2.1 (laws_eqVol.e r).2.2
 | _,_=>none
theorem laws_eqVol.xok (k : Nat) : XOk 58 (laws_eqVol.x k):=by
 intro ins bs κ res h;unfold laws_eqVol.x at h
 split at h
 ·obtain ⟨r,hr,h⟩:=Option.bind_eq_some_iff.1 h;exact ⟨_,_,_,laws_eqVol.con k _ _ _ _ r hr,h⟩
 cases h
def laws_eqVolS.sp : Nat → Option (Spec Ty):=fun r=>bif Nat.beq r 4 then some ⟨[(0,.keep),(1,.keep),(5,.keep)],[]⟩ else none
def laws_eqVolS.en : Option (Spec Ty):=none
def laws_eqVolS.s4 (x0 : List S80) (x1 : List S80) (x5 : Int) : St Ty D:=⟨(Env.put (Env.put (Env.put E (some 0) (.row 0 .t80 x0)) (some 1) (.row 0 .t80 x1)) (some 5) (.sc (.int .i64 x5))),H0,1000⟩
def laws_eqVolS.ctx (k : Nat) : Ctx Ty D:=(cons 58 (laws_eqVol.x k) (fun _ _ _ _=>none))
def laws_eqVolS.c4 : Nat → (List S80) → (List S80) → Int → Option (Bool)
 | 0,_,_,_=>none
 | k + 1,x0,x1,x5=>(if x5 < (x0.length : Int) then (if 0 ≤ x5 then (if x5 < (x0.length : Int) then (if 0 ≤ x5 then (if x5 < (x1.length : Int) then ((laws_eqVol.f k ((rd_T80 x0 x5).f0) ((rd_T80 x0 x5).f1) ((rd_T80 x1 x5).f0) ((rd_T80 x1 x5).f1)).bind fun t1=>(if t1 = true then (laws_eqVolS.c4 k x0 x1 (w64 (x5 + 1))) else (some (false)))) else none) else none) else none) else none) else (some (true)))
def laws_eqVolS.f (k : Nat) (a0 : List S80) (a1 : List S80) : Option (Bool):=(if (a0.length : Int) = (a1.length : Int) then (laws_eqVolS.c4 k a0 a1 0) else (some (false)))
def laws_eqVolS.e (r : Bool) : Res Ty D:=(.sc (.bool r),[],[])
abbrev laws_eqVolS.g (rec : List Item → St Ty D → R) (k : Nat):=go1 Tryz.f35 (laws_eqVolS.ctx k) laws_eqVolS.sp 0 laws_eqVolS.en rec
theorem laws_eqVolS.t4 (rec : List Item → St Ty D → R) (k : Nat) (x0 : List S80) (x1 : List S80) (x5 : Int) : laws_eqVolS.g rec k (td Tryz.f35 4) (laws_eqVolS.s4 x0 x1 x5) =
 bif decide (x5 < (x0.length : Int)) then bif decide (0 ≤ x5) then bif decide (x5 < (x0.length : Int)) then bif decide (0 ≤ x5) then bif decide (x5 < (x1.length : Int)) then (laws_eqVol.f k ((rd_T80 x0 x5).f0) ((rd_T80 x0 x5).f1) ((rd_T80 x1 x5).f0) ((rd_T80 x1 x5).f1)).bind fun t1=>bif !t1 then some (laws_eqVolS.e (false)) else rec (td Tryz.f35 4) (laws_eqVolS.s4 x0 x1 (w64 (x5 + 1))) else none else none else none else none else some (laws_eqVolS.e (true)):=by kernel_rfl
theorem laws_eqVolS.te (rec : List Item → St Ty D → R) (k : Nat) (a0 : List S80) (a1 : List S80) : laws_eqVolS.g rec k [.code (body Tryz.f35)] (startSt [.row 0 .t80 a0,.row 0 .t80 a1] []) =
 bif !decide ((a0.length : Int) = (a1.length : Int)) then some (laws_eqVolS.e (false)) else rec (td Tryz.f35 4) (laws_eqVolS.s4 a0 a1 0):=by kernel_rfl
theorem laws_eqVolS.ok : ∀ k : Nat,(∀ (x0 : List S80) (x1 : List S80) (x5 : Int),goF Tryz.f35 laws_eqVolS.ctx laws_eqVolS.sp 0 laws_eqVolS.en k (td Tryz.f35 4) (laws_eqVolS.s4 x0 x1 x5) = (laws_eqVolS.c4 k x0 x1 x5).map laws_eqVolS.e)
 | 0=>fun _ _ _=>rfl
 | k + 1=>by
  have ih:=laws_eqVolS.ok k;have i4:=ih;intro x0 x1 x5;rw [laws_eqVolS.c4];exact (laws_eqVolS.t4 _ k x0 x1 x5).trans (cd (cd (cd (cd (cd (bn (fun t1=>(nb rfl (i4 _ _ _)))) rfl) rfl) rfl) rfl) rfl)
theorem laws_eqVolS.oke (k : Nat) (a0 : List S80) (a1 : List S80) : goF Tryz.f35 laws_eqVolS.ctx laws_eqVolS.sp 0 laws_eqVolS.en (k + 1) [.code (body Tryz.f35)] (startSt [.row 0 .t80 a0,.row 0 .t80 a1] []) = (laws_eqVolS.f k a0 a1).map laws_eqVolS.e:=by
 have i4:=laws_eqVolS.ok k;rw [laws_eqVolS.f];exact (laws_eqVolS.te _ k a0 a1).trans (nd rfl (i4 _ _ _))
theorem laws_eqVolS.con (k : Nat) (a0 : List S80) (a1 : List S80) (r) (h : laws_eqVolS.f k a0 a1 = some r) : Contract Tryz.prog kit 35 [.row 0 .t80 a0,.row 0 .t80 a1] [] (laws_eqVolS.e r).1 (laws_eqVolS.e r).2.1 (laws_eqVolS.e r).2.2 :=
 con_okG kitOk mix (fun k=>(CtxOk.cons (laws_eqVol.xok k) CtxOk.nil)) (laws_eqVolS.oke k a0 a1) h (by kernel_rfl) (by kernel_rfl) (by kernel_rfl) rfl (by kernel_rfl) rfl rfl
def laws_eqVolS.x (k : Nat) : X:=fun ins bs κ=>match ins,bs with
 | [.row 0 .t80 a0,.row 0 .t80 a1],[]=>(laws_eqVolS.f k a0 a1).bind fun r=>κ (laws_eqVolS.e r).1 (laws_eqVolS.e r).2.1 (laws_eqVolS.e r).2.2
 | _,_=>none
theorem laws_eqVolS.xok (k : Nat) : XOk 35 (laws_eqVolS.x k):=by
 intro ins bs κ res h;unfold laws_eqVolS.x at h
 split at h
 ·obtain ⟨r,hr,h⟩:=Option.bind_eq_some_iff.1 h;exact ⟨_,_,_,laws_eqVolS.con k _ _ r hr,h⟩
 cases h
end
end Go.Proofs.YtbbfkodckpfjcaaGreat.M2

namespace Go.Proofs.YtbbfkodckpfjcaaGreat.M2
open Go Go.Proofs.YtbbfkodckpfjcaaGreat.PK
set_option linter.unusedVariables false
set_option linter.unusedSimpArgs false
set_option maxHeartbeats 4000000
set_option maxRecDepth 100000
noncomputable section
def laws_eqIntS.sp : Nat → Option (Spec Ty):=fun r=>bif Nat.beq r 4 then some ⟨[(0,.keep),(1,.keep),(5,.keep)],[]⟩ else none
def laws_eqIntS.en : Option (Spec Ty):=none
def laws_eqIntS.s4 (x0 : List Int) (x1 : List Int) (x5 : Int) : St Ty D:=⟨(Env.put (Env.put (Env.put E (some 0) (.row 0 .t3 x0)) (some 1) (.row 0 .t3 x1)) (some 5) (.sc (.int .i64 x5))),H0,1000⟩
def laws_eqIntS.ctx (k : Nat) : Ctx Ty D:=(fun _ _ _ _=>none)
def laws_eqIntS.c4 : Nat → (List Int) → (List Int) → Int → Option (Bool)
 | 0,_,_,_=>none
 | k + 1,x0,x1,x5=>(if x5 < (x0.length : Int) then (if 0 ≤ x5 then (if x5 < (x0.length : Int) then (if 0 ≤ x5 then (if x5 < (x1.length : Int) then (if (rd_T3 x0 x5) = (rd_T3 x1 x5) then (laws_eqIntS.c4 k x0 x1 (w64 (x5 + 1))) else (some (false))) else none) else none) else none) else none) else (some (true)))
def laws_eqIntS.f (k : Nat) (a0 : List Int) (a1 : List Int) : Option (Bool):=(if (a0.length : Int) = (a1.length : Int) then (laws_eqIntS.c4 k a0 a1 0) else (some (false)))
def laws_eqIntS.e (r : Bool) : Res Ty D:=(.sc (.bool r),[],[])
abbrev laws_eqIntS.g (rec : List Item → St Ty D → R) (k : Nat):=go1 Tryz.f98 (laws_eqIntS.ctx k) laws_eqIntS.sp 0 laws_eqIntS.en rec
theorem laws_eqIntS.t4 (rec : List Item → St Ty D → R) (k : Nat) (x0 : List Int) (x1 : List Int) (x5 : Int) : laws_eqIntS.g rec k (td Tryz.f98 4) (laws_eqIntS.s4 x0 x1 x5) =
 bif decide (x5 < (x0.length : Int)) then bif decide (0 ≤ x5) then bif decide (x5 < (x0.length : Int)) then bif decide (0 ≤ x5) then bif decide (x5 < (x1.length : Int)) then bif !decide ((rd_T3 x0 x5) = (rd_T3 x1 x5)) then some (laws_eqIntS.e (false)) else rec (td Tryz.f98 4) (laws_eqIntS.s4 x0 x1 (w64 (x5 + 1))) else none else none else none else none else some (laws_eqIntS.e (true)):=by kernel_rfl
theorem laws_eqIntS.te (rec : List Item → St Ty D → R) (k : Nat) (a0 : List Int) (a1 : List Int) : laws_eqIntS.g rec k [.code (body Tryz.f98)] (startSt [.row 0 .t3 a0,.row 0 .t3 a1] []) =
 bif !decide ((a0.length : Int) = (a1.length : Int)) then some (laws_eqIntS.e (false)) else rec (td Tryz.f98 4) (laws_eqIntS.s4 a0 a1 0):=by kernel_rfl
theorem laws_eqIntS.ok : ∀ k : Nat,(∀ (x0 : List Int) (x1 : List Int) (x5 : Int),goF Tryz.f98 laws_eqIntS.ctx laws_eqIntS.sp 0 laws_eqIntS.en k (td Tryz.f98 4) (laws_eqIntS.s4 x0 x1 x5) = (laws_eqIntS.c4 k x0 x1 x5).map laws_eqIntS.e)
 | 0=>fun _ _ _=>rfl
 | k + 1=>by
  have ih:=laws_eqIntS.ok k;have i4:=ih;intro x0 x1 x5;rw [laws_eqIntS.c4];exact (laws_eqIntS.t4 _ k x0 x1 x5).trans (cd (cd (cd (cd (cd (nd rfl (i4 _ _ _)) rfl) rfl) rfl) rfl) rfl)
theorem laws_eqIntS.oke (k : Nat) (a0 : List Int) (a1 : List Int) : goF Tryz.f98 laws_eqIntS.ctx laws_eqIntS.sp 0 laws_eqIntS.en (k + 1) [.code (body Tryz.f98)] (startSt [.row 0 .t3 a0,.row 0 .t3 a1] []) = (laws_eqIntS.f k a0 a1).map laws_eqIntS.e:=by
 have i4:=laws_eqIntS.ok k;rw [laws_eqIntS.f];exact (laws_eqIntS.te _ k a0 a1).trans (nd rfl (i4 _ _ _))
theorem laws_eqIntS.con (k : Nat) (a0 : List Int) (a1 : List Int) (r) (h : laws_eqIntS.f k a0 a1 = some r) : Contract Tryz.prog kit 98 [.row 0 .t3 a0,.row 0 .t3 a1] [] (laws_eqIntS.e r).1 (laws_eqIntS.e r).2.1 (laws_eqIntS.e r).2.2 :=
 con_okG kitOk mix (fun k=>CtxOk.nil) (laws_eqIntS.oke k a0 a1) h (by kernel_rfl) (by kernel_rfl) (by kernel_rfl) rfl (by kernel_rfl) rfl rfl
def laws_eqIntS.x (k : Nat) : X:=fun ins bs κ=>match ins,bs with
 | [.row 0 .t3 a0,.row 0 .t3 a1],[]=>(laws_eqIntS.f k a0 a1).bind fun r=>κ (laws_eqIntS.e r).1 (laws_eqIntS.e r).2.1 (laws_eqIntS.e r).2.2
 | _,_=>none
theorem laws_eqIntS.xok (k : Nat) : XOk 98 (laws_eqIntS.x k):=by
 intro ins bs κ res h;unfold laws_eqIntS.x at h
 split at h
 ·obtain ⟨r,hr,h⟩:=Option.bind_eq_some_iff.1 h;exact ⟨_,_,_,laws_eqIntS.con k _ _ r hr,h⟩
 cases h
def laws_eqKnot.sp : Nat → Option (Spec Ty):=fun r=>none
def laws_eqKnot.en : Option (Spec Ty):=none
def laws_eqKnot.ctx (k : Nat) : Ctx Ty D:=(cons 98 (laws_eqIntS.x k) (fun _ _ _ _=>none))
def laws_eqKnot.f (k : Nat) (a0_0 : Bool) (a0_1 : List Int) (a1_0 : Bool) (a1_1 : List Int) : Option (Bool):=(if (a0_0 == a1_0) = true then ((laws_eqIntS.f k a0_1 a1_1).bind fun t1=>(if t1 = true then (some (true)) else (some (false)))) else (some (false)))
def laws_eqKnot.e (r : Bool) : Res Ty D:=(.sc (.bool r),[],[])
abbrev laws_eqKnot.g (rec : List Item → St Ty D → R) (k : Nat):=go1 Tryz.f82 (laws_eqKnot.ctx k) laws_eqKnot.sp 0 laws_eqKnot.en rec
theorem laws_eqKnot.te (rec : List Item → St Ty D → R) (k : Nat) (a0_0 : Bool) (a0_1 : List Int) (a1_0 : Bool) (a1_1 : List Int) : laws_eqKnot.g rec k [.code (body Tryz.f82)] (startSt [.ag [.sc (.bool a0_0),.row 0 .t3 a0_1],.ag [.sc (.bool a1_0),.row 0 .t3 a1_1]] []) =
 bif !(a0_0 == a1_0) then some (laws_eqKnot.e (false)) else (laws_eqIntS.f k a0_1 a1_1).bind fun t1=>bif !t1 then some (laws_eqKnot.e (false)) else some (laws_eqKnot.e (true)):=by kernel_rfl
theorem laws_eqKnot.oke (k : Nat) (a0_0 : Bool) (a0_1 : List Int) (a1_0 : Bool) (a1_1 : List Int) : goF Tryz.f82 laws_eqKnot.ctx laws_eqKnot.sp 0 laws_eqKnot.en (k + 1) [.code (body Tryz.f82)] (startSt [.ag [.sc (.bool a0_0),.row 0 .t3 a0_1],.ag [.sc (.bool a1_0),.row 0 .t3 a1_1]] []) = (laws_eqKnot.f k a0_0 a0_1 a1_0 a1_1).map laws_eqKnot.e:=by
 rw [laws_eqKnot.f];exact (laws_eqKnot.te _ k a0_0 a0_1 a1_0 a1_1).trans (nb rfl (bn (fun t1=>(nb rfl rfl))))
theorem laws_eqKnot.con (k : Nat) (a0_0 : Bool) (a0_1 : List Int) (a1_0 : Bool) (a1_1 : List Int) (r) (h : laws_eqKnot.f k a0_0 a0_1 a1_0 a1_1 = some r) : Contract Tryz.prog kit 82 [.ag [.sc (.bool a0_0),.row 0 .t3 a0_1],.ag [.sc (.bool a1_0),.row 0 .t3 a1_1]] [] (laws_eqKnot.e r).1 (laws_eqKnot.e r).2.1 (laws_eqKnot.e r).2.2 :=
 con_okG kitOk mix (fun k=>(CtxOk.cons (laws_eqIntS.xok k) CtxOk.nil)) (laws_eqKnot.oke k a0_0 a0_1 a1_0 a1_1) h (by kernel_rfl) (by kernel_rfl) (by kernel_rfl) rfl (by kernel_rfl) rfl rfl
def laws_eqKnot.x (k : Nat) : X:=fun ins bs κ=>match ins,bs with
 | [.ag [.sc (.bool a0_0),.row 0 .t3 a0_1],.ag [.sc (.bool a1_0),.row 0 .t3 a1_1]],[]=>(laws_eqKnot.f k a0_0 a0_1 a1_0 a1_1).bind fun r=>κ (laws_eqKnot.e r).1 (laws_eqKnot.e r).2.1 (laws_eqKnot.e r).2.2
 | _,_=>none
theorem laws_eqKnot.xok (k : Nat) : XOk 82 (laws_eqKnot.x k):=by
 intro ins bs κ res h;unfold laws_eqKnot.x at h
 split at h
 ·obtain ⟨r,hr,h⟩:=Option.bind_eq_some_iff.1 h;exact ⟨_,_,_,laws_eqKnot.con k _ _ _ _ r hr,h⟩
 cases h
def laws_eqKnotS.sp : Nat → Option (Spec Ty):=fun r=>bif Nat.beq r 4 then some ⟨[(0,.keep),(1,.keep),(5,.keep)],[]⟩ else none
def laws_eqKnotS.en : Option (Spec Ty):=none
def laws_eqKnotS.s4 (x0 : List S128) (x1 : List S128) (x5 : Int) : St Ty D:=⟨(Env.put (Env.put (Env.put E (some 0) (.row 0 .t128 x0)) (some 1) (.row 0 .t128 x1)) (some 5) (.sc (.int .i64 x5))),H0,1000⟩
def laws_eqKnotS.ctx (k : Nat) : Ctx Ty D:=(cons 82 (laws_eqKnot.x k) (fun _ _ _ _=>none))
def laws_eqKnotS.c4 : Nat → (List S128) → (List S128) → Int → Option (Bool)
 | 0,_,_,_=>none
 | k + 1,x0,x1,x5=>(if x5 < (x0.length : Int) then (if 0 ≤ x5 then (if x5 < (x0.length : Int) then (if 0 ≤ x5 then (if x5 < (x1.length : Int) then ((laws_eqKnot.f k ((rd_T128 x0 x5).f0) ((rd_T128 x0 x5).f1) ((rd_T128 x1 x5).f0) ((rd_T128 x1 x5).f1)).bind fun t1=>(if t1 = true then (laws_eqKnotS.c4 k x0 x1 (w64 (x5 + 1))) else (some (false)))) else none) else none) else none) else none) else (some (true)))
def laws_eqKnotS.f (k : Nat) (a0 : List S128) (a1 : List S128) : Option (Bool):=(if (a0.length : Int) = (a1.length : Int) then (laws_eqKnotS.c4 k a0 a1 0) else (some (false)))
def laws_eqKnotS.e (r : Bool) : Res Ty D:=(.sc (.bool r),[],[])
abbrev laws_eqKnotS.g (rec : List Item → St Ty D → R) (k : Nat):=go1 Tryz.f59 (laws_eqKnotS.ctx k) laws_eqKnotS.sp 0 laws_eqKnotS.en rec
theorem laws_eqKnotS.t4 (rec : List Item → St Ty D → R) (k : Nat) (x0 : List S128) (x1 : List S128) (x5 : Int) : laws_eqKnotS.g rec k (td Tryz.f59 4) (laws_eqKnotS.s4 x0 x1 x5) =
 bif decide (x5 < (x0.length : Int)) then bif decide (0 ≤ x5) then bif decide (x5 < (x0.length : Int)) then bif decide (0 ≤ x5) then bif decide (x5 < (x1.length : Int)) then (laws_eqKnot.f k ((rd_T128 x0 x5).f0) ((rd_T128 x0 x5).f1) ((rd_T128 x1 x5).f0) ((rd_T128 x1 x5).f1)).bind fun t1=>bif !t1 then some (laws_eqKnotS.e (false)) else rec (td Tryz.f59 4) (laws_eqKnotS.s4 x0 x1 (w64 (x5 + 1))) else none else none else none else none else some (laws_eqKnotS.e (true)):=by kernel_rfl
theorem laws_eqKnotS.te (rec : List Item → St Ty D → R) (k : Nat) (a0 : List S128) (a1 : List S128) : laws_eqKnotS.g rec k [.code (body Tryz.f59)] (startSt [.row 0 .t128 a0,.row 0 .t128 a1] []) =
 bif !decide ((a0.length : Int) = (a1.length : Int)) then some (laws_eqKnotS.e (false)) else rec (td Tryz.f59 4) (laws_eqKnotS.s4 a0 a1 0):=by kernel_rfl
theorem laws_eqKnotS.ok : ∀ k : Nat,(∀ (x0 : List S128) (x1 : List S128) (x5 : Int),goF Tryz.f59 laws_eqKnotS.ctx laws_eqKnotS.sp 0 laws_eqKnotS.en k (td Tryz.f59 4) (laws_eqKnotS.s4 x0 x1 x5) = (laws_eqKnotS.c4 k x0 x1 x5).map laws_eqKnotS.e)
 | 0=>fun _ _ _=>rfl
 | k + 1=>by
  have ih:=laws_eqKnotS.ok k;have i4:=ih;intro x0 x1 x5;rw [laws_eqKnotS.c4];exact (laws_eqKnotS.t4 _ k x0 x1 x5).trans (cd (cd (cd (cd (cd (bn (fun t1=>(nb rfl (i4 _ _ _)))) rfl) rfl) rfl) rfl) rfl)
theorem laws_eqKnotS.oke (k : Nat) (a0 : List S128) (a1 : List S128) : goF Tryz.f59 laws_eqKnotS.ctx laws_eqKnotS.sp 0 laws_eqKnotS.en (k + 1) [.code (body Tryz.f59)] (startSt [.row 0 .t128 a0,.row 0 .t128 a1] []) = (laws_eqKnotS.f k a0 a1).map laws_eqKnotS.e:=by
 have i4:=laws_eqKnotS.ok k;rw [laws_eqKnotS.f];exact (laws_eqKnotS.te _ k a0 a1).trans (nd rfl (i4 _ _ _))
theorem laws_eqKnotS.con (k : Nat) (a0 : List S128) (a1 : List S128) (r) (h : laws_eqKnotS.f k a0 a1 = some r) : Contract Tryz.prog kit 59 [.row 0 .t128 a0,.row 0 .t128 a1] [] (laws_eqKnotS.e r).1 (laws_eqKnotS.e r).2.1 (laws_eqKnotS.e r).2.2 :=
 con_okG kitOk mix (fun k=>(CtxOk.cons (laws_eqKnot.xok k) CtxOk.nil)) (laws_eqKnotS.oke k a0 a1) h (by kernel_rfl) (by kernel_rfl) (by kernel_rfl) rfl (by kernel_rfl) rfl rfl
def laws_eqKnotS.x (k : Nat) : X:=fun ins bs κ=>match ins,bs with
 | [.row 0 .t128 a0,.row 0 .t128 a1],[]=>(laws_eqKnotS.f k a0 a1).bind fun r=>κ (laws_eqKnotS.e r).1 (laws_eqKnotS.e r).2.1 (laws_eqKnotS.e r).2.2
 | _,_=>none
theorem laws_eqKnotS.xok (k : Nat) : XOk 59 (laws_eqKnotS.x k):=by
 intro ins bs κ res h;unfold laws_eqKnotS.x at h
 split at h
 ·obtain ⟨r,hr,h⟩:=Option.bind_eq_some_iff.1 h;exact ⟨_,_,_,laws_eqKnotS.con k _ _ r hr,h⟩
 cases h
def laws_eqArena.sp : Nat → Option (Spec Ty):=fun r=>none
def laws_eqArena.en : Option (Spec Ty):=none
def laws_eqArena.ctx (k : Nat) : Ctx Ty D:=(cons 59 (laws_eqKnotS.x k) (fun _ _ _ _=>none))
def laws_eqArena.f (k : Nat) (a0_0 : List S128) (a1_0 : List S128) : Option (Bool):=((laws_eqKnotS.f k a0_0 a1_0).bind fun t1=>(if t1 = true then (some (true)) else (some (false))))
def laws_eqArena.e (r : Bool) : Res Ty D:=(.sc (.bool r),[],[])
abbrev laws_eqArena.g (rec : List Item → St Ty D → R) (k : Nat):=go1 Tryz.f36 (laws_eqArena.ctx k) laws_eqArena.sp 0 laws_eqArena.en rec
theorem laws_eqArena.te (rec : List Item → St Ty D → R) (k : Nat) (a0_0 : List S128) (a1_0 : List S128) : laws_eqArena.g rec k [.code (body Tryz.f36)] (startSt [.ag [.row 0 .t128 a0_0],.ag [.row 0 .t128 a1_0]] []) =
 (laws_eqKnotS.f k a0_0 a1_0).bind fun t1=>bif !t1 then some (laws_eqArena.e (false)) else some (laws_eqArena.e (true)):=by kernel_rfl
theorem laws_eqArena.oke (k : Nat) (a0_0 : List S128) (a1_0 : List S128) : goF Tryz.f36 laws_eqArena.ctx laws_eqArena.sp 0 laws_eqArena.en (k + 1) [.code (body Tryz.f36)] (startSt [.ag [.row 0 .t128 a0_0],.ag [.row 0 .t128 a1_0]] []) = (laws_eqArena.f k a0_0 a1_0).map laws_eqArena.e:=by
 rw [laws_eqArena.f];exact (laws_eqArena.te _ k a0_0 a1_0).trans (bn (fun t1=>(nb rfl rfl)))
theorem laws_eqArena.con (k : Nat) (a0_0 : List S128) (a1_0 : List S128) (r) (h : laws_eqArena.f k a0_0 a1_0 = some r) : Contract Tryz.prog kit 36 [.ag [.row 0 .t128 a0_0],.ag [.row 0 .t128 a1_0]] [] (laws_eqArena.e r).1 (laws_eqArena.e r).2.1 (laws_eqArena.e r).2.2 :=
 con_okG kitOk mix (fun k=>(CtxOk.cons (laws_eqKnotS.xok k) CtxOk.nil)) (laws_eqArena.oke k a0_0 a1_0) h (by kernel_rfl) (by kernel_rfl) (by kernel_rfl) rfl (by kernel_rfl) rfl rfl
def laws_eqArena.x (k : Nat) : X:=fun ins bs κ=>match ins,bs with
 | [.ag [.row 0 .t128 a0_0],.ag [.row 0 .t128 a1_0]],[]=>(laws_eqArena.f k a0_0 a1_0).bind fun r=>κ (laws_eqArena.e r).1 (laws_eqArena.e r).2.1 (laws_eqArena.e r).2.2
 | _,_=>none
theorem laws_eqArena.xok (k : Nat) : XOk 36 (laws_eqArena.x k):=by
 intro ins bs κ res h;unfold laws_eqArena.x at h
 split at h
 ·obtain ⟨r,hr,h⟩:=Option.bind_eq_some_iff.1 h;exact ⟨_,_,_,laws_eqArena.con k _ _ r hr,h⟩
 cases h
def laws_eqStore.sp : Nat → Option (Spec Ty):=fun r=>none
def laws_eqStore.en : Option (Spec Ty):=none
def laws_eqStore.ctx (k : Nat) : Ctx Ty D:=(cons 35 (laws_eqVolS.x k) (cons 36 (laws_eqArena.x k) (fun _ _ _ _=>none)))
def laws_eqStore.f (k : Nat) (a0_0 : List S80) (a0_1 : List S128) (a0_2 : Int) (a1_0 : List S80) (a1_1 : List S128) (a1_2 : Int) : Option (Bool):=((laws_eqVolS.f k a0_0 a1_0).bind fun t1=>(if t1 = true then ((laws_eqArena.f k a0_1 a1_1).bind fun t2=>(if t2 = true then (if a0_2 = a1_2 then (some (true)) else (some (false))) else (some (false)))) else (some (false))))
def laws_eqStore.e (r : Bool) : Res Ty D:=(.sc (.bool r),[],[])
abbrev laws_eqStore.g (rec : List Item → St Ty D → R) (k : Nat):=go1 Tryz.f19 (laws_eqStore.ctx k) laws_eqStore.sp 0 laws_eqStore.en rec
theorem laws_eqStore.te (rec : List Item → St Ty D → R) (k : Nat) (a0_0 : List S80) (a0_1 : List S128) (a0_2 : Int) (a1_0 : List S80) (a1_1 : List S128) (a1_2 : Int) : laws_eqStore.g rec k [.code (body Tryz.f19)] (startSt [.ag [.row 0 .t80 a0_0,.row 0 .t128 a0_1,.sc (.int .i64 a0_2)],.ag [.row 0 .t80 a1_0,.row 0 .t128 a1_1,.sc (.int .i64 a1_2)]] []) =
 (laws_eqVolS.f k a0_0 a1_0).bind fun t1=>bif !t1 then some (laws_eqStore.e (false)) else (laws_eqArena.f k a0_1 a1_1).bind fun t2=>bif !t2 then some (laws_eqStore.e (false)) else bif !decide (a0_2 = a1_2) then some (laws_eqStore.e (false)) else some (laws_eqStore.e (true)):=by kernel_rfl
theorem laws_eqStore.oke (k : Nat) (a0_0 : List S80) (a0_1 : List S128) (a0_2 : Int) (a1_0 : List S80) (a1_1 : List S128) (a1_2 : Int) : goF Tryz.f19 laws_eqStore.ctx laws_eqStore.sp 0 laws_eqStore.en (k + 1) [.code (body Tryz.f19)] (startSt [.ag [.row 0 .t80 a0_0,.row 0 .t128 a0_1,.sc (.int .i64 a0_2)],.ag [.row 0 .t80 a1_0,.row 0 .t128 a1_1,.sc (.int .i64 a1_2)]] []) = (laws_eqStore.f k a0_0 a0_1 a0_2 a1_0 a1_1 a1_2).map laws_eqStore.e:=by
 rw [laws_eqStore.f];exact (laws_eqStore.te _ k a0_0 a0_1 a0_2 a1_0 a1_1 a1_2).trans (bn (fun t1=>(nb rfl (bn (fun t2=>(nb rfl (nd rfl rfl)))))))
theorem laws_eqStore.con (k : Nat) (a0_0 : List S80) (a0_1 : List S128) (a0_2 : Int) (a1_0 : List S80) (a1_1 : List S128) (a1_2 : Int) (r) (h : laws_eqStore.f k a0_0 a0_1 a0_2 a1_0 a1_1 a1_2 = some r) : Contract Tryz.prog kit 19 [.ag [.row 0 .t80 a0_0,.row 0 .t128 a0_1,.sc (.int .i64 a0_2)],.ag [.row 0 .t80 a1_0,.row 0 .t128 a1_1,.sc (.int .i64 a1_2)]] [] (laws_eqStore.e r).1 (laws_eqStore.e r).2.1 (laws_eqStore.e r).2.2 :=
 con_okG kitOk mix (fun k=>(CtxOk.cons (laws_eqVolS.xok k) (CtxOk.cons (laws_eqArena.xok k) CtxOk.nil))) (laws_eqStore.oke k a0_0 a0_1 a0_2 a1_0 a1_1 a1_2) h (by kernel_rfl) (by kernel_rfl) (by kernel_rfl) rfl (by kernel_rfl) rfl rfl
def laws_eqStore.x (k : Nat) : X:=fun ins bs κ=>match ins,bs with
 | [.ag [.row 0 .t80 a0_0,.row 0 .t128 a0_1,.sc (.int .i64 a0_2)],.ag [.row 0 .t80 a1_0,.row 0 .t128 a1_1,.sc (.int .i64 a1_2)]],[]=>(laws_eqStore.f k a0_0 a0_1 a0_2 a1_0 a1_1 a1_2).bind fun r=>κ (laws_eqStore.e r).1 (laws_eqStore.e r).2.1 (laws_eqStore.e r).2.2
 | _,_=>none
theorem laws_eqStore.xok (k : Nat) : XOk 19 (laws_eqStore.x k):=by
 intro ins bs κ res h;unfold laws_eqStore.x at h
 split at h
 ·obtain ⟨r,hr,h⟩:=Option.bind_eq_some_iff.1 h;exact ⟨_,_,_,laws_eqStore.con k _ _ _ _ _ _ r hr,h⟩
 cases h
def laws_eqDevice.sp : Nat → Option (Spec Ty):=fun r=>none
def laws_eqDevice.en : Option (Spec Ty):=none
def laws_eqDevice.ctx (k : Nat) : Ctx Ty D:=(cons 18 (laws_eqFlash.x k) (cons 19 (laws_eqStore.x k) (fun _ _ _ _=>none)))
def laws_eqDevice.f (k : Nat) (a0_0 : List S68) (a0_1 : List S80) (a0_2 : List S128) (a0_3 : Int) (a0_4 : Int) (a0_5 : Int) (a0_6 : Int) (a1_0 : List S68) (a1_1 : List S80) (a1_2 : List S128) (a1_3 : Int) (a1_4 : Int) (a1_5 : Int) (a1_6 : Int) : Option (Bool):=((laws_eqFlash.f k a0_0 a1_0).bind fun t1=>(if t1 = true then ((laws_eqStore.f k a0_1 a0_2 a0_3 a1_1 a1_2 a1_3).bind fun t2=>(if t2 = true then (if a0_4 = a1_4 then (if a0_5 = a1_5 then (if a0_6 = a1_6 then (some (true)) else (some (false))) else (some (false))) else (some (false))) else (some (false)))) else (some (false))))
def laws_eqDevice.e (r : Bool) : Res Ty D:=(.sc (.bool r),[],[])
abbrev laws_eqDevice.g (rec : List Item → St Ty D → R) (k : Nat):=go1 Tryz.f8 (laws_eqDevice.ctx k) laws_eqDevice.sp 0 laws_eqDevice.en rec
theorem laws_eqDevice.te (rec : List Item → St Ty D → R) (k : Nat) (a0_0 : List S68) (a0_1 : List S80) (a0_2 : List S128) (a0_3 : Int) (a0_4 : Int) (a0_5 : Int) (a0_6 : Int) (a1_0 : List S68) (a1_1 : List S80) (a1_2 : List S128) (a1_3 : Int) (a1_4 : Int) (a1_5 : Int) (a1_6 : Int) : laws_eqDevice.g rec k [.code (body Tryz.f8)] (startSt [.ag [.row 0 .t68 a0_0,.row 0 .t80 a0_1,.row 0 .t128 a0_2,.sc (.int .i64 a0_3),.sc (.int .i64 a0_4),.sc (.int .i64 a0_5),.sc (.int .i64 a0_6)],.ag [.row 0 .t68 a1_0,.row 0 .t80 a1_1,.row 0 .t128 a1_2,.sc (.int .i64 a1_3),.sc (.int .i64 a1_4),.sc (.int .i64 a1_5),.sc (.int .i64 a1_6)]] []) =
 (laws_eqFlash.f k a0_0 a1_0).bind fun t1=>bif !t1 then some (laws_eqDevice.e (false)) else (laws_eqStore.f k a0_1 a0_2 a0_3 a1_1 a1_2 a1_3).bind fun t2=>bif !t2 then some (laws_eqDevice.e (false)) else bif !decide (a0_4 = a1_4) then some (laws_eqDevice.e (false)) else bif !decide (a0_5 = a1_5) then some (laws_eqDevice.e (false)) else bif !decide (a0_6 = a1_6) then some (laws_eqDevice.e (false)) else some (laws_eqDevice.e (true)):=by kernel_rfl
theorem laws_eqDevice.oke (k : Nat) (a0_0 : List S68) (a0_1 : List S80) (a0_2 : List S128) (a0_3 : Int) (a0_4 : Int) (a0_5 : Int) (a0_6 : Int) (a1_0 : List S68) (a1_1 : List S80) (a1_2 : List S128) (a1_3 : Int) (a1_4 : Int) (a1_5 : Int) (a1_6 : Int) : goF Tryz.f8 laws_eqDevice.ctx laws_eqDevice.sp 0 laws_eqDevice.en (k + 1) [.code (body Tryz.f8)] (startSt [.ag [.row 0 .t68 a0_0,.row 0 .t80 a0_1,.row 0 .t128 a0_2,.sc (.int .i64 a0_3),.sc (.int .i64 a0_4),.sc (.int .i64 a0_5),.sc (.int .i64 a0_6)],.ag [.row 0 .t68 a1_0,.row 0 .t80 a1_1,.row 0 .t128 a1_2,.sc (.int .i64 a1_3),.sc (.int .i64 a1_4),.sc (.int .i64 a1_5),.sc (.int .i64 a1_6)]] []) = (laws_eqDevice.f k a0_0 a0_1 a0_2 a0_3 a0_4 a0_5 a0_6 a1_0 a1_1 a1_2 a1_3 a1_4 a1_5 a1_6).map laws_eqDevice.e:=by
 rw [laws_eqDevice.f];exact (laws_eqDevice.te _ k a0_0 a0_1 a0_2 a0_3 a0_4 a0_5 a0_6 a1_0 a1_1 a1_2 a1_3 a1_4 a1_5 a1_6).trans (bn (fun t1=>(nb rfl (bn (fun t2=>(nb rfl (nd rfl (nd rfl (nd rfl rfl)))))))))
theorem laws_eqDevice.con (k : Nat) (a0_0 : List S68) (a0_1 : List S80) (a0_2 : List S128) (a0_3 : Int) (a0_4 : Int) (a0_5 : Int) (a0_6 : Int) (a1_0 : List S68) (a1_1 : List S80) (a1_2 : List S128) (a1_3 : Int) (a1_4 : Int) (a1_5 : Int) (a1_6 : Int) (r) (h : laws_eqDevice.f k a0_0 a0_1 a0_2 a0_3 a0_4 a0_5 a0_6 a1_0 a1_1 a1_2 a1_3 a1_4 a1_5 a1_6 = some r) : Contract Tryz.prog kit 8 [.ag [.row 0 .t68 a0_0,.row 0 .t80 a0_1,.row 0 .t128 a0_2,.sc (.int .i64 a0_3),.sc (.int .i64 a0_4),.sc (.int .i64 a0_5),.sc (.int .i64 a0_6)],.ag [.row 0 .t68 a1_0,.row 0 .t80 a1_1,.row 0 .t128 a1_2,.sc (.int .i64 a1_3),.sc (.int .i64 a1_4),.sc (.int .i64 a1_5),.sc (.int .i64 a1_6)]] [] (laws_eqDevice.e r).1 (laws_eqDevice.e r).2.1 (laws_eqDevice.e r).2.2 :=
 con_okG kitOk mix (fun k=>(CtxOk.cons (laws_eqFlash.xok k) (CtxOk.cons (laws_eqStore.xok k) CtxOk.nil))) (laws_eqDevice.oke k a0_0 a0_1 a0_2 a0_3 a0_4 a0_5 a0_6 a1_0 a1_1 a1_2 a1_3 a1_4 a1_5 a1_6) h (by kernel_rfl) (by kernel_rfl) (by kernel_rfl) rfl (by kernel_rfl) rfl rfl
def laws_eqDevice.x (k : Nat) : X:=fun ins bs κ=>match ins,bs with
 | [.ag [.row 0 .t68 a0_0,.row 0 .t80 a0_1,.row 0 .t128 a0_2,.sc (.int .i64 a0_3),.sc (.int .i64 a0_4),.sc (.int .i64 a0_5),.sc (.int .i64 a0_6)],.ag [.row 0 .t68 a1_0,.row 0 .t80 a1_1,.row 0 .t128 a1_2,.sc (.int .i64 a1_3),.sc (.int .i64 a1_4),.sc (.int .i64 a1_5),.sc (.int .i64 a1_6)]],[]=>(laws_eqDevice.f k a0_0 a0_1 a0_2 a0_3 a0_4 a0_5 a0_6 a1_0 a1_1 a1_2 a1_3 a1_4 a1_5 a1_6).bind fun r=>κ (laws_eqDevice.e r).1 (laws_eqDevice.e r).2.1 (laws_eqDevice.e r).2.2
 | _,_=>none
theorem laws_eqDevice.xok (k : Nat) : XOk 8 (laws_eqDevice.x k):=by
 intro ins bs κ res h;unfold laws_eqDevice.x at h
 split at h
 ·obtain ⟨r,hr,h⟩:=Option.bind_eq_some_iff.1 h;exact ⟨_,_,_,laws_eqDevice.con k _ _ _ _ _ _ _ _ _ _ _ _ _ _ r hr,h⟩
 cases h
def laws_FnExactReadOf.sp : Nat → Option (Spec Ty):=fun r=>none
def laws_FnExactReadOf.en : Option (Spec Ty):=none
def laws_FnExactReadOf.ctx (k : Nat) : Ctx Ty D:=(cons 4 (laws_szDevice.x k) (cons 5 (spec_ReadOf.x k) (cons 6 (laws_toDevice.x k) (cons 7 (impl_ReadOf.x k) (cons 8 (laws_eqDevice.x k) (fun _ _ _ _=>none))))))
def laws_FnExactReadOf.f (k : Nat) (a0_0 : List S91) (a0_1 : List S104) (a0_2 : List S119) (a0_3 : Int) (a0_4 : Int) (a0_5 : Int) (a0_6 : Int) (a1 : Int) (a2 : Int) : Option (Bool):=((laws_szDevice.f k a0_0 a0_1 a0_2 a0_3 a0_4 a0_5 a0_6 1048576).bind fun t1=>(if t1 < 0 then (some (true)) else ((laws_toDevice.f k a0_0 a0_1 a0_2 a0_3 a0_4 a0_5 a0_6).bind fun t2=>((spec_ReadOf.f k t2.1 t2.2.1 t2.2.2.1 t2.2.2.2.1 t2.2.2.2.2.1 t2.2.2.2.2.2.1 t2.2.2.2.2.2.2 a1 a2).bind fun t3=>((laws_toDevice.f k a0_0 a0_1 a0_2 a0_3 a0_4 a0_5 a0_6).bind fun t4=>((impl_ReadOf.f k t4.1 t4.2.1 t4.2.2.1 t4.2.2.2.1 t4.2.2.2.2.1 t4.2.2.2.2.2.1 t4.2.2.2.2.2.2 a1 a2).bind fun t5=>(if (seq t5.1 t3.1) = true then (if (t5.2 == t3.2) = true then ((laws_toDevice.f k a0_0 a0_1 a0_2 a0_3 a0_4 a0_5 a0_6).bind fun t6=>((laws_eqDevice.f k t4.1 t4.2.1 t4.2.2.1 t4.2.2.2.1 t4.2.2.2.2.1 t4.2.2.2.2.2.1 t4.2.2.2.2.2.2 t6.1 t6.2.1 t6.2.2.1 t6.2.2.2.1 t6.2.2.2.2.1 t6.2.2.2.2.2.1 t6.2.2.2.2.2.2).bind fun t7=>(if t7 = true then (some (true)) else (some (false))))) else (some (false))) else (some (false)))))))))
def laws_FnExactReadOf.e (r : Bool) : Res Ty D:=(.sc (.bool r),[],[])
abbrev laws_FnExactReadOf.g (rec : List Item → St Ty D → R) (k : Nat):=go1 Tryz.f3 (laws_FnExactReadOf.ctx k) laws_FnExactReadOf.sp 0 laws_FnExactReadOf.en rec
theorem laws_FnExactReadOf.te (rec : List Item → St Ty D → R) (k : Nat) (a0_0 : List S91) (a0_1 : List S104) (a0_2 : List S119) (a0_3 : Int) (a0_4 : Int) (a0_5 : Int) (a0_6 : Int) (a1 : Int) (a2 : Int) : laws_FnExactReadOf.g rec k [.code (body Tryz.f3)] (startSt [.ag [.row 0 .t91 a0_0,.row 0 .t104 a0_1,.row 0 .t119 a0_2,.sc (.int .i64 a0_3),.sc (.int .i64 a0_4),.sc (.int .i64 a0_5),.sc (.int .i64 a0_6)],.sc (.int .i64 a1),.sc (.int .i64 a2)] []) =
 (laws_szDevice.f k a0_0 a0_1 a0_2 a0_3 a0_4 a0_5 a0_6 1048576).bind fun t1=>bif decide (t1 < 0) then some (laws_FnExactReadOf.e (true)) else (laws_toDevice.f k a0_0 a0_1 a0_2 a0_3 a0_4 a0_5 a0_6).bind fun t2=>(spec_ReadOf.f k t2.1 t2.2.1 t2.2.2.1 t2.2.2.2.1 t2.2.2.2.2.1 t2.2.2.2.2.2.1 t2.2.2.2.2.2.2 a1 a2).bind fun t3=>(laws_toDevice.f k a0_0 a0_1 a0_2 a0_3 a0_4 a0_5 a0_6).bind fun t4=>(impl_ReadOf.f k t4.1 t4.2.1 t4.2.2.1 t4.2.2.2.1 t4.2.2.2.2.1 t4.2.2.2.2.2.1 t4.2.2.2.2.2.2 a1 a2).bind fun t5=>bif !(seq t5.1 t3.1) then some (laws_FnExactReadOf.e (false)) else bif !(t5.2 == t3.2) then some (laws_FnExactReadOf.e (false)) else (laws_toDevice.f k a0_0 a0_1 a0_2 a0_3 a0_4 a0_5 a0_6).bind fun t6=>(laws_eqDevice.f k t4.1 t4.2.1 t4.2.2.1 t4.2.2.2.1 t4.2.2.2.2.1 t4.2.2.2.2.2.1 t4.2.2.2.2.2.2 t6.1 t6.2.1 t6.2.2.1 t6.2.2.2.1 t6.2.2.2.2.1 t6.2.2.2.2.2.1 t6.2.2.2.2.2.2).bind fun t7=>bif !t7 then some (laws_FnExactReadOf.e (false)) else some (laws_FnExactReadOf.e (true)):=by kernel_rfl
theorem laws_FnExactReadOf.oke (k : Nat) (a0_0 : List S91) (a0_1 : List S104) (a0_2 : List S119) (a0_3 : Int) (a0_4 : Int) (a0_5 : Int) (a0_6 : Int) (a1 : Int) (a2 : Int) : goF Tryz.f3 laws_FnExactReadOf.ctx laws_FnExactReadOf.sp 0 laws_FnExactReadOf.en (k + 1) [.code (body Tryz.f3)] (startSt [.ag [.row 0 .t91 a0_0,.row 0 .t104 a0_1,.row 0 .t119 a0_2,.sc (.int .i64 a0_3),.sc (.int .i64 a0_4),.sc (.int .i64 a0_5),.sc (.int .i64 a0_6)],.sc (.int .i64 a1),.sc (.int .i64 a2)] []) = (laws_FnExactReadOf.f k a0_0 a0_1 a0_2 a0_3 a0_4 a0_5 a0_6 a1 a2).map laws_FnExactReadOf.e:=by
 rw [laws_FnExactReadOf.f];exact (laws_FnExactReadOf.te _ k a0_0 a0_1 a0_2 a0_3 a0_4 a0_5 a0_6 a1 a2).trans (bn (fun t1=>(cd rfl (bn (fun t2=>(bn (fun t3=>(bn (fun t4=>(bn (fun t5=>(nb rfl (nb rfl (bn (fun t6=>(bn (fun t7=>(nb rfl rfl))))))))))))))))))
theorem laws_FnExactReadOf.con (k : Nat) (a0_0 : List S91) (a0_1 : List S104) (a0_2 : List S119) (a0_3 : Int) (a0_4 : Int) (a0_5 : Int) (a0_6 : Int) (a1 : Int) (a2 : Int) (r) (h : laws_FnExactReadOf.f k a0_0 a0_1 a0_2 a0_3 a0_4 a0_5 a0_6 a1 a2 = some r) : Contract Tryz.prog kit 3 [.ag [.row 0 .t91 a0_0,.row 0 .t104 a0_1,.row 0 .t119 a0_2,.sc (.int .i64 a0_3),.sc (.int .i64 a0_4),.sc (.int .i64 a0_5),.sc (.int .i64 a0_6)],.sc (.int .i64 a1),.sc (.int .i64 a2)] [] (laws_FnExactReadOf.e r).1 (laws_FnExactReadOf.e r).2.1 (laws_FnExactReadOf.e r).2.2 :=
 con_okG kitOk mix (fun k=>(CtxOk.cons (laws_szDevice.xok k) (CtxOk.cons (spec_ReadOf.xok k) (CtxOk.cons (laws_toDevice.xok k) (CtxOk.cons (impl_ReadOf.xok k) (CtxOk.cons (laws_eqDevice.xok k) CtxOk.nil)))))) (laws_FnExactReadOf.oke k a0_0 a0_1 a0_2 a0_3 a0_4 a0_5 a0_6 a1 a2) h (by kernel_rfl) (by kernel_rfl) (by kernel_rfl) rfl (by kernel_rfl) rfl rfl
def laws_FnExactReadOf.x (k : Nat) : X:=fun ins bs κ=>match ins,bs with
 | [.ag [.row 0 .t91 a0_0,.row 0 .t104 a0_1,.row 0 .t119 a0_2,.sc (.int .i64 a0_3),.sc (.int .i64 a0_4),.sc (.int .i64 a0_5),.sc (.int .i64 a0_6)],.sc (.int .i64 a1),.sc (.int .i64 a2)],[]=>(laws_FnExactReadOf.f k a0_0 a0_1 a0_2 a0_3 a0_4 a0_5 a0_6 a1 a2).bind fun r=>κ (laws_FnExactReadOf.e r).1 (laws_FnExactReadOf.e r).2.1 (laws_FnExactReadOf.e r).2.2
 | _,_=>none
theorem laws_FnExactReadOf.xok (k : Nat) : XOk 3 (laws_FnExactReadOf.x k):=by
 intro ins bs κ res h;unfold laws_FnExactReadOf.x at h
 split at h
 ·obtain ⟨r,hr,h⟩:=Option.bind_eq_some_iff.1 h;exact ⟨_,_,_,laws_FnExactReadOf.con k _ _ _ _ _ _ _ _ _ r hr,h⟩
 cases h
end
end Go.Proofs.YtbbfkodckpfjcaaGreat.M2

namespace Go.Proofs.YtbbfkodckpfjcaaGreat.PK
open Go Go.RowKit Go.Proofs.YtbbfkodckpfjcaaGreatW.PrintWords Go.Proofs.YtbbfkodckpfjcaaGreatW.PrintLast Go.Proofs.YtbbfkodckpfjcaaGreatW.PrintMore
set_option linter.unusedVariables false
def spec_l01Var.l0 : Nat → Int → List Int → Option (ByteArray)
 | 0,_,_=>none
 | k + 1,x0,x3=>if x0 > 127 then (if x3.length < 140737488355328 then (spec_l01Var.l0 k (wrap64 (Int.tdiv x0 128)) (x3 ++ [(wrap64 ((Int.tmod x0 128) + 128)) % 256])) else (none)) else (if x3.length < 140737488355328 then (some (strOfNums (x3 ++ [(x0) % 256]))) else (none))
def spec_l01Var.f (k : Nat) (a0 : Int) : Option (ByteArray):=spec_l01Var.l0 k a0 (([] : List Int))
def spec_l01In.f (a0 : Int) (a1 : Int) (a2 : Int) : Option (Bool):=if a0 ≥ a1 then (some (decide (a0 ≤ a2))) else (some false)
mutual
def spec_ReadVar.l0 : Nat → ByteArray → Int → Int → Int → Int → Option (Int × Int × Bool)
 | 0,_,_,_,_,_=>none
 | k + 1,x0,x1,x7,x8,x9=>if x9 < (x0.size : Int) then (spec_ReadVar.j1 k x0 x1 x7 x8 x9 (decide (x9 < (wrap64 (x1 + 5))))) else (spec_ReadVar.j1 k x0 x1 x7 x8 x9 false)
def spec_ReadVar.j1 : Nat → ByteArray → Int → Int → Int → Int → Bool → Option (Int × Int × Bool)
 | 0,_,_,_,_,_,_=>none
 | k + 1,x0,x1,x7,x8,x9,x25=>if x25 = true then (if 0 ≤ x9 then (if x9 < (x0.size : Int) then (if (bt x0 x9) < 128 then (if (wrap64 (x7 + (wrap64 ((Int.tmod (wrap64 (bt x0 x9)) 128) * x8)))) > 1000000000 then (some (0,0,false)) else ((spec_l01Var.f k (wrap64 (x7 + (wrap64 ((Int.tmod (wrap64 (bt x0 x9)) 128) * x8))))).bind fun t238=>(if 0 ≤ x1 then (if x1 ≤ (wrap64 (x9 + 1)) then (if (wrap64 (x9 + 1)) ≤ (x0.size : Int) then (if t238.toList = (x0.extract (x1 : Int).toNat ((wrap64 (x9 + 1)) : Int).toNat).toList then (some (wrap64 (x7 + (wrap64 ((Int.tmod (wrap64 (bt x0 x9)) 128) * x8))),wrap64 (x9 + 1),true)) else (some (0,0,false))) else (none)) else (none)) else (none)))) else (spec_ReadVar.l0 k x0 x1 (wrap64 (x7 + (wrap64 ((Int.tmod (wrap64 (bt x0 x9)) 128) * x8)))) (wrap64 (x8 * 128)) (wrap64 (x9 + 1)))) else (none)) else (none)) else (some (0,0,false))
end
def spec_ReadVar.f (k : Nat) (a0 : ByteArray) (a1 : Int) : Option (Int × Int × Bool):=(spec_l01In.f a1 0 (a0.size : Int)).bind fun t237=>(if t237 = true then (spec_ReadVar.l0 k a0 a1 0 1 a1) else (some (0,0,false)))
mutual
def impl_ReadVar.l0 : Nat → ByteArray → Int → Int → Int → Option (Int × Int × Bool)
 | 0,_,_,_,_=>none
 | k + 1,x0,x1,x7,x8=>if x8 < 5 then (if x1 ≥ 0 then (impl_ReadVar.j1 k x0 x1 x7 x8 (decide (x1 < (wrap64 ((x0.size : Int) - x8))))) else (impl_ReadVar.j1 k x0 x1 x7 x8 false)) else (impl_ReadVar.j1 k x0 x1 x7 x8 false)
def impl_ReadVar.j1 : Nat → ByteArray → Int → Int → Int → Bool → Option (Int × Int × Bool)
 | 0,_,_,_,_,_=>none
 | k + 1,x0,x1,x7,x8,x23=>if x23 = true then (if 0 ≤ (wrap64 (x1 + x8)) then (if (wrap64 (x1 + x8)) < (x0.size : Int) then (if 0 ≤ (wrap64 (7 * x8)) then (if (wrap64 (bt x0 (wrap64 (x1 + x8)))) ≥ 128 then (impl_ReadVar.l0 k x0 x1 (wrap64 (x7 + (shl .i64 (Int.tmod (wrap64 (bt x0 (wrap64 (x1 + x8)))) 128) (wrap64 (7 * x8))))) (wrap64 (x8 + 1))) else (if (wrap64 (bt x0 (wrap64 (x1 + x8)))) = 0 then (if x8 > 0 then (some (0,0,false)) else (if (wrap64 (x7 + (shl .i64 (Int.tmod (wrap64 (bt x0 (wrap64 (x1 + x8)))) 128) (wrap64 (7 * x8))))) > 1000000000 then (some (0,0,false)) else (some (wrap64 (x7 + (shl .i64 (Int.tmod (wrap64 (bt x0 (wrap64 (x1 + x8)))) 128) (wrap64 (7 * x8)))),wrap64 ((wrap64 (x1 + x8)) + 1),true)))) else (if (wrap64 (x7 + (shl .i64 (Int.tmod (wrap64 (bt x0 (wrap64 (x1 + x8)))) 128) (wrap64 (7 * x8))))) > 1000000000 then (some (0,0,false)) else (some (wrap64 (x7 + (shl .i64 (Int.tmod (wrap64 (bt x0 (wrap64 (x1 + x8)))) 128) (wrap64 (7 * x8)))),wrap64 ((wrap64 (x1 + x8)) + 1),true))))) else (none)) else (none)) else (none)) else (some (0,0,false))
end
def impl_ReadVar.f (k : Nat) (a0 : ByteArray) (a1 : Int) : Option (Int × Int × Bool):=impl_ReadVar.l0 k a0 a1 0 0
def laws_szLeaf.f (a0_0 : Int) (a0_1 : ByteArray) (a1 : Int) : Option (Int):=if (wrap64 (a1 - (a0_1.size : Int))) < 0 then (some (-1)) else (some (wrap64 (a1 - (a0_1.size : Int))))
def laws_szLeafS.l0 : Nat → List (S139) → Int → Int → Option (Int)
 | 0,_,_,_=>none
 | k + 1,x0,x1,x5=>if x5 < (x0.length : Int) then (if 0 ≤ x5 then ((laws_szLeaf.f ((rd_T139 x0 x5).f0) ((rd_T139 x0 x5).f1) x1).bind fun t103=>(if t103 < 0 then (some (-1)) else (laws_szLeafS.l0 k x0 t103 (wrap64 (x5 + 1))))) else (none)) else (some x1)
def laws_szLeafS.f (k : Nat) (l0 : List (S139)) (a1 : Int) : Option (Int):=if (wrap64 (a1 - (l0.length : Int))) < 0 then (some (-1)) else (laws_szLeafS.l0 k l0 (wrap64 (a1 - (l0.length : Int))) 0)
def laws_szBlock.f (k : Nat) (a0_0 : Bool) (a0_1 : Int) (l0_2 : List (S139)) (a1 : Int) : Option (Int):=(laws_szLeafS.f k l0_2 a1).bind fun t105=>(if t105 < 0 then (some (-1)) else (some t105))
def laws_szBlockS.l0 : Nat → List (S91) → Int → Int → Option (Int)
 | 0,_,_,_=>none
 | k + 1,x0,x1,x5=>if x5 < (x0.length : Int) then (if 0 ≤ x5 then ((laws_szBlock.f k ((rd_T91 x0 x5).f0) ((rd_T91 x0 x5).f1) ((rd_T91 x0 x5).f2) x1).bind fun t107=>(if t107 < 0 then (some (-1)) else (laws_szBlockS.l0 k x0 t107 (wrap64 (x5 + 1))))) else (none)) else (some x1)
def laws_szBlockS.f (k : Nat) (l0 : List (S91)) (a1 : Int) : Option (Int):=if (wrap64 (a1 - (l0.length : Int))) < 0 then (some (-1)) else (laws_szBlockS.l0 k l0 (wrap64 (a1 - (l0.length : Int))) 0)
def laws_szFlash.f (k : Nat) (l0_0 : List (S91)) (a1 : Int) : Option (Int):=(laws_szBlockS.f k l0_0 a1).bind fun t109=>(if t109 < 0 then (some (-1)) else (some t109))
def laws_toLeaf.f (a0_0 : Int) (a0_1 : ByteArray) : Option (Int × ByteArray):=some (a0_0,a0_1)
def laws_toLeafS.l0 : Nat → List (S139) → List (S96) → Int → Option ((List (S96)))
 | 0,_,_,_=>none
 | k + 1,x0,x3,x4=>if x4 < (x0.length : Int) then (if 0 ≤ x4 then ((laws_toLeaf.f ((rd_T139 x0 x4).f0) ((rd_T139 x0 x4).f1)).bind fun bt282=>(if x4 < (x3.length : Int) then (laws_toLeafS.l0 k x0 (x3.set (x4 : Int).toNat (⟨bt282.1,bt282.2⟩ : S96)) (wrap64 (x4 + 1))) else (none))) else (none)) else (some x3)
def laws_toLeafS.f (k : Nat) (l0 : List (S139)) : Option ((List (S96))):=if 0 ≤ (l0.length : Int) then (if ((l0.length : Int) : Int).toNat ≤ 11728124029610 then (laws_toLeafS.l0 k l0 (List.replicate ((l0.length : Int) : Int).toNat z96) 0) else (none)) else (none)
def laws_toBlock.f (k : Nat) (a0_0 : Bool) (a0_1 : Int) (l0_2 : List (S139)) : Option (Bool × Int × (List (S96))):=(laws_toLeafS.f k l0_2).bind fun t288=>(some (a0_0,a0_1,t288))
def laws_toBlockS.l0 : Nat → List (S91) → List (S68) → Int → Option ((List (S68)))
 | 0,_,_,_=>none
 | k + 1,x0,x3,x4=>if x4 < (x0.length : Int) then (if 0 ≤ x4 then ((laws_toBlock.f k ((rd_T91 x0 x4).f0) ((rd_T91 x0 x4).f1) ((rd_T91 x0 x4).f2)).bind fun bt295=>(if x4 < (x3.length : Int) then (laws_toBlockS.l0 k x0 (x3.set (x4 : Int).toNat (⟨bt295.1,bt295.2.1,bt295.2.2⟩ : S68)) (wrap64 (x4 + 1))) else (none))) else (none)) else (some x3)
def laws_toBlockS.f (k : Nat) (l0 : List (S91)) : Option ((List (S68))):=if 0 ≤ (l0.length : Int) then (if ((l0.length : Int) : Int).toNat ≤ 7036874417766 then (laws_toBlockS.l0 k l0 (List.replicate ((l0.length : Int) : Int).toNat z68) 0) else (none)) else (none)
def laws_toFlash.f (k : Nat) (l0_0 : List (S91)) : Option ((List (S68))):=(laws_toBlockS.f k l0_0).bind fun t304=>(some t304)
def laws_eqLeaf.f (a0_0 : Int) (a0_1 : ByteArray) (a1_0 : Int) (a1_1 : ByteArray) : Option (Bool):=if a0_0 = a1_0 then (if a0_1.toList = a1_1.toList then (some true) else (some false)) else (some false)
def laws_eqLeafS.l0 : Nat → List (S96) → List (S96) → Int → Option (Bool)
 | 0,_,_,_=>none
 | k + 1,x0,x1,x5=>if x5 < (x0.length : Int) then (if 0 ≤ x5 then (if x5 < (x1.length : Int) then ((laws_eqLeaf.f ((rd_T96 x0 x5).f0) ((rd_T96 x0 x5).f1) ((rd_T96 x1 x5).f0) ((rd_T96 x1 x5).f1)).bind fun t480=>(if t480 = true then (laws_eqLeafS.l0 k x0 x1 (wrap64 (x5 + 1))) else (some false))) else (none)) else (none)) else (some true)
def laws_eqLeafS.f (k : Nat) (l0 : List (S96)) (l1 : List (S96)) : Option (Bool):=if (l0.length : Int) = (l1.length : Int) then (laws_eqLeafS.l0 k l0 l1 0) else (some false)
def laws_eqBlock.f (k : Nat) (a0_0 : Bool) (a0_1 : Int) (l0_2 : List (S96)) (a1_0 : Bool) (a1_1 : Int) (l1_2 : List (S96)) : Option (Bool):=if (a0_0 != a1_0) = true then (some false) else (if a0_1 = a1_1 then ((laws_eqLeafS.f k l0_2 l1_2).bind fun t483=>(if t483 = true then (some true) else (some false))) else (some false))
def laws_eqBlockS.l0 : Nat → List (S68) → List (S68) → Int → Option (Bool)
 | 0,_,_,_=>none
 | k + 1,x0,x1,x5=>if x5 < (x0.length : Int) then (if 0 ≤ x5 then (if x5 < (x1.length : Int) then ((laws_eqBlock.f k ((rd_T68 x0 x5).f0) ((rd_T68 x0 x5).f1) ((rd_T68 x0 x5).f2) ((rd_T68 x1 x5).f0) ((rd_T68 x1 x5).f1) ((rd_T68 x1 x5).f2)).bind fun t486=>(if t486 = true then (laws_eqBlockS.l0 k x0 x1 (wrap64 (x5 + 1))) else (some false))) else (none)) else (none)) else (some true)
def laws_eqBlockS.f (k : Nat) (l0 : List (S68)) (l1 : List (S68)) : Option (Bool):=if (l0.length : Int) = (l1.length : Int) then (laws_eqBlockS.l0 k l0 l1 0) else (some false)
def laws_eqFlash.f (k : Nat) (l0_0 : List (S68)) (l1_0 : List (S68)) : Option (Bool):=(laws_eqBlockS.f k l0_0 l1_0).bind fun t489=>(if t489 = true then (some true) else (some false))
def spec_l12At.l0 : Nat → Int → Int → List (S80) → List (S128) → Int → Option (Int)
 | 0,_,_,_,_,_=>none
 | k + 1,x1,x5,x123000,x123001,x123002=>if x5 < (x123000.length : Int) then (if 0 ≤ x5 then (if ((rd_T80 x123000 x5).f0) = x1 then (some x5) else (spec_l12At.l0 k x1 (wrap64 (x5 + 1)) x123000 x123001 x123002)) else (none)) else (some (-1))
def spec_l12At.f (k : Nat) (l0_0 : List (S80)) (l0_1 : List (S128)) (a0_2 : Int) (a1 : Int) : Option (Int):=spec_l12At.l0 k a1 0 l0_0 l0_1 a0_2
mutual
def spec_ArenaOk.l0 : Nat → Int → List (S128) → Option (Bool)
 | 0,_,_=>none
 | k + 1,x3,x125000=>if x3 < (x125000.length : Int) then (if 0 ≤ x3 then (if (((rd_T128 x125000 x3).f1).length : Int) = 4 then (spec_ArenaOk.l1 k x3 0 x125000 ((rd_T128 x125000 x3).f0) ((rd_T128 x125000 x3).f1)) else (some false)) else (none)) else (some true)
def spec_ArenaOk.l1 : Nat → Int → Int → List (S128) → Bool → List Int → Option (Bool)
 | 0,_,_,_,_,_=>none
 | k + 1,x3,x5,x125000,x127000,x127001=>if x5 < 4 then (if 0 ≤ x5 then (if x5 < (x127001.length : Int) then (if x127000 = true then (if (rd x127001 x5) < 0 then (some false) else (spec_ArenaOk.l1 k x3 (wrap64 (x5 + 1)) x125000 x127000 x127001)) else (if (rd x127001 x5) = (-1) then (spec_ArenaOk.l1 k x3 (wrap64 (x5 + 1)) x125000 x127000 x127001) else ((spec_l01In.f (rd x127001 x5) 0 (wrap64 (x3 - 1))).bind fun t128=>(if t128 = true then (if 0 ≤ (rd x127001 x5) then (if (rd x127001 x5) < (x125000.length : Int) then (if ((rd_T128 x125000 (rd x127001 x5)).f0 = true) then (spec_ArenaOk.l1 k x3 (wrap64 (x5 + 1)) x125000 x127000 x127001) else (some false)) else (none)) else (none)) else (some false))))) else (none)) else (none)) else (spec_ArenaOk.l0 k (wrap64 (x3 + 1)) x125000)
end
def spec_ArenaOk.f (k : Nat) (l0_0 : List (S128)) : Option (Bool):=spec_ArenaOk.l0 k 0 l0_0
def spec_l11Root.f (l0_0 : List (S128)) (a1 : Int) : Option (Bool):=if a1 = (-1) then (some true) else ((spec_l01In.f a1 0 (wrap64 ((l0_0.length : Int) - 1))).bind fun t131=>(if t131 = true then (if 0 ≤ a1 then (if a1 < (l0_0.length : Int) then (some (!((rd_T128 l0_0 a1).f0))) else (none)) else (none)) else (some false)))
def spec_l11Get.f (l0_0 : List (S128)) (a1 : Int) (a2 : Int) : Option (Int):=if a1 < 0 then (some 0) else (if 0 ≤ a1 then (if a1 < (l0_0.length : Int) then (if 0 ≤ (wrap64 (Int.tdiv a2 4)) then (if (wrap64 (Int.tdiv a2 4)) < (((rd_T128 l0_0 a1).f1).length : Int) then (if (rd ((rd_T128 l0_0 a1).f1) (wrap64 (Int.tdiv a2 4))) < 0 then (some 0) else (if 0 ≤ (rd ((rd_T128 l0_0 a1).f1) (wrap64 (Int.tdiv a2 4))) then (if (rd ((rd_T128 l0_0 a1).f1) (wrap64 (Int.tdiv a2 4))) < (l0_0.length : Int) then (if 0 ≤ (Int.tmod a2 4) then (if (Int.tmod a2 4) < (((rd_T128 l0_0 (rd ((rd_T128 l0_0 a1).f1) (wrap64 (Int.tdiv a2 4)))).f1).length : Int) then (some (rd ((rd_T128 l0_0 (rd ((rd_T128 l0_0 a1).f1) (wrap64 (Int.tdiv a2 4)))).f1) (Int.tmod a2 4))) else (none)) else (none)) else (none)) else (none))) else (none)) else (none)) else (none)) else (none))
def spec_GetAt.f (k : Nat) (l0_0 : List (S128)) (a1 : Int) (a2 : Int) : Option (Int):=(spec_ArenaOk.f k l0_0).bind fun t139=>(if t139 = true then ((spec_l11Root.f l0_0 a1).bind fun t140=>(if t140 = true then ((spec_l01In.f a2 0 15).bind fun t141=>(if t141 = true then ((spec_l11Get.f l0_0 a1 a2).bind fun t142=>(some t142)) else (some 0))) else (some 0))) else (some 0))
def spec_ChunkOf.f (k : Nat) (l0_0 : List (S80)) (l0_1 : List (S128)) (a0_2 : Int) (a1 : Int) (a2 : Int) : Option (Int):=(spec_l12At.f k l0_0 l0_1 a0_2 a1).bind fun t144=>(if t144 < 0 then (some 0) else (if 0 ≤ t144 then (if t144 < (l0_0.length : Int) then ((spec_GetAt.f k l0_1 ((rd_T80 l0_0 t144).f1) a2).bind fun t146=>(some t146)) else (none)) else (none)))
def impl_volAt.l0 : Nat → Int → List (S80) → Int → Int → Option (Int)
 | 0,_,_,_,_=>none
 | k + 1,x1,x8,x9,x10=>if x10 < x9 then (if 0 ≤ x10 then (if x10 < (x8.length : Int) then (if ((rd_T80 x8 x10).f0) = x1 then (some x10) else (impl_volAt.l0 k x1 x8 x9 (wrap64 (x10 + 1)))) else (none)) else (none)) else (some (-1))
def impl_volAt.f (k : Nat) (l0_0 : List (S80)) (l0_1 : List (S128)) (a0_2 : Int) (a1 : Int) : Option (Int):=impl_volAt.l0 k a1 l0_0 (l0_0.length : Int) 0
def impl_in.f (a0 : Int) (a1 : Int) (a2 : Int) : Option (Bool):=if a0 ≥ a1 then (some (decide (a0 ≤ a2))) else (some false)
def impl_isRoot.f (l0_0 : List (S128)) (a1 : Int) : Option (Bool):=(impl_in.f a1 0 (wrap64 ((l0_0.length : Int) - 1))).bind fun t369=>(if t369 = true then (if 0 ≤ a1 then (if a1 < (l0_0.length : Int) then (some (!((rd_T128 l0_0 a1).f0))) else (none)) else (none)) else (some false))
mutual
def impl_ArenaOk.l0 : Nat → List (S128) → Int → Int → List (S128) → Option (Bool)
 | 0,_,_,_,_=>none
 | k + 1,x8,x9,x10,x372000=>if x10 < x9 then (if 0 ≤ x10 then (if x10 < (x8.length : Int) then (if (((rd_T128 x8 x10).f1).length : Int) = 4 then (impl_ArenaOk.l1 k x10 x8 x9 x10 ((rd_T128 x8 x10).f1) (((rd_T128 x8 x10).f1).length : Int) 0 x372000 ((rd_T128 x8 x10).f0) ((rd_T128 x8 x10).f1)) else (some false)) else (none)) else (none)) else (some true)
def impl_ArenaOk.l1 : Nat → Int → List (S128) → Int → Int → List Int → Int → Int → List (S128) → Bool → List Int → Option (Bool)
 | 0,_,_,_,_,_,_,_,_,_,_=>none
 | k + 1,x3,x8,x9,x10,x20,x21,x22,x372000,x374000,x374001=>if x22 < x21 then (if 0 ≤ x22 then (if x22 < (x20.length : Int) then (if x374000 = true then (if (rd x20 x22) < 0 then (some false) else (impl_ArenaOk.l1 k x3 x8 x9 x10 x20 x21 (wrap64 (x22 + 1)) x372000 x374000 x374001)) else (if (rd x20 x22) = (-1) then (impl_ArenaOk.l1 k x3 x8 x9 x10 x20 x21 (wrap64 (x22 + 1)) x372000 x374000 x374001) else ((impl_in.f (rd x20 x22) 0 (wrap64 (x3 - 1))).bind fun t375=>(if t375 = true then (if 0 ≤ (rd x20 x22) then (if (rd x20 x22) < (x372000.length : Int) then (if ((rd_T128 x372000 (rd x20 x22)).f0 = true) then (impl_ArenaOk.l1 k x3 x8 x9 x10 x20 x21 (wrap64 (x22 + 1)) x372000 x374000 x374001) else (some false)) else (none)) else (none)) else (some false))))) else (none)) else (none)) else (impl_ArenaOk.l0 k x8 x9 (wrap64 (x10 + 1)) x372000)
end
def impl_ArenaOk.f (k : Nat) (l0_0 : List (S128)) : Option (Bool):=impl_ArenaOk.l0 k l0_0 (l0_0.length : Int) 0 l0_0
def impl_numberAt.f (l0_0 : List (S128)) (a1 : Int) (a2 : Int) : Option (Int):=if 0 ≤ a1 then (if a1 < (l0_0.length : Int) then (if 0 ≤ (wrap64 (Int.tdiv a2 4)) then (if (wrap64 (Int.tdiv a2 4)) < (((rd_T128 l0_0 a1).f1).length : Int) then (if (rd ((rd_T128 l0_0 a1).f1) (wrap64 (Int.tdiv a2 4))) < 0 then (some 0) else (if 0 ≤ (rd ((rd_T128 l0_0 a1).f1) (wrap64 (Int.tdiv a2 4))) then (if (rd ((rd_T128 l0_0 a1).f1) (wrap64 (Int.tdiv a2 4))) < (l0_0.length : Int) then (if 0 ≤ (Int.tmod a2 4) then (if (Int.tmod a2 4) < (((rd_T128 l0_0 (rd ((rd_T128 l0_0 a1).f1) (wrap64 (Int.tdiv a2 4)))).f1).length : Int) then (some (rd ((rd_T128 l0_0 (rd ((rd_T128 l0_0 a1).f1) (wrap64 (Int.tdiv a2 4)))).f1) (Int.tmod a2 4))) else (none)) else (none)) else (none)) else (none))) else (none)) else (none)) else (none)) else (none)
def impl_GetAt.f (k : Nat) (l0_0 : List (S128)) (a1 : Int) (a2 : Int) : Option (Int):=(impl_in.f a2 0 15).bind fun t383=>(if t383 = true then ((impl_isRoot.f l0_0 a1).bind fun t384=>(if t384 = true then ((impl_ArenaOk.f k l0_0).bind fun t385=>(if t385 = true then ((impl_numberAt.f l0_0 a1 a2).bind fun t386=>(some t386)) else (some 0))) else (some 0))) else (some 0))
def impl_ChunkOf.f (k : Nat) (l0_0 : List (S80)) (l0_1 : List (S128)) (a0_2 : Int) (a1 : Int) (a2 : Int) : Option (Int):=(impl_volAt.f k l0_0 l0_1 a0_2 a1).bind fun t388=>(if t388 < 0 then (some 0) else (if 0 ≤ t388 then (if t388 < (l0_0.length : Int) then ((impl_GetAt.f k l0_1 ((rd_T80 l0_0 t388).f1) a2).bind fun t390=>(some t390)) else (none)) else (none)))
def laws_szVolS.f (l0 : List (S104)) (a1 : Int) : Option (Int):=if (wrap64 (a1 - (l0.length : Int))) < 0 then (some (-1)) else (some (wrap64 (a1 - (l0.length : Int))))
def laws_szIntS.f (l0 : List Int) (a1 : Int) : Option (Int):=if (wrap64 (a1 - (l0.length : Int))) < 0 then (some (-1)) else (some (wrap64 (a1 - (l0.length : Int))))
def laws_szKnot.f (a0_0 : Bool) (l0_1 : List Int) (a1 : Int) : Option (Int):=(laws_szIntS.f l0_1 a1).bind fun t111=>(if t111 < 0 then (some (-1)) else (some t111))
def laws_szKnotS.l0 : Nat → List (S119) → Int → Int → Option (Int)
 | 0,_,_,_=>none
 | k + 1,x0,x1,x5=>if x5 < (x0.length : Int) then (if 0 ≤ x5 then ((laws_szKnot.f ((rd_T119 x0 x5).f0) ((rd_T119 x0 x5).f1) x1).bind fun t113=>(if t113 < 0 then (some (-1)) else (laws_szKnotS.l0 k x0 t113 (wrap64 (x5 + 1))))) else (none)) else (some x1)
def laws_szKnotS.f (k : Nat) (l0 : List (S119)) (a1 : Int) : Option (Int):=if (wrap64 (a1 - (l0.length : Int))) < 0 then (some (-1)) else (laws_szKnotS.l0 k l0 (wrap64 (a1 - (l0.length : Int))) 0)
def laws_szArena.f (k : Nat) (l0_0 : List (S119)) (a1 : Int) : Option (Int):=(laws_szKnotS.f k l0_0 a1).bind fun t115=>(if t115 < 0 then (some (-1)) else (some t115))
def laws_szStore.f (k : Nat) (l0_0 : List (S104)) (l0_1 : List (S119)) (a0_2 : Int) (a1 : Int) : Option (Int):=(laws_szVolS.f l0_0 a1).bind fun t117=>(if t117 < 0 then (some (-1)) else ((laws_szArena.f k l0_1 t117).bind fun t118=>(if t118 < 0 then (some (-1)) else (some t118))))
def laws_toVol.f (a0_0 : Int) (a0_1 : Int) : Option (Int × Int):=some (a0_0,a0_1)
def laws_toVolS.l0 : Nat → List (S104) → List (S80) → Int → Option ((List (S80)))
 | 0,_,_,_=>none
 | k + 1,x0,x3,x4=>if x4 < (x0.length : Int) then (if 0 ≤ x4 then ((laws_toVol.f ((rd_T104 x0 x4).f0) ((rd_T104 x0 x4).f1)).bind fun bt314=>(if x4 < (x3.length : Int) then (laws_toVolS.l0 k x0 (x3.set (x4 : Int).toNat (⟨bt314.1,bt314.2⟩ : S80)) (wrap64 (x4 + 1))) else (none))) else (none)) else (some x3)
def laws_toVolS.f (k : Nat) (l0 : List (S104)) : Option ((List (S80))):=if 0 ≤ (l0.length : Int) then (if ((l0.length : Int) : Int).toNat ≤ 17592186044416 then (laws_toVolS.l0 k l0 (List.replicate ((l0.length : Int) : Int).toNat z80) 0) else (none)) else (none)
def laws_toIntS.l0 : Nat → List Int → List Int → Int → Option (List Int)
 | 0,_,_,_=>none
 | k + 1,x0,x3,x4=>if x4 < (x0.length : Int) then (if 0 ≤ x4 then (if x4 < (x3.length : Int) then (laws_toIntS.l0 k x0 (x3.set (x4 : Int).toNat (rd x0 x4)) (wrap64 (x4 + 1))) else (none)) else (none)) else (some x3)
def laws_toIntS.f (k : Nat) (l0 : List Int) : Option (List Int):=if 0 ≤ (l0.length : Int) then (if ((l0.length : Int) : Int).toNat ≤ 35184372088832 then (laws_toIntS.l0 k l0 (List.replicate ((l0.length : Int) : Int).toNat 0) 0) else (none)) else (none)
def laws_toKnot.f (k : Nat) (a0_0 : Bool) (l0_1 : List Int) : Option (Bool × List Int):=(laws_toIntS.f k l0_1).bind fun t325=>(some (a0_0,t325))
def laws_toKnotS.l0 : Nat → List (S119) → List (S128) → Int → Option ((List (S128)))
 | 0,_,_,_=>none
 | k + 1,x0,x3,x4=>if x4 < (x0.length : Int) then (if 0 ≤ x4 then ((laws_toKnot.f k ((rd_T119 x0 x4).f0) ((rd_T119 x0 x4).f1)).bind fun bt332=>(if x4 < (x3.length : Int) then (laws_toKnotS.l0 k x0 (x3.set (x4 : Int).toNat (⟨bt332.1,bt332.2⟩ : S128)) (wrap64 (x4 + 1))) else (none))) else (none)) else (some x3)
def laws_toKnotS.f (k : Nat) (l0 : List (S119)) : Option ((List (S128))):=if 0 ≤ (l0.length : Int) then (if ((l0.length : Int) : Int).toNat ≤ 8796093022208 then (laws_toKnotS.l0 k l0 (List.replicate ((l0.length : Int) : Int).toNat z128) 0) else (none)) else (none)
def laws_toArena.f (k : Nat) (l0_0 : List (S119)) : Option ((List (S128))):=(laws_toKnotS.f k l0_0).bind fun t340=>(some t340)
def laws_toStore.f (k : Nat) (l0_0 : List (S104)) (l0_1 : List (S119)) (a0_2 : Int) : Option ((List (S80)) × (List (S128)) × Int):=(laws_toVolS.f k l0_0).bind fun t346=>((laws_toArena.f k l0_1).bind fun t349=>(some (t346,t349,a0_2)))
def laws_eqVol.f (a0_0 : Int) (a0_1 : Int) (a1_0 : Int) (a1_1 : Int) : Option (Bool):=if a0_0 = a1_0 then (if a0_1 = a1_1 then (some true) else (some false)) else (some false)
def laws_eqVolS.l0 : Nat → List (S80) → List (S80) → Int → Option (Bool)
 | 0,_,_,_=>none
 | k + 1,x0,x1,x5=>if x5 < (x0.length : Int) then (if 0 ≤ x5 then (if x5 < (x1.length : Int) then ((laws_eqVol.f ((rd_T80 x0 x5).f0) ((rd_T80 x0 x5).f1) ((rd_T80 x1 x5).f0) ((rd_T80 x1 x5).f1)).bind fun t494=>(if t494 = true then (laws_eqVolS.l0 k x0 x1 (wrap64 (x5 + 1))) else (some false))) else (none)) else (none)) else (some true)
def laws_eqVolS.f (k : Nat) (l0 : List (S80)) (l1 : List (S80)) : Option (Bool):=if (l0.length : Int) = (l1.length : Int) then (laws_eqVolS.l0 k l0 l1 0) else (some false)
def laws_eqIntS.l0 : Nat → List Int → List Int → Int → Option (Bool)
 | 0,_,_,_=>none
 | k + 1,x0,x1,x5=>if x5 < (x0.length : Int) then (if 0 ≤ x5 then (if x5 < (x1.length : Int) then (if (rd x0 x5) = (rd x1 x5) then (laws_eqIntS.l0 k x0 x1 (wrap64 (x5 + 1))) else (some false)) else (none)) else (none)) else (some true)
def laws_eqIntS.f (k : Nat) (l0 : List Int) (l1 : List Int) : Option (Bool):=if (l0.length : Int) = (l1.length : Int) then (laws_eqIntS.l0 k l0 l1 0) else (some false)
def laws_eqKnot.f (k : Nat) (a0_0 : Bool) (l0_1 : List Int) (a1_0 : Bool) (l1_1 : List Int) : Option (Bool):=if (a0_0 != a1_0) = true then (some false) else ((laws_eqIntS.f k l0_1 l1_1).bind fun t499=>(if t499 = true then (some true) else (some false)))
def laws_eqKnotS.l0 : Nat → List (S128) → List (S128) → Int → Option (Bool)
 | 0,_,_,_=>none
 | k + 1,x0,x1,x5=>if x5 < (x0.length : Int) then (if 0 ≤ x5 then (if x5 < (x1.length : Int) then ((laws_eqKnot.f k ((rd_T128 x0 x5).f0) ((rd_T128 x0 x5).f1) ((rd_T128 x1 x5).f0) ((rd_T128 x1 x5).f1)).bind fun t502=>(if t502 = true then (laws_eqKnotS.l0 k x0 x1 (wrap64 (x5 + 1))) else (some false))) else (none)) else (none)) else (some true)
def laws_eqKnotS.f (k : Nat) (l0 : List (S128)) (l1 : List (S128)) : Option (Bool):=if (l0.length : Int) = (l1.length : Int) then (laws_eqKnotS.l0 k l0 l1 0) else (some false)
def laws_eqArena.f (k : Nat) (l0_0 : List (S128)) (l1_0 : List (S128)) : Option (Bool):=(laws_eqKnotS.f k l0_0 l1_0).bind fun t505=>(if t505 = true then (some true) else (some false))
def laws_eqStore.f (k : Nat) (l0_0 : List (S80)) (l0_1 : List (S128)) (a0_2 : Int) (l1_0 : List (S80)) (l1_1 : List (S128)) (a1_2 : Int) : Option (Bool):=(laws_eqVolS.f k l0_0 l1_0).bind fun t508=>(if t508 = true then ((laws_eqArena.f k l0_1 l1_1).bind fun t509=>(if t509 = true then (if a0_2 = a1_2 then (some true) else (some false)) else (some false))) else (some false))
end Go.Proofs.YtbbfkodckpfjcaaGreat.PK

namespace Go.Proofs.YtbbfkodckpfjcaaGreat.M2
open Go Go.RowKit Go.Proofs.YtbbfkodckpfjcaaGreatW.PrintWords Go.Proofs.YtbbfkodckpfjcaaGreat.PK
theorem w64_eq (n : Int) : w64 n = wrap64 n:=IntWalk.i64_left n
theorem wu8_eq (n : Int) : Go.IntKind.wrap .u8 n = n % 256:=by simp [IntKind.wrap,IntKind.signed,IntKind.bits]
theorem int_beq (a b : Int) : (a == b) = decide (a = b):=rfl
theorem emp_eq : (⟨#[]⟩ : ByteArray).toList = []:=by kernel_rfl
theorem itE {α : Type} {c : Prop} [Decidable c] {a b : Option α} {r : α} {G : Prop} (h : (if c then a else b) = some r) (x : c → a = some r → G) (y : ¬ c → b = some r → G) : G:=by
 by_cases hc : c
 ·rw [if_pos hc] at h;exact x hc h
 rw [if_neg hc] at h;exact y hc h
theorem bnE {α β : Type} {o : Option α} {f : α → Option β} {r : β} {G : Prop} (h : o.bind f = some r) (x : ∀ t,o = some t → f t = some r → G) : G:=by
 obtain ⟨t,h1,h2⟩:=Option.bind_eq_some_iff.1 h;exact x t h1 h2
theorem noE {α : Type} {r : α} {G : Prop} (h : none = some r) : G:=by cases h
theorem fdiv33 (a : Int) : Int.fdiv a 8589934592 = a / 8589934592:=Int.fdiv_eq_ediv_of_nonneg a (by decide)
theorem fdiv45 (a : Int) : Int.fdiv a 35184372088832 = a / 35184372088832:=Int.fdiv_eq_ediv_of_nonneg a (by decide)
theorem shlR (x y : Int) : w64 (x * 2 ^ (min y.toNat 64)) = Go.Proofs.YtbbfkodckpfjcaaGreatW.PrintWords.shl .i64 x y:=rfl
theorem bt_eq (s : ByteArray) (i : Int) : bt s i = Go.Proofs.YtbbfkodckpfjcaaGreatW.PrintWords.bt s i:=rfl
theorem tmodN (n : Nat) (k : Int) : Int.tmod (n : Int) k = (n : Int) % k:=Int.tmod_eq_emod_of_nonneg (Int.natCast_nonneg n)
theorem rdOfB (a b : Int) : (a - b < 0) = (a < b):=by simp only [eq_iff_iff];omega
theorem rdOfL (a b : Int) : (a - b < 0) = (a < b):=by simp only [eq_iff_iff];omega
theorem rdT3_eq (l : List Int) (i : Int) : rd_T3 l i = rd l i:=rfl
theorem rdT5_eq (l : List Int) (i : Int) : rd_T5 l i = rd l i:=rfl
theorem rdn139 (l : List S139) (i : Int) : rd_T139 l ((i.toNat : Nat) : Int) = rd_T139 l i:=rfl
theorem rdset139 (l : List S139) (i : Int) (y : S139) (h : i < (l.length : Int)) (h0 : 0 ≤ i) : rd_T139 (l.set i.toNat y) i = y:=by
 unfold rd_T139;rw [List.getD_eq_getElem?_getD,List.getElem?_set_self (by omega)];rfl
theorem rdn91 (l : List S91) (i : Int) : rd_T91 l ((i.toNat : Nat) : Int) = rd_T91 l i:=rfl
theorem rdset91 (l : List S91) (i : Int) (y : S91) (h : i < (l.length : Int)) (h0 : 0 ≤ i) : rd_T91 (l.set i.toNat y) i = y:=by
 unfold rd_T91;rw [List.getD_eq_getElem?_getD,List.getElem?_set_self (by omega)];rfl
theorem rdn104 (l : List S104) (i : Int) : rd_T104 l ((i.toNat : Nat) : Int) = rd_T104 l i:=rfl
theorem rdset104 (l : List S104) (i : Int) (y : S104) (h : i < (l.length : Int)) (h0 : 0 ≤ i) : rd_T104 (l.set i.toNat y) i = y:=by
 unfold rd_T104;rw [List.getD_eq_getElem?_getD,List.getElem?_set_self (by omega)];rfl
theorem rdn3 (l : List Int) (i : Int) : rd_T3 l ((i.toNat : Nat) : Int) = rd_T3 l i:=rfl
theorem rdset3 (l : List Int) (i : Int) (y : Int) (h : i < (l.length : Int)) (h0 : 0 ≤ i) : rd_T3 (l.set i.toNat y) i = y:=by
 unfold rd_T3;rw [List.getD_eq_getElem?_getD,List.getElem?_set_self (by omega)];rfl
theorem rdn119 (l : List S119) (i : Int) : rd_T119 l ((i.toNat : Nat) : Int) = rd_T119 l i:=rfl
theorem rdset119 (l : List S119) (i : Int) (y : S119) (h : i < (l.length : Int)) (h0 : 0 ≤ i) : rd_T119 (l.set i.toNat y) i = y:=by
 unfold rd_T119;rw [List.getD_eq_getElem?_getD,List.getElem?_set_self (by omega)];rfl
theorem rdn80 (l : List S80) (i : Int) : rd_T80 l ((i.toNat : Nat) : Int) = rd_T80 l i:=rfl
theorem rdset80 (l : List S80) (i : Int) (y : S80) (h : i < (l.length : Int)) (h0 : 0 ≤ i) : rd_T80 (l.set i.toNat y) i = y:=by
 unfold rd_T80;rw [List.getD_eq_getElem?_getD,List.getElem?_set_self (by omega)];rfl
theorem rdn128 (l : List S128) (i : Int) : rd_T128 l ((i.toNat : Nat) : Int) = rd_T128 l i:=rfl
theorem rdset128 (l : List S128) (i : Int) (y : S128) (h : i < (l.length : Int)) (h0 : 0 ≤ i) : rd_T128 (l.set i.toNat y) i = y:=by
 unfold rd_T128;rw [List.getD_eq_getElem?_getD,List.getElem?_set_self (by omega)];rfl
theorem rdn71 (l : List S71) (i : Int) : rd_T71 l ((i.toNat : Nat) : Int) = rd_T71 l i:=rfl
theorem rdset71 (l : List S71) (i : Int) (y : S71) (h : i < (l.length : Int)) (h0 : 0 ≤ i) : rd_T71 (l.set i.toNat y) i = y:=by
 unfold rd_T71;rw [List.getD_eq_getElem?_getD,List.getElem?_set_self (by omega)];rfl
theorem rdn75 (l : List S75) (i : Int) : rd_T75 l ((i.toNat : Nat) : Int) = rd_T75 l i:=rfl
theorem rdset75 (l : List S75) (i : Int) (y : S75) (h : i < (l.length : Int)) (h0 : 0 ≤ i) : rd_T75 (l.set i.toNat y) i = y:=by
 unfold rd_T75;rw [List.getD_eq_getElem?_getD,List.getElem?_set_self (by omega)];rfl
theorem rdn133 (l : List S133) (i : Int) : rd_T133 l ((i.toNat : Nat) : Int) = rd_T133 l i:=rfl
theorem rdset133 (l : List S133) (i : Int) (y : S133) (h : i < (l.length : Int)) (h0 : 0 ≤ i) : rd_T133 (l.set i.toNat y) i = y:=by
 unfold rd_T133;rw [List.getD_eq_getElem?_getD,List.getElem?_set_self (by omega)];rfl
theorem rdn5 (l : List Int) (i : Int) : rd_T5 l ((i.toNat : Nat) : Int) = rd_T5 l i:=rfl
theorem rdset5 (l : List Int) (i : Int) (y : Int) (h : i < (l.length : Int)) (h0 : 0 ≤ i) : rd_T5 (l.set i.toNat y) i = y:=by
 unfold rd_T5;rw [List.getD_eq_getElem?_getD,List.getElem?_set_self (by omega)];rfl
theorem rdn96 (l : List S96) (i : Int) : rd_T96 l ((i.toNat : Nat) : Int) = rd_T96 l i:=rfl
theorem rdset96 (l : List S96) (i : Int) (y : S96) (h : i < (l.length : Int)) (h0 : 0 ≤ i) : rd_T96 (l.set i.toNat y) i = y:=by
 unfold rd_T96;rw [List.getD_eq_getElem?_getD,List.getElem?_set_self (by omega)];rfl
theorem rdn68 (l : List S68) (i : Int) : rd_T68 l ((i.toNat : Nat) : Int) = rd_T68 l i:=rfl
theorem rdset68 (l : List S68) (i : Int) (y : S68) (h : i < (l.length : Int)) (h0 : 0 ≤ i) : rd_T68 (l.set i.toNat y) i = y:=by
 unfold rd_T68;rw [List.getD_eq_getElem?_getD,List.getElem?_set_self (by omega)];rfl
end Go.Proofs.YtbbfkodckpfjcaaGreat.M2

namespace Go.Proofs.YtbbfkodckpfjcaaGreat.M2
open Go Go.RowKit Go.Proofs.YtbbfkodckpfjcaaGreatW.PrintWords Go.Proofs.YtbbfkodckpfjcaaGreat.PK
set_option linter.unusedVariables false
set_option linter.unusedSimpArgs false
set_option maxHeartbeats 1600000
theorem spec_l01Var.rel_l (k : Nat) : (∀ x0 x3 r,PK.spec_l01Var.l0 k x0 x3 = some r → ∀ m,k ≤ m → spec_l01Var.c2 m x0 x3 = some r):=by
 induction k using Nat.strongRecOn with
 | _ k ih =>
 have il0:=fun k' hk'=>(ih k' hk');clear ih;intro x0 x3 r h m hm;cases k with
 | zero=>simp only [PK.spec_l01Var.l0] at h;cases h
 | succ k =>
  obtain ⟨m,rfl⟩ : ∃ m',m = m' + 1:=⟨m - 1,by omega⟩;rw [PK.spec_l01Var.l0] at h;rw [spec_l01Var.c2]
  try simp only [w64_eq,wu8_eq,gt_iff_lt,ge_iff_le,int_beq,fdiv33,fdiv45,bt_eq,tmodN,rdOfB,rdOfL] at h
  try simp only [shlR]
  try simp only [w64_eq,wu8_eq,gt_iff_lt,ge_iff_le,int_beq,fdiv33,fdiv45,bt_eq,tmodN,rdOfB,rdOfL,rdT3_eq,rdT5_eq,seq,maxI,minI,emp_eq,rdn139,rdn91,rdn104,rdn3,rdn119,rdn80,rdn128,rdn71,rdn75,rdn133,rdn5,rdn96,rdn68]
  refine (itE h (fun q h=>(itE h (fun q h=>((fun h=>?_) (il0 _ (by omega) _ _ _ h m (by omega)))) (fun q h=>(noE h)))) (fun q h=>(itE h (fun q h=>?_) (fun q h=>(noE h)))))
  all_goals clear il0
  all_goals (try cases h)
  all_goals (try simp only [*,if_true,if_false,↓reduceIte,Option.bind_some,List.length_cons,List.length_nil,List.length_append,Bool.not_true,Bool.not_false,Bool.true_eq_false,Bool.false_eq_true])
  all_goals (repeat first | rw [if_pos (by omega)] | rw [if_neg (by omega)])
  all_goals first | exact h | apply h | rfl | (simp_all [-Bool.forall_bool];done) | (simp_all [-Bool.forall_bool];first | exact h | apply h) | (simp_all [-Bool.forall_bool,emp_eq,int_beq];done) | (simp_all [-Bool.forall_bool];(intros;simp_all;done)) | (simp_all [-Bool.forall_bool,rdset139,rdset91,rdset104,rdset3,rdset119,rdset80,rdset128,rdset71,rdset75,rdset133,rdset5,rdset96,rdset68];done) | grind
theorem spec_l01Var.rel (k : Nat) (a0 : Int) (r) (h : PK.spec_l01Var.f k a0 = some r) (m : Nat) (hm : k ≤ m) : spec_l01Var.f m a0 = some r:=by
 have il0:=fun k' (_ : k' < k + 1)=>(spec_l01Var.rel_l k');rw [PK.spec_l01Var.f] at h;rw [spec_l01Var.f]
 try simp only [w64_eq,wu8_eq,gt_iff_lt,ge_iff_le,int_beq,fdiv33,fdiv45,bt_eq,tmodN,rdOfB,rdOfL] at h
 try simp only [shlR]
 try simp only [w64_eq,wu8_eq,gt_iff_lt,ge_iff_le,int_beq,fdiv33,fdiv45,bt_eq,tmodN,rdOfB,rdOfL,rdT3_eq,rdT5_eq,seq,maxI,minI,emp_eq,rdn139,rdn91,rdn104,rdn3,rdn119,rdn80,rdn128,rdn71,rdn75,rdn133,rdn5,rdn96,rdn68]
 refine ((fun h=>?_) (il0 _ (by omega) _ _ _ h m (by omega)))
 all_goals clear il0
 all_goals (try cases h)
 all_goals (try simp only [*,if_true,if_false,↓reduceIte,Option.bind_some,List.length_cons,List.length_nil,List.length_append,Bool.not_true,Bool.not_false,Bool.true_eq_false,Bool.false_eq_true])
 all_goals (repeat first | rw [if_pos (by omega)] | rw [if_neg (by omega)])
 all_goals first | exact h | apply h | rfl | (simp_all [-Bool.forall_bool];done) | (simp_all [-Bool.forall_bool];first | exact h | apply h) | (simp_all [-Bool.forall_bool,emp_eq,int_beq];done) | (simp_all [-Bool.forall_bool];(intros;simp_all;done)) | (simp_all [-Bool.forall_bool,rdset139,rdset91,rdset104,rdset3,rdset119,rdset80,rdset128,rdset71,rdset75,rdset133,rdset5,rdset96,rdset68];done) | grind
theorem spec_l01In.rel (k : Nat) (a0 : Int) (a1 : Int) (a2 : Int) (r) (h : PK.spec_l01In.f a0 a1 a2 = some r) (m : Nat) (hm : k ≤ m) : spec_l01In.f m a0 a1 a2 = some r:=by
 rw [PK.spec_l01In.f] at h;rw [spec_l01In.f]
 try simp only [w64_eq,wu8_eq,gt_iff_lt,ge_iff_le,int_beq,fdiv33,fdiv45,bt_eq,tmodN,rdOfB,rdOfL] at h
 try simp only [shlR]
 try simp only [w64_eq,wu8_eq,gt_iff_lt,ge_iff_le,int_beq,fdiv33,fdiv45,bt_eq,tmodN,rdOfB,rdOfL,rdT3_eq,rdT5_eq,seq,maxI,minI,emp_eq,rdn139,rdn91,rdn104,rdn3,rdn119,rdn80,rdn128,rdn71,rdn75,rdn133,rdn5,rdn96,rdn68]
 refine (itE h (fun q h=>?_) (fun q h=>?_))
 all_goals (try cases h)
 all_goals (try simp only [*,if_true,if_false,↓reduceIte,Option.bind_some,List.length_cons,List.length_nil,List.length_append,Bool.not_true,Bool.not_false,Bool.true_eq_false,Bool.false_eq_true])
 all_goals (repeat first | rw [if_pos (by omega)] | rw [if_neg (by omega)])
 all_goals first | exact h | apply h | rfl | (simp_all [-Bool.forall_bool];done) | (simp_all [-Bool.forall_bool];first | exact h | apply h) | (simp_all [-Bool.forall_bool,emp_eq,int_beq];done) | (simp_all [-Bool.forall_bool];(intros;simp_all;done)) | (simp_all [-Bool.forall_bool,rdset139,rdset91,rdset104,rdset3,rdset119,rdset80,rdset128,rdset71,rdset75,rdset133,rdset5,rdset96,rdset68];done) | grind
theorem spec_ReadVar.rel_l (k : Nat) : (∀ x0 x1 x7 x8 x9 r,PK.spec_ReadVar.l0 k x0 x1 x7 x8 x9 = some r → ∀ m,k ≤ m → spec_ReadVar.c6 m x0 x1 x7 x8 x9 = some (r.1,r.2.1,r.2.2)):=by
 induction k using Nat.strongRecOn with
 | _ k ih =>
 have il0:=fun k' hk'=>(ih k' hk');clear ih;intro x0 x1 x7 x8 x9 r h m hm;cases k with
 | zero=>simp only [PK.spec_ReadVar.l0] at h;cases h
 | succ k =>
  obtain ⟨m,rfl⟩ : ∃ m',m = m' + 1:=⟨m - 1,by omega⟩;rw [PK.spec_ReadVar.l0] at h;rw [spec_ReadVar.c6]
  try simp only [w64_eq,wu8_eq,gt_iff_lt,ge_iff_le,int_beq,fdiv33,fdiv45,bt_eq,tmodN,rdOfB,rdOfL] at h
  try simp only [shlR]
  try simp only [w64_eq,wu8_eq,gt_iff_lt,ge_iff_le,int_beq,fdiv33,fdiv45,bt_eq,tmodN,rdOfB,rdOfL,rdT3_eq,rdT5_eq,seq,maxI,minI,emp_eq,rdn139,rdn91,rdn104,rdn3,rdn119,rdn80,rdn128,rdn71,rdn75,rdn133,rdn5,rdn96,rdn68]
  refine (itE h (fun q h=>(by cases k with | zero=>(simp only [PK.spec_ReadVar.j1] at h;cases h) | succ k=>(rw [PK.spec_ReadVar.j1] at h;(try simp only [w64_eq,wu8_eq,gt_iff_lt,ge_iff_le,int_beq,fdiv33,fdiv45,bt_eq,tmodN,rdOfB,rdOfL] at h);refine (itE h (fun q h=>(itE h (fun q h=>(itE h (fun q h=>(itE h (fun q h=>(itE h (fun q h=>?_) (fun q h=>(bnE h (fun _ g h=>(fun g=>(itE h (fun q h=>(itE h (fun q h=>(itE h (fun q h=>(itE h (fun q h=>?_) (fun q h=>?_))) (fun q h=>(noE h)))) (fun q h=>(noE h)))) (fun q h=>(noE h)))) (spec_l01Var.rel _ _ _ g m (by omega))))))) (fun q h=>((fun h=>?_) (il0 _ (by omega) _ _ _ _ _ _ h m (by omega)))))) (fun q h=>(noE h)))) (fun q h=>(noE h)))) (fun q h=>?_)) <;> ((try cases h);(try simp only [*,if_true,if_false,↓reduceIte,Option.bind_some,List.length_cons,List.length_nil,List.length_append,Bool.not_true,Bool.not_false,Bool.true_eq_false,Bool.false_eq_true]);all_goals (repeat first | rw [if_pos (by omega)] | rw [if_neg (by omega)]);all_goals (first | exact h | apply h | rfl | (simp_all [-Bool.forall_bool];done) | (simp_all [-Bool.forall_bool];first | exact h | apply h) | (simp_all [-Bool.forall_bool,emp_eq,int_beq];done) | (simp_all [-Bool.forall_bool];(intros;simp_all;done)) | (simp_all [-Bool.forall_bool,rdset139,rdset91,rdset104,rdset3,rdset119,rdset80,rdset128,rdset71,rdset75,rdset133,rdset5,rdset96,rdset68];done) | grind))))) (fun q h=>(by cases k with | zero=>(simp only [PK.spec_ReadVar.j1] at h;cases h) | succ k=>(rw [PK.spec_ReadVar.j1] at h;(try simp only [w64_eq,wu8_eq,gt_iff_lt,ge_iff_le,int_beq,fdiv33,fdiv45,bt_eq,tmodN,rdOfB,rdOfL] at h);refine (itE h (fun q h=>(itE h (fun q h=>(itE h (fun q h=>(itE h (fun q h=>(itE h (fun q h=>?_) (fun q h=>(bnE h (fun _ g h=>(fun g=>(itE h (fun q h=>(itE h (fun q h=>(itE h (fun q h=>(itE h (fun q h=>?_) (fun q h=>?_))) (fun q h=>(noE h)))) (fun q h=>(noE h)))) (fun q h=>(noE h)))) (spec_l01Var.rel _ _ _ g m (by omega))))))) (fun q h=>((fun h=>?_) (il0 _ (by omega) _ _ _ _ _ _ h m (by omega)))))) (fun q h=>(noE h)))) (fun q h=>(noE h)))) (fun q h=>?_)) <;> ((try cases h);(try simp only [*,if_true,if_false,↓reduceIte,Option.bind_some,List.length_cons,List.length_nil,List.length_append,Bool.not_true,Bool.not_false,Bool.true_eq_false,Bool.false_eq_true]);all_goals (repeat first | rw [if_pos (by omega)] | rw [if_neg (by omega)]);all_goals (first | exact h | apply h | rfl | (simp_all [-Bool.forall_bool];done) | (simp_all [-Bool.forall_bool];first | exact h | apply h) | (simp_all [-Bool.forall_bool,emp_eq,int_beq];done) | (simp_all [-Bool.forall_bool];(intros;simp_all;done)) | (simp_all [-Bool.forall_bool,rdset139,rdset91,rdset104,rdset3,rdset119,rdset80,rdset128,rdset71,rdset75,rdset133,rdset5,rdset96,rdset68];done) | grind))))))
  all_goals clear il0
  all_goals (try cases h)
  all_goals (try simp only [*,if_true,if_false,↓reduceIte,Option.bind_some,List.length_cons,List.length_nil,List.length_append,Bool.not_true,Bool.not_false,Bool.true_eq_false,Bool.false_eq_true])
  all_goals (repeat first | rw [if_pos (by omega)] | rw [if_neg (by omega)])
  all_goals first | exact h | apply h | rfl | (simp_all [-Bool.forall_bool];done) | (simp_all [-Bool.forall_bool];first | exact h | apply h) | (simp_all [-Bool.forall_bool,emp_eq,int_beq];done) | (simp_all [-Bool.forall_bool];(intros;simp_all;done)) | (simp_all [-Bool.forall_bool,rdset139,rdset91,rdset104,rdset3,rdset119,rdset80,rdset128,rdset71,rdset75,rdset133,rdset5,rdset96,rdset68];done) | grind
theorem spec_ReadVar.rel (k : Nat) (a0 : ByteArray) (a1 : Int) (r) (h : PK.spec_ReadVar.f k a0 a1 = some r) (m : Nat) (hm : k ≤ m) : spec_ReadVar.f m a0 a1 = some (r.1,r.2.1,r.2.2):=by
 have il0:=fun k' (_ : k' < k + 1)=>(spec_ReadVar.rel_l k');rw [PK.spec_ReadVar.f] at h;rw [spec_ReadVar.f]
 try simp only [w64_eq,wu8_eq,gt_iff_lt,ge_iff_le,int_beq,fdiv33,fdiv45,bt_eq,tmodN,rdOfB,rdOfL] at h
 try simp only [shlR]
 try simp only [w64_eq,wu8_eq,gt_iff_lt,ge_iff_le,int_beq,fdiv33,fdiv45,bt_eq,tmodN,rdOfB,rdOfL,rdT3_eq,rdT5_eq,seq,maxI,minI,emp_eq,rdn139,rdn91,rdn104,rdn3,rdn119,rdn80,rdn128,rdn71,rdn75,rdn133,rdn5,rdn96,rdn68]
 refine (bnE h (fun _ g h=>(fun g=>(itE h (fun q h=>((fun h=>?_) (il0 _ (by omega) _ _ _ _ _ _ h m (by omega)))) (fun q h=>?_))) (spec_l01In.rel m _ _ _ _ g m (by omega))))
 all_goals clear il0
 all_goals (try cases h)
 all_goals (try simp only [*,if_true,if_false,↓reduceIte,Option.bind_some,List.length_cons,List.length_nil,List.length_append,Bool.not_true,Bool.not_false,Bool.true_eq_false,Bool.false_eq_true])
 all_goals (repeat first | rw [if_pos (by omega)] | rw [if_neg (by omega)])
 all_goals first | exact h | apply h | rfl | (simp_all [-Bool.forall_bool];done) | (simp_all [-Bool.forall_bool];first | exact h | apply h) | (simp_all [-Bool.forall_bool,emp_eq,int_beq];done) | (simp_all [-Bool.forall_bool];(intros;simp_all;done)) | (simp_all [-Bool.forall_bool,rdset139,rdset91,rdset104,rdset3,rdset119,rdset80,rdset128,rdset71,rdset75,rdset133,rdset5,rdset96,rdset68];done) | grind
end Go.Proofs.YtbbfkodckpfjcaaGreat.M2

namespace Go.Proofs.YtbbfkodckpfjcaaGreat.M2
open Go Go.RowKit Go.Proofs.YtbbfkodckpfjcaaGreatW.PrintWords Go.Proofs.YtbbfkodckpfjcaaGreat.PK
set_option linter.unusedVariables false
set_option linter.unusedSimpArgs false
set_option maxHeartbeats 1600000
theorem impl_ReadVar.rel_l (k : Nat) : (∀ x0 x1 x7 x8 r,PK.impl_ReadVar.l0 k x0 x1 x7 x8 = some r → ∀ m,k ≤ m → impl_ReadVar.c3 m x0 x1 x7 x8 = some (r.1,r.2.1,r.2.2)):=by
 induction k using Nat.strongRecOn with
 | _ k ih =>
 have il0:=fun k' hk'=>(ih k' hk');clear ih;intro x0 x1 x7 x8 r h m hm;cases k with
 | zero=>simp only [PK.impl_ReadVar.l0] at h;cases h
 | succ k =>
  obtain ⟨m,rfl⟩ : ∃ m',m = m' + 1:=⟨m - 1,by omega⟩;rw [PK.impl_ReadVar.l0] at h;rw [impl_ReadVar.c3]
  try simp only [w64_eq,wu8_eq,gt_iff_lt,ge_iff_le,int_beq,fdiv33,fdiv45,bt_eq,tmodN,rdOfB,rdOfL] at h
  try simp only [shlR]
  try simp only [w64_eq,wu8_eq,gt_iff_lt,ge_iff_le,int_beq,fdiv33,fdiv45,bt_eq,tmodN,rdOfB,rdOfL,rdT3_eq,rdT5_eq,seq,maxI,minI,emp_eq,rdn139,rdn91,rdn104,rdn3,rdn119,rdn80,rdn128,rdn71,rdn75,rdn133,rdn5,rdn96,rdn68]
  refine (itE h (fun q h=>(itE h (fun q h=>(by cases k with | zero=>(simp only [PK.impl_ReadVar.j1] at h;cases h) | succ k=>(rw [PK.impl_ReadVar.j1] at h;(try simp only [w64_eq,wu8_eq,gt_iff_lt,ge_iff_le,int_beq,fdiv33,fdiv45,bt_eq,tmodN,rdOfB,rdOfL] at h);refine (itE h (fun q h=>(itE h (fun q h=>(itE h (fun q h=>(itE h (fun q h=>(itE h (fun q h=>((fun h=>?_) (il0 _ (by omega) _ _ _ _ _ h m (by omega)))) (fun q h=>(itE h (fun q h=>(itE h (fun q h=>?_) (fun q h=>(itE h (fun q h=>?_) (fun q h=>?_))))) (fun q h=>(itE h (fun q h=>?_) (fun q h=>?_))))))) (fun q h=>(noE h)))) (fun q h=>(noE h)))) (fun q h=>(noE h)))) (fun q h=>?_)) <;> ((try cases h);(try simp only [*,if_true,if_false,↓reduceIte,Option.bind_some,List.length_cons,List.length_nil,List.length_append,Bool.not_true,Bool.not_false,Bool.true_eq_false,Bool.false_eq_true]);all_goals (repeat first | rw [if_pos (by omega)] | rw [if_neg (by omega)]);all_goals (first | exact h | apply h | rfl | (simp_all [-Bool.forall_bool];done) | (simp_all [-Bool.forall_bool];first | exact h | apply h) | (simp_all [-Bool.forall_bool,emp_eq,int_beq];done) | (simp_all [-Bool.forall_bool];(intros;simp_all;done)) | (simp_all [-Bool.forall_bool,rdset139,rdset91,rdset104,rdset3,rdset119,rdset80,rdset128,rdset71,rdset75,rdset133,rdset5,rdset96,rdset68];done) | grind))))) (fun q h=>(by cases k with | zero=>(simp only [PK.impl_ReadVar.j1] at h;cases h) | succ k=>(rw [PK.impl_ReadVar.j1] at h;(try simp only [w64_eq,wu8_eq,gt_iff_lt,ge_iff_le,int_beq,fdiv33,fdiv45,bt_eq,tmodN,rdOfB,rdOfL] at h);refine (itE h (fun q h=>(itE h (fun q h=>(itE h (fun q h=>(itE h (fun q h=>(itE h (fun q h=>((fun h=>?_) (il0 _ (by omega) _ _ _ _ _ h m (by omega)))) (fun q h=>(itE h (fun q h=>(itE h (fun q h=>?_) (fun q h=>(itE h (fun q h=>?_) (fun q h=>?_))))) (fun q h=>(itE h (fun q h=>?_) (fun q h=>?_))))))) (fun q h=>(noE h)))) (fun q h=>(noE h)))) (fun q h=>(noE h)))) (fun q h=>?_)) <;> ((try cases h);(try simp only [*,if_true,if_false,↓reduceIte,Option.bind_some,List.length_cons,List.length_nil,List.length_append,Bool.not_true,Bool.not_false,Bool.true_eq_false,Bool.false_eq_true]);all_goals (repeat first | rw [if_pos (by omega)] | rw [if_neg (by omega)]);all_goals (first | exact h | apply h | rfl | (simp_all [-Bool.forall_bool];done) | (simp_all [-Bool.forall_bool];first | exact h | apply h) | (simp_all [-Bool.forall_bool,emp_eq,int_beq];done) | (simp_all [-Bool.forall_bool];(intros;simp_all;done)) | (simp_all [-Bool.forall_bool,rdset139,rdset91,rdset104,rdset3,rdset119,rdset80,rdset128,rdset71,rdset75,rdset133,rdset5,rdset96,rdset68];done) | grind))))))) (fun q h=>(by cases k with | zero=>(simp only [PK.impl_ReadVar.j1] at h;cases h) | succ k=>(rw [PK.impl_ReadVar.j1] at h;(try simp only [w64_eq,wu8_eq,gt_iff_lt,ge_iff_le,int_beq,fdiv33,fdiv45,bt_eq,tmodN,rdOfB,rdOfL] at h);refine (itE h (fun q h=>(itE h (fun q h=>(itE h (fun q h=>(itE h (fun q h=>(itE h (fun q h=>((fun h=>?_) (il0 _ (by omega) _ _ _ _ _ h m (by omega)))) (fun q h=>(itE h (fun q h=>(itE h (fun q h=>?_) (fun q h=>(itE h (fun q h=>?_) (fun q h=>?_))))) (fun q h=>(itE h (fun q h=>?_) (fun q h=>?_))))))) (fun q h=>(noE h)))) (fun q h=>(noE h)))) (fun q h=>(noE h)))) (fun q h=>?_)) <;> ((try cases h);(try simp only [*,if_true,if_false,↓reduceIte,Option.bind_some,List.length_cons,List.length_nil,List.length_append,Bool.not_true,Bool.not_false,Bool.true_eq_false,Bool.false_eq_true]);all_goals (repeat first | rw [if_pos (by omega)] | rw [if_neg (by omega)]);all_goals (first | exact h | apply h | rfl | (simp_all [-Bool.forall_bool];done) | (simp_all [-Bool.forall_bool];first | exact h | apply h) | (simp_all [-Bool.forall_bool,emp_eq,int_beq];done) | (simp_all [-Bool.forall_bool];(intros;simp_all;done)) | (simp_all [-Bool.forall_bool,rdset139,rdset91,rdset104,rdset3,rdset119,rdset80,rdset128,rdset71,rdset75,rdset133,rdset5,rdset96,rdset68];done) | grind))))))
  all_goals clear il0
  all_goals (try cases h)
  all_goals (try simp only [*,if_true,if_false,↓reduceIte,Option.bind_some,List.length_cons,List.length_nil,List.length_append,Bool.not_true,Bool.not_false,Bool.true_eq_false,Bool.false_eq_true])
  all_goals (repeat first | rw [if_pos (by omega)] | rw [if_neg (by omega)])
  all_goals first | exact h | apply h | rfl | (simp_all [-Bool.forall_bool];done) | (simp_all [-Bool.forall_bool];first | exact h | apply h) | (simp_all [-Bool.forall_bool,emp_eq,int_beq];done) | (simp_all [-Bool.forall_bool];(intros;simp_all;done)) | (simp_all [-Bool.forall_bool,rdset139,rdset91,rdset104,rdset3,rdset119,rdset80,rdset128,rdset71,rdset75,rdset133,rdset5,rdset96,rdset68];done) | grind
theorem impl_ReadVar.rel (k : Nat) (a0 : ByteArray) (a1 : Int) (r) (h : PK.impl_ReadVar.f k a0 a1 = some r) (m : Nat) (hm : k ≤ m) : impl_ReadVar.f m a0 a1 = some (r.1,r.2.1,r.2.2):=by
 have il0:=fun k' (_ : k' < k + 1)=>(impl_ReadVar.rel_l k');rw [PK.impl_ReadVar.f] at h;rw [impl_ReadVar.f]
 try simp only [w64_eq,wu8_eq,gt_iff_lt,ge_iff_le,int_beq,fdiv33,fdiv45,bt_eq,tmodN,rdOfB,rdOfL] at h
 try simp only [shlR]
 try simp only [w64_eq,wu8_eq,gt_iff_lt,ge_iff_le,int_beq,fdiv33,fdiv45,bt_eq,tmodN,rdOfB,rdOfL,rdT3_eq,rdT5_eq,seq,maxI,minI,emp_eq,rdn139,rdn91,rdn104,rdn3,rdn119,rdn80,rdn128,rdn71,rdn75,rdn133,rdn5,rdn96,rdn68]
 refine ((fun h=>?_) (il0 _ (by omega) _ _ _ _ _ h m (by omega)))
 all_goals clear il0
 all_goals (try cases h)
 all_goals (try simp only [*,if_true,if_false,↓reduceIte,Option.bind_some,List.length_cons,List.length_nil,List.length_append,Bool.not_true,Bool.not_false,Bool.true_eq_false,Bool.false_eq_true])
 all_goals (repeat first | rw [if_pos (by omega)] | rw [if_neg (by omega)])
 all_goals first | exact h | apply h | rfl | (simp_all [-Bool.forall_bool];done) | (simp_all [-Bool.forall_bool];first | exact h | apply h) | (simp_all [-Bool.forall_bool,emp_eq,int_beq];done) | (simp_all [-Bool.forall_bool];(intros;simp_all;done)) | (simp_all [-Bool.forall_bool,rdset139,rdset91,rdset104,rdset3,rdset119,rdset80,rdset128,rdset71,rdset75,rdset133,rdset5,rdset96,rdset68];done) | grind
end Go.Proofs.YtbbfkodckpfjcaaGreat.M2

namespace Go.Proofs.YtbbfkodckpfjcaaGreat.M2
open Go Go.RowKit Go.Proofs.YtbbfkodckpfjcaaGreatW.PrintWords Go.Proofs.YtbbfkodckpfjcaaGreat.PK
set_option linter.unusedVariables false
set_option linter.unusedSimpArgs false
set_option maxHeartbeats 1600000
theorem impl_volAt.rel_l (k : Nat) : (∀ x1 x8 x9 x10 r,PK.impl_volAt.l0 k x1 x8 x9 x10 = some r → ∀ m,k ≤ m → impl_volAt.c2 m x1 x8 x9 x10 = some r):=by
 induction k using Nat.strongRecOn with
 | _ k ih =>
 have il0:=fun k' hk'=>(ih k' hk');clear ih;intro x1 x8 x9 x10 r h m hm;cases k with
 | zero=>simp only [PK.impl_volAt.l0] at h;cases h
 | succ k =>
  obtain ⟨m,rfl⟩ : ∃ m',m = m' + 1:=⟨m - 1,by omega⟩;rw [PK.impl_volAt.l0] at h;rw [impl_volAt.c2]
  try simp only [w64_eq,wu8_eq,gt_iff_lt,ge_iff_le,int_beq,fdiv33,fdiv45,bt_eq,tmodN,rdOfB,rdOfL] at h
  try simp only [shlR]
  try simp only [w64_eq,wu8_eq,gt_iff_lt,ge_iff_le,int_beq,fdiv33,fdiv45,bt_eq,tmodN,rdOfB,rdOfL,rdT3_eq,rdT5_eq,seq,maxI,minI,emp_eq,rdn139,rdn91,rdn104,rdn3,rdn119,rdn80,rdn128,rdn71,rdn75,rdn133,rdn5,rdn96,rdn68]
  refine (itE h (fun q h=>(itE h (fun q h=>(itE h (fun q h=>(itE h (fun q h=>?_) (fun q h=>((fun h=>?_) (il0 _ (by omega) _ _ _ _ _ h m (by omega)))))) (fun q h=>(noE h)))) (fun q h=>(noE h)))) (fun q h=>?_))
  all_goals clear il0
  all_goals (try cases h)
  all_goals (try simp only [*,if_true,if_false,↓reduceIte,Option.bind_some,List.length_cons,List.length_nil,List.length_append,Bool.not_true,Bool.not_false,Bool.true_eq_false,Bool.false_eq_true])
  all_goals (repeat first | rw [if_pos (by omega)] | rw [if_neg (by omega)])
  all_goals first | exact h | apply h | rfl | (simp_all [-Bool.forall_bool];done) | (simp_all [-Bool.forall_bool];first | exact h | apply h) | (simp_all [-Bool.forall_bool,emp_eq,int_beq];done) | (simp_all [-Bool.forall_bool];(intros;simp_all;done)) | (simp_all [-Bool.forall_bool,rdset139,rdset91,rdset104,rdset3,rdset119,rdset80,rdset128,rdset71,rdset75,rdset133,rdset5,rdset96,rdset68];done) | grind
theorem impl_volAt.rel (k : Nat) (l0_0 : List (S80)) (l0_1 : List (S128)) (a0_2 : Int) (a1 : Int) (r) (h : PK.impl_volAt.f k l0_0 l0_1 a0_2 a1 = some r) (m : Nat) (hm : k ≤ m) : impl_volAt.f m l0_0 l0_1 a0_2 a1 = some r:=by
 have il0:=fun k' (_ : k' < k + 1)=>(impl_volAt.rel_l k');rw [PK.impl_volAt.f] at h;rw [impl_volAt.f]
 try simp only [w64_eq,wu8_eq,gt_iff_lt,ge_iff_le,int_beq,fdiv33,fdiv45,bt_eq,tmodN,rdOfB,rdOfL] at h
 try simp only [shlR]
 try simp only [w64_eq,wu8_eq,gt_iff_lt,ge_iff_le,int_beq,fdiv33,fdiv45,bt_eq,tmodN,rdOfB,rdOfL,rdT3_eq,rdT5_eq,seq,maxI,minI,emp_eq,rdn139,rdn91,rdn104,rdn3,rdn119,rdn80,rdn128,rdn71,rdn75,rdn133,rdn5,rdn96,rdn68]
 refine ((fun h=>?_) (il0 _ (by omega) _ _ _ _ _ h m (by omega)))
 all_goals clear il0
 all_goals (try cases h)
 all_goals (try simp only [*,if_true,if_false,↓reduceIte,Option.bind_some,List.length_cons,List.length_nil,List.length_append,Bool.not_true,Bool.not_false,Bool.true_eq_false,Bool.false_eq_true])
 all_goals (repeat first | rw [if_pos (by omega)] | rw [if_neg (by omega)])
 all_goals first | exact h | apply h | rfl | (simp_all [-Bool.forall_bool];done) | (simp_all [-Bool.forall_bool];first | exact h | apply h) | (simp_all [-Bool.forall_bool,emp_eq,int_beq];done) | (simp_all [-Bool.forall_bool];(intros;simp_all;done)) | (simp_all [-Bool.forall_bool,rdset139,rdset91,rdset104,rdset3,rdset119,rdset80,rdset128,rdset71,rdset75,rdset133,rdset5,rdset96,rdset68];done) | grind
theorem impl_in.rel (k : Nat) (a0 : Int) (a1 : Int) (a2 : Int) (r) (h : PK.impl_in.f a0 a1 a2 = some r) (m : Nat) (hm : k ≤ m) : impl_in.f m a0 a1 a2 = some r:=by
 rw [PK.impl_in.f] at h;rw [impl_in.f]
 try simp only [w64_eq,wu8_eq,gt_iff_lt,ge_iff_le,int_beq,fdiv33,fdiv45,bt_eq,tmodN,rdOfB,rdOfL] at h
 try simp only [shlR]
 try simp only [w64_eq,wu8_eq,gt_iff_lt,ge_iff_le,int_beq,fdiv33,fdiv45,bt_eq,tmodN,rdOfB,rdOfL,rdT3_eq,rdT5_eq,seq,maxI,minI,emp_eq,rdn139,rdn91,rdn104,rdn3,rdn119,rdn80,rdn128,rdn71,rdn75,rdn133,rdn5,rdn96,rdn68]
 refine (itE h (fun q h=>?_) (fun q h=>?_))
 all_goals (try cases h)
 all_goals (try simp only [*,if_true,if_false,↓reduceIte,Option.bind_some,List.length_cons,List.length_nil,List.length_append,Bool.not_true,Bool.not_false,Bool.true_eq_false,Bool.false_eq_true])
 all_goals (repeat first | rw [if_pos (by omega)] | rw [if_neg (by omega)])
 all_goals first | exact h | apply h | rfl | (simp_all [-Bool.forall_bool];done) | (simp_all [-Bool.forall_bool];first | exact h | apply h) | (simp_all [-Bool.forall_bool,emp_eq,int_beq];done) | (simp_all [-Bool.forall_bool];(intros;simp_all;done)) | (simp_all [-Bool.forall_bool,rdset139,rdset91,rdset104,rdset3,rdset119,rdset80,rdset128,rdset71,rdset75,rdset133,rdset5,rdset96,rdset68];done) | grind
theorem impl_isRoot.rel (k : Nat) (l0_0 : List (S128)) (a1 : Int) (r) (h : PK.impl_isRoot.f l0_0 a1 = some r) (m : Nat) (hm : k ≤ m) : impl_isRoot.f m l0_0 a1 = some r:=by
 rw [PK.impl_isRoot.f] at h;rw [impl_isRoot.f]
 try simp only [w64_eq,wu8_eq,gt_iff_lt,ge_iff_le,int_beq,fdiv33,fdiv45,bt_eq,tmodN,rdOfB,rdOfL] at h
 try simp only [shlR]
 try simp only [w64_eq,wu8_eq,gt_iff_lt,ge_iff_le,int_beq,fdiv33,fdiv45,bt_eq,tmodN,rdOfB,rdOfL,rdT3_eq,rdT5_eq,seq,maxI,minI,emp_eq,rdn139,rdn91,rdn104,rdn3,rdn119,rdn80,rdn128,rdn71,rdn75,rdn133,rdn5,rdn96,rdn68]
 refine (bnE h (fun _ g h=>(fun g=>(itE h (fun q h=>(itE h (fun q h=>(itE h (fun q h=>?_) (fun q h=>(noE h)))) (fun q h=>(noE h)))) (fun q h=>?_))) (impl_in.rel m _ _ _ _ g m (by omega))))
 all_goals (try cases h)
 all_goals (try simp only [*,if_true,if_false,↓reduceIte,Option.bind_some,List.length_cons,List.length_nil,List.length_append,Bool.not_true,Bool.not_false,Bool.true_eq_false,Bool.false_eq_true])
 all_goals (repeat first | rw [if_pos (by omega)] | rw [if_neg (by omega)])
 all_goals first | exact h | apply h | rfl | (simp_all [-Bool.forall_bool];done) | (simp_all [-Bool.forall_bool];first | exact h | apply h) | (simp_all [-Bool.forall_bool,emp_eq,int_beq];done) | (simp_all [-Bool.forall_bool];(intros;simp_all;done)) | (simp_all [-Bool.forall_bool,rdset139,rdset91,rdset104,rdset3,rdset119,rdset80,rdset128,rdset71,rdset75,rdset133,rdset5,rdset96,rdset68];done) | grind
end Go.Proofs.YtbbfkodckpfjcaaGreat.M2

namespace Go.Proofs.YtbbfkodckpfjcaaGreat.M2
open Go Go.RowKit Go.Proofs.YtbbfkodckpfjcaaGreatW.PrintWords Go.Proofs.YtbbfkodckpfjcaaGreat.PK
set_option linter.unusedVariables false
set_option linter.unusedSimpArgs false
set_option maxHeartbeats 1600000
theorem impl_ArenaOk.rel_l (k : Nat) : (∀ x8 x9 x10 x372000 r,PK.impl_ArenaOk.l0 k x8 x9 x10 x372000 = some r → ∀ m,k ≤ m → impl_ArenaOk.c2 m x8 x9 x10 x372000 = some r) ∧ (∀ x3 x8 x9 x10 x20 x21 x22 x372000 x374000 x374001 r,PK.impl_ArenaOk.l1 k x3 x8 x9 x10 x20 x21 x22 x372000 x374000 x374001 = some r → ∀ m,k ≤ m → impl_ArenaOk.c7 m x3 x8 x9 x10 x20 x21 x22 x372000 x374000 x374001 = some r):=by
 induction k using Nat.strongRecOn with
 | _ k ih =>
 have il0:=fun k' hk'=>(ih k' hk').1;have il1:=fun k' hk'=>(ih k' hk').2;clear ih;refine ⟨?_,?_⟩
 ·intro x8 x9 x10 x372000 r h m hm;cases k with
  | zero=>simp only [PK.impl_ArenaOk.l0] at h;cases h
  | succ k =>
   obtain ⟨m,rfl⟩ : ∃ m',m = m' + 1:=⟨m - 1,by omega⟩;rw [PK.impl_ArenaOk.l0] at h;rw [impl_ArenaOk.c2]
   try simp only [w64_eq,wu8_eq,gt_iff_lt,ge_iff_le,int_beq,fdiv33,fdiv45,bt_eq,tmodN,rdOfB,rdOfL] at h
   try simp only [shlR]
   try simp only [w64_eq,wu8_eq,gt_iff_lt,ge_iff_le,int_beq,fdiv33,fdiv45,bt_eq,tmodN,rdOfB,rdOfL,rdT3_eq,rdT5_eq,seq,maxI,minI,emp_eq,rdn139,rdn91,rdn104,rdn3,rdn119,rdn80,rdn128,rdn71,rdn75,rdn133,rdn5,rdn96,rdn68]
   refine (itE h (fun q h=>(itE h (fun q h=>(itE h (fun q h=>(itE h (fun q h=>((fun h=>?_) (il1 _ (by omega) _ _ _ _ _ _ _ _ _ _ _ h m (by omega)))) (fun q h=>?_))) (fun q h=>(noE h)))) (fun q h=>(noE h)))) (fun q h=>?_))
   all_goals clear il0 il1
   all_goals (try cases h)
   all_goals (try simp only [*,if_true,if_false,↓reduceIte,Option.bind_some,List.length_cons,List.length_nil,List.length_append,Bool.not_true,Bool.not_false,Bool.true_eq_false,Bool.false_eq_true])
   all_goals (repeat first | rw [if_pos (by omega)] | rw [if_neg (by omega)])
   all_goals first | exact h | apply h | rfl | (simp_all [-Bool.forall_bool];done) | (simp_all [-Bool.forall_bool];first | exact h | apply h) | (simp_all [-Bool.forall_bool,emp_eq,int_beq];done) | (simp_all [-Bool.forall_bool];(intros;simp_all;done)) | (simp_all [-Bool.forall_bool,rdset139,rdset91,rdset104,rdset3,rdset119,rdset80,rdset128,rdset71,rdset75,rdset133,rdset5,rdset96,rdset68];done) | grind
 intro x3 x8 x9 x10 x20 x21 x22 x372000 x374000 x374001 r h m hm;cases k with
 | zero=>simp only [PK.impl_ArenaOk.l1] at h;cases h
 | succ k =>
  obtain ⟨m,rfl⟩ : ∃ m',m = m' + 1:=⟨m - 1,by omega⟩;rw [PK.impl_ArenaOk.l1] at h;rw [impl_ArenaOk.c7]
  try simp only [w64_eq,wu8_eq,gt_iff_lt,ge_iff_le,int_beq,fdiv33,fdiv45,bt_eq,tmodN,rdOfB,rdOfL] at h
  try simp only [shlR]
  try simp only [w64_eq,wu8_eq,gt_iff_lt,ge_iff_le,int_beq,fdiv33,fdiv45,bt_eq,tmodN,rdOfB,rdOfL,rdT3_eq,rdT5_eq,seq,maxI,minI,emp_eq,rdn139,rdn91,rdn104,rdn3,rdn119,rdn80,rdn128,rdn71,rdn75,rdn133,rdn5,rdn96,rdn68]
  refine (itE h (fun q h=>(itE h (fun q h=>(itE h (fun q h=>(itE h (fun q h=>(itE h (fun q h=>?_) (fun q h=>((fun h=>?_) (il1 _ (by omega) _ _ _ _ _ _ _ _ _ _ _ h m (by omega)))))) (fun q h=>(itE h (fun q h=>((fun h=>?_) (il1 _ (by omega) _ _ _ _ _ _ _ _ _ _ _ h m (by omega)))) (fun q h=>(bnE h (fun _ g h=>(fun g=>(itE h (fun q h=>(itE h (fun q h=>(itE h (fun q h=>(itE h (fun q h=>((fun h=>?_) (il1 _ (by omega) _ _ _ _ _ _ _ _ _ _ _ h m (by omega)))) (fun q h=>?_))) (fun q h=>(noE h)))) (fun q h=>(noE h)))) (fun q h=>?_))) (impl_in.rel m _ _ _ _ g m (by omega))))))))) (fun q h=>(noE h)))) (fun q h=>(noE h)))) (fun q h=>((fun h=>?_) (il0 _ (by omega) _ _ _ _ _ h m (by omega)))))
  all_goals clear il0 il1
  all_goals (try cases h)
  all_goals (try simp only [*,if_true,if_false,↓reduceIte,Option.bind_some,List.length_cons,List.length_nil,List.length_append,Bool.not_true,Bool.not_false,Bool.true_eq_false,Bool.false_eq_true])
  all_goals (repeat first | rw [if_pos (by omega)] | rw [if_neg (by omega)])
  all_goals first | exact h | apply h | rfl | (simp_all [-Bool.forall_bool];done) | (simp_all [-Bool.forall_bool];first | exact h | apply h) | (simp_all [-Bool.forall_bool,emp_eq,int_beq];done) | (simp_all [-Bool.forall_bool];(intros;simp_all;done)) | (simp_all [-Bool.forall_bool,rdset139,rdset91,rdset104,rdset3,rdset119,rdset80,rdset128,rdset71,rdset75,rdset133,rdset5,rdset96,rdset68];done) | grind
theorem impl_ArenaOk.rel (k : Nat) (l0_0 : List (S128)) (r) (h : PK.impl_ArenaOk.f k l0_0 = some r) (m : Nat) (hm : k ≤ m) : impl_ArenaOk.f m l0_0 = some r:=by
 have il0:=fun k' (_ : k' < k + 1)=>(impl_ArenaOk.rel_l k').1;have il1:=fun k' (_ : k' < k + 1)=>(impl_ArenaOk.rel_l k').2;rw [PK.impl_ArenaOk.f] at h;rw [impl_ArenaOk.f]
 try simp only [w64_eq,wu8_eq,gt_iff_lt,ge_iff_le,int_beq,fdiv33,fdiv45,bt_eq,tmodN,rdOfB,rdOfL] at h
 try simp only [shlR]
 try simp only [w64_eq,wu8_eq,gt_iff_lt,ge_iff_le,int_beq,fdiv33,fdiv45,bt_eq,tmodN,rdOfB,rdOfL,rdT3_eq,rdT5_eq,seq,maxI,minI,emp_eq,rdn139,rdn91,rdn104,rdn3,rdn119,rdn80,rdn128,rdn71,rdn75,rdn133,rdn5,rdn96,rdn68]
 refine ((fun h=>?_) (il0 _ (by omega) _ _ _ _ _ h m (by omega)))
 all_goals clear il0 il1
 all_goals (try cases h)
 all_goals (try simp only [*,if_true,if_false,↓reduceIte,Option.bind_some,List.length_cons,List.length_nil,List.length_append,Bool.not_true,Bool.not_false,Bool.true_eq_false,Bool.false_eq_true])
 all_goals (repeat first | rw [if_pos (by omega)] | rw [if_neg (by omega)])
 all_goals first | exact h | apply h | rfl | (simp_all [-Bool.forall_bool];done) | (simp_all [-Bool.forall_bool];first | exact h | apply h) | (simp_all [-Bool.forall_bool,emp_eq,int_beq];done) | (simp_all [-Bool.forall_bool];(intros;simp_all;done)) | (simp_all [-Bool.forall_bool,rdset139,rdset91,rdset104,rdset3,rdset119,rdset80,rdset128,rdset71,rdset75,rdset133,rdset5,rdset96,rdset68];done) | grind
end Go.Proofs.YtbbfkodckpfjcaaGreat.M2

namespace Go.Proofs.YtbbfkodckpfjcaaGreat.M2
open Go Go.RowKit Go.Proofs.YtbbfkodckpfjcaaGreatW.PrintWords Go.Proofs.YtbbfkodckpfjcaaGreat.PK
set_option linter.unusedVariables false
set_option linter.unusedSimpArgs false
set_option maxHeartbeats 1600000
theorem impl_numberAt.rel (k : Nat) (l0_0 : List (S128)) (a1 : Int) (a2 : Int) (r) (h : PK.impl_numberAt.f l0_0 a1 a2 = some r) (m : Nat) (hm : k ≤ m) : impl_numberAt.f m l0_0 a1 a2 = some r:=by
 rw [PK.impl_numberAt.f] at h;rw [impl_numberAt.f]
 try simp only [w64_eq,wu8_eq,gt_iff_lt,ge_iff_le,int_beq,fdiv33,fdiv45,bt_eq,tmodN,rdOfB,rdOfL] at h
 try simp only [shlR]
 try simp only [w64_eq,wu8_eq,gt_iff_lt,ge_iff_le,int_beq,fdiv33,fdiv45,bt_eq,tmodN,rdOfB,rdOfL,rdT3_eq,rdT5_eq,seq,maxI,minI,emp_eq,rdn139,rdn91,rdn104,rdn3,rdn119,rdn80,rdn128,rdn71,rdn75,rdn133,rdn5,rdn96,rdn68]
 refine (itE h (fun q h=>(itE h (fun q h=>(itE h (fun q h=>(itE h (fun q h=>(itE h (fun q h=>?_) (fun q h=>(itE h (fun q h=>(itE h (fun q h=>(itE h (fun q h=>(itE h (fun q h=>?_) (fun q h=>(noE h)))) (fun q h=>(noE h)))) (fun q h=>(noE h)))) (fun q h=>(noE h)))))) (fun q h=>(noE h)))) (fun q h=>(noE h)))) (fun q h=>(noE h)))) (fun q h=>(noE h)))
 all_goals (try cases h)
 all_goals (try simp only [*,if_true,if_false,↓reduceIte,Option.bind_some,List.length_cons,List.length_nil,List.length_append,Bool.not_true,Bool.not_false,Bool.true_eq_false,Bool.false_eq_true])
 all_goals (repeat first | rw [if_pos (by omega)] | rw [if_neg (by omega)])
 all_goals first | exact h | apply h | rfl | (simp_all [-Bool.forall_bool];done) | (simp_all [-Bool.forall_bool];first | exact h | apply h) | (simp_all [-Bool.forall_bool,emp_eq,int_beq];done) | (simp_all [-Bool.forall_bool];(intros;simp_all;done)) | (simp_all [-Bool.forall_bool,rdset139,rdset91,rdset104,rdset3,rdset119,rdset80,rdset128,rdset71,rdset75,rdset133,rdset5,rdset96,rdset68];done) | grind
theorem impl_GetAt.rel (k : Nat) (l0_0 : List (S128)) (a1 : Int) (a2 : Int) (r) (h : PK.impl_GetAt.f k l0_0 a1 a2 = some r) (m : Nat) (hm : k ≤ m) : impl_GetAt.f m l0_0 a1 a2 = some r:=by
 rw [PK.impl_GetAt.f] at h;rw [impl_GetAt.f]
 try simp only [w64_eq,wu8_eq,gt_iff_lt,ge_iff_le,int_beq,fdiv33,fdiv45,bt_eq,tmodN,rdOfB,rdOfL] at h
 try simp only [shlR]
 try simp only [w64_eq,wu8_eq,gt_iff_lt,ge_iff_le,int_beq,fdiv33,fdiv45,bt_eq,tmodN,rdOfB,rdOfL,rdT3_eq,rdT5_eq,seq,maxI,minI,emp_eq,rdn139,rdn91,rdn104,rdn3,rdn119,rdn80,rdn128,rdn71,rdn75,rdn133,rdn5,rdn96,rdn68]
 refine (bnE h (fun _ g h=>(fun g=>(itE h (fun q h=>(bnE h (fun _ g h=>(fun g=>(itE h (fun q h=>(bnE h (fun _ g h=>(fun g=>(itE h (fun q h=>(bnE h (fun _ g h=>(fun g=>?_) (impl_numberAt.rel m _ _ _ _ g m (by omega))))) (fun q h=>?_))) (impl_ArenaOk.rel _ _ _ g m (by omega))))) (fun q h=>?_))) (impl_isRoot.rel m _ _ _ g m (by omega))))) (fun q h=>?_))) (impl_in.rel m _ _ _ _ g m (by omega))))
 all_goals (try cases h)
 all_goals (try simp only [*,if_true,if_false,↓reduceIte,Option.bind_some,List.length_cons,List.length_nil,List.length_append,Bool.not_true,Bool.not_false,Bool.true_eq_false,Bool.false_eq_true])
 all_goals (repeat first | rw [if_pos (by omega)] | rw [if_neg (by omega)])
 all_goals first | exact h | apply h | rfl | (simp_all [-Bool.forall_bool];done) | (simp_all [-Bool.forall_bool];first | exact h | apply h) | (simp_all [-Bool.forall_bool,emp_eq,int_beq];done) | (simp_all [-Bool.forall_bool];(intros;simp_all;done)) | (simp_all [-Bool.forall_bool,rdset139,rdset91,rdset104,rdset3,rdset119,rdset80,rdset128,rdset71,rdset75,rdset133,rdset5,rdset96,rdset68];done) | grind
theorem impl_ChunkOf.rel (k : Nat) (l0_0 : List (S80)) (l0_1 : List (S128)) (a0_2 : Int) (a1 : Int) (a2 : Int) (r) (h : PK.impl_ChunkOf.f k l0_0 l0_1 a0_2 a1 a2 = some r) (m : Nat) (hm : k ≤ m) : impl_ChunkOf.f m l0_0 l0_1 a0_2 a1 a2 = some r:=by
 rw [PK.impl_ChunkOf.f] at h;rw [impl_ChunkOf.f]
 try simp only [w64_eq,wu8_eq,gt_iff_lt,ge_iff_le,int_beq,fdiv33,fdiv45,bt_eq,tmodN,rdOfB,rdOfL] at h
 try simp only [shlR]
 try simp only [w64_eq,wu8_eq,gt_iff_lt,ge_iff_le,int_beq,fdiv33,fdiv45,bt_eq,tmodN,rdOfB,rdOfL,rdT3_eq,rdT5_eq,seq,maxI,minI,emp_eq,rdn139,rdn91,rdn104,rdn3,rdn119,rdn80,rdn128,rdn71,rdn75,rdn133,rdn5,rdn96,rdn68]
 refine (bnE h (fun _ g h=>(fun g=>(itE h (fun q h=>?_) (fun q h=>(itE h (fun q h=>(itE h (fun q h=>(bnE h (fun _ g h=>(fun g=>?_) (impl_GetAt.rel _ _ _ _ _ g m (by omega))))) (fun q h=>(noE h)))) (fun q h=>(noE h)))))) (impl_volAt.rel _ _ _ _ _ _ g m (by omega))))
 all_goals (try cases h)
 all_goals (try simp only [*,if_true,if_false,↓reduceIte,Option.bind_some,List.length_cons,List.length_nil,List.length_append,Bool.not_true,Bool.not_false,Bool.true_eq_false,Bool.false_eq_true])
 all_goals (repeat first | rw [if_pos (by omega)] | rw [if_neg (by omega)])
 all_goals first | exact h | apply h | rfl | (simp_all [-Bool.forall_bool];done) | (simp_all [-Bool.forall_bool];first | exact h | apply h) | (simp_all [-Bool.forall_bool,emp_eq,int_beq];done) | (simp_all [-Bool.forall_bool];(intros;simp_all;done)) | (simp_all [-Bool.forall_bool,rdset139,rdset91,rdset104,rdset3,rdset119,rdset80,rdset128,rdset71,rdset75,rdset133,rdset5,rdset96,rdset68];done) | grind
theorem laws_szVolS.rel (k : Nat) (l0 : List (S104)) (a1 : Int) (r) (h : PK.laws_szVolS.f l0 a1 = some r) (m : Nat) (hm : k ≤ m) : laws_szVolS.f m l0 a1 = some r:=by
 rw [PK.laws_szVolS.f] at h;rw [laws_szVolS.f]
 try simp only [w64_eq,wu8_eq,gt_iff_lt,ge_iff_le,int_beq,fdiv33,fdiv45,bt_eq,tmodN,rdOfB,rdOfL] at h
 try simp only [shlR]
 try simp only [w64_eq,wu8_eq,gt_iff_lt,ge_iff_le,int_beq,fdiv33,fdiv45,bt_eq,tmodN,rdOfB,rdOfL,rdT3_eq,rdT5_eq,seq,maxI,minI,emp_eq,rdn139,rdn91,rdn104,rdn3,rdn119,rdn80,rdn128,rdn71,rdn75,rdn133,rdn5,rdn96,rdn68]
 refine (itE h (fun q h=>?_) (fun q h=>?_))
 all_goals (try cases h)
 all_goals (try simp only [*,if_true,if_false,↓reduceIte,Option.bind_some,List.length_cons,List.length_nil,List.length_append,Bool.not_true,Bool.not_false,Bool.true_eq_false,Bool.false_eq_true])
 all_goals (repeat first | rw [if_pos (by omega)] | rw [if_neg (by omega)])
 all_goals first | exact h | apply h | rfl | (simp_all [-Bool.forall_bool];done) | (simp_all [-Bool.forall_bool];first | exact h | apply h) | (simp_all [-Bool.forall_bool,emp_eq,int_beq];done) | (simp_all [-Bool.forall_bool];(intros;simp_all;done)) | (simp_all [-Bool.forall_bool,rdset139,rdset91,rdset104,rdset3,rdset119,rdset80,rdset128,rdset71,rdset75,rdset133,rdset5,rdset96,rdset68];done) | grind
end Go.Proofs.YtbbfkodckpfjcaaGreat.M2

namespace Go.Proofs.YtbbfkodckpfjcaaGreat.M2
open Go Go.RowKit Go.Proofs.YtbbfkodckpfjcaaGreatW.PrintWords Go.Proofs.YtbbfkodckpfjcaaGreat.PK
set_option linter.unusedVariables false
set_option linter.unusedSimpArgs false
set_option maxHeartbeats 1600000
theorem laws_szIntS.rel (k : Nat) (l0 : List Int) (a1 : Int) (r) (h : PK.laws_szIntS.f l0 a1 = some r) (m : Nat) (hm : k ≤ m) : laws_szIntS.f m l0 a1 = some r:=by
 rw [PK.laws_szIntS.f] at h;rw [laws_szIntS.f]
 try simp only [w64_eq,wu8_eq,gt_iff_lt,ge_iff_le,int_beq,fdiv33,fdiv45,bt_eq,tmodN,rdOfB,rdOfL] at h
 try simp only [shlR]
 try simp only [w64_eq,wu8_eq,gt_iff_lt,ge_iff_le,int_beq,fdiv33,fdiv45,bt_eq,tmodN,rdOfB,rdOfL,rdT3_eq,rdT5_eq,seq,maxI,minI,emp_eq,rdn139,rdn91,rdn104,rdn3,rdn119,rdn80,rdn128,rdn71,rdn75,rdn133,rdn5,rdn96,rdn68]
 refine (itE h (fun q h=>?_) (fun q h=>?_))
 all_goals (try cases h)
 all_goals (try simp only [*,if_true,if_false,↓reduceIte,Option.bind_some,List.length_cons,List.length_nil,List.length_append,Bool.not_true,Bool.not_false,Bool.true_eq_false,Bool.false_eq_true])
 all_goals (repeat first | rw [if_pos (by omega)] | rw [if_neg (by omega)])
 all_goals first | exact h | apply h | rfl | (simp_all [-Bool.forall_bool];done) | (simp_all [-Bool.forall_bool];first | exact h | apply h) | (simp_all [-Bool.forall_bool,emp_eq,int_beq];done) | (simp_all [-Bool.forall_bool];(intros;simp_all;done)) | (simp_all [-Bool.forall_bool,rdset139,rdset91,rdset104,rdset3,rdset119,rdset80,rdset128,rdset71,rdset75,rdset133,rdset5,rdset96,rdset68];done) | grind
theorem laws_szKnot.rel (k : Nat) (a0_0 : Bool) (l0_1 : List Int) (a1 : Int) (r) (h : PK.laws_szKnot.f a0_0 l0_1 a1 = some r) (m : Nat) (hm : k ≤ m) : laws_szKnot.f m a0_0 l0_1 a1 = some r:=by
 rw [PK.laws_szKnot.f] at h;rw [laws_szKnot.f]
 try simp only [w64_eq,wu8_eq,gt_iff_lt,ge_iff_le,int_beq,fdiv33,fdiv45,bt_eq,tmodN,rdOfB,rdOfL] at h
 try simp only [shlR]
 try simp only [w64_eq,wu8_eq,gt_iff_lt,ge_iff_le,int_beq,fdiv33,fdiv45,bt_eq,tmodN,rdOfB,rdOfL,rdT3_eq,rdT5_eq,seq,maxI,minI,emp_eq,rdn139,rdn91,rdn104,rdn3,rdn119,rdn80,rdn128,rdn71,rdn75,rdn133,rdn5,rdn96,rdn68]
 refine (bnE h (fun _ g h=>(fun g=>(itE h (fun q h=>?_) (fun q h=>?_))) (laws_szIntS.rel m _ _ _ g m (by omega))))
 all_goals (try cases h)
 all_goals (try simp only [*,if_true,if_false,↓reduceIte,Option.bind_some,List.length_cons,List.length_nil,List.length_append,Bool.not_true,Bool.not_false,Bool.true_eq_false,Bool.false_eq_true])
 all_goals (repeat first | rw [if_pos (by omega)] | rw [if_neg (by omega)])
 all_goals first | exact h | apply h | rfl | (simp_all [-Bool.forall_bool];done) | (simp_all [-Bool.forall_bool];first | exact h | apply h) | (simp_all [-Bool.forall_bool,emp_eq,int_beq];done) | (simp_all [-Bool.forall_bool];(intros;simp_all;done)) | (simp_all [-Bool.forall_bool,rdset139,rdset91,rdset104,rdset3,rdset119,rdset80,rdset128,rdset71,rdset75,rdset133,rdset5,rdset96,rdset68];done) | grind
theorem laws_szKnotS.rel_l (k : Nat) : (∀ x0 x1 x5 r,PK.laws_szKnotS.l0 k x0 x1 x5 = some r → ∀ m,k ≤ m → laws_szKnotS.c5 m x0 x1 x5 = some r):=by
 induction k using Nat.strongRecOn with
 | _ k ih =>
 have il0:=fun k' hk'=>(ih k' hk');clear ih;intro x0 x1 x5 r h m hm;cases k with
 | zero=>simp only [PK.laws_szKnotS.l0] at h;cases h
 | succ k =>
  obtain ⟨m,rfl⟩ : ∃ m',m = m' + 1:=⟨m - 1,by omega⟩;rw [PK.laws_szKnotS.l0] at h;rw [laws_szKnotS.c5]
  try simp only [w64_eq,wu8_eq,gt_iff_lt,ge_iff_le,int_beq,fdiv33,fdiv45,bt_eq,tmodN,rdOfB,rdOfL] at h
  try simp only [shlR]
  try simp only [w64_eq,wu8_eq,gt_iff_lt,ge_iff_le,int_beq,fdiv33,fdiv45,bt_eq,tmodN,rdOfB,rdOfL,rdT3_eq,rdT5_eq,seq,maxI,minI,emp_eq,rdn139,rdn91,rdn104,rdn3,rdn119,rdn80,rdn128,rdn71,rdn75,rdn133,rdn5,rdn96,rdn68]
  refine (itE h (fun q h=>(itE h (fun q h=>(bnE h (fun _ g h=>(fun g=>(itE h (fun q h=>?_) (fun q h=>((fun h=>?_) (il0 _ (by omega) _ _ _ _ h m (by omega)))))) (laws_szKnot.rel m _ _ _ _ g m (by omega))))) (fun q h=>(noE h)))) (fun q h=>?_))
  all_goals clear il0
  all_goals (try cases h)
  all_goals (try simp only [*,if_true,if_false,↓reduceIte,Option.bind_some,List.length_cons,List.length_nil,List.length_append,Bool.not_true,Bool.not_false,Bool.true_eq_false,Bool.false_eq_true])
  all_goals (repeat first | rw [if_pos (by omega)] | rw [if_neg (by omega)])
  all_goals first | exact h | apply h | rfl | (simp_all [-Bool.forall_bool];done) | (simp_all [-Bool.forall_bool];first | exact h | apply h) | (simp_all [-Bool.forall_bool,emp_eq,int_beq];done) | (simp_all [-Bool.forall_bool];(intros;simp_all;done)) | (simp_all [-Bool.forall_bool,rdset139,rdset91,rdset104,rdset3,rdset119,rdset80,rdset128,rdset71,rdset75,rdset133,rdset5,rdset96,rdset68];done) | grind
theorem laws_szKnotS.rel (k : Nat) (l0 : List (S119)) (a1 : Int) (r) (h : PK.laws_szKnotS.f k l0 a1 = some r) (m : Nat) (hm : k ≤ m) : laws_szKnotS.f m l0 a1 = some r:=by
 have il0:=fun k' (_ : k' < k + 1)=>(laws_szKnotS.rel_l k');rw [PK.laws_szKnotS.f] at h;rw [laws_szKnotS.f]
 try simp only [w64_eq,wu8_eq,gt_iff_lt,ge_iff_le,int_beq,fdiv33,fdiv45,bt_eq,tmodN,rdOfB,rdOfL] at h
 try simp only [shlR]
 try simp only [w64_eq,wu8_eq,gt_iff_lt,ge_iff_le,int_beq,fdiv33,fdiv45,bt_eq,tmodN,rdOfB,rdOfL,rdT3_eq,rdT5_eq,seq,maxI,minI,emp_eq,rdn139,rdn91,rdn104,rdn3,rdn119,rdn80,rdn128,rdn71,rdn75,rdn133,rdn5,rdn96,rdn68]
 refine (itE h (fun q h=>?_) (fun q h=>((fun h=>?_) (il0 _ (by omega) _ _ _ _ h m (by omega)))))
 all_goals clear il0
 all_goals (try cases h)
 all_goals (try simp only [*,if_true,if_false,↓reduceIte,Option.bind_some,List.length_cons,List.length_nil,List.length_append,Bool.not_true,Bool.not_false,Bool.true_eq_false,Bool.false_eq_true])
 all_goals (repeat first | rw [if_pos (by omega)] | rw [if_neg (by omega)])
 all_goals first | exact h | apply h | rfl | (simp_all [-Bool.forall_bool];done) | (simp_all [-Bool.forall_bool];first | exact h | apply h) | (simp_all [-Bool.forall_bool,emp_eq,int_beq];done) | (simp_all [-Bool.forall_bool];(intros;simp_all;done)) | (simp_all [-Bool.forall_bool,rdset139,rdset91,rdset104,rdset3,rdset119,rdset80,rdset128,rdset71,rdset75,rdset133,rdset5,rdset96,rdset68];done) | grind
end Go.Proofs.YtbbfkodckpfjcaaGreat.M2

namespace Go.Proofs.YtbbfkodckpfjcaaGreat.M2
open Go Go.RowKit Go.Proofs.YtbbfkodckpfjcaaGreatW.PrintWords Go.Proofs.YtbbfkodckpfjcaaGreat.PK
set_option linter.unusedVariables false
set_option linter.unusedSimpArgs false
set_option maxHeartbeats 1600000
theorem laws_szArena.rel (k : Nat) (l0_0 : List (S119)) (a1 : Int) (r) (h : PK.laws_szArena.f k l0_0 a1 = some r) (m : Nat) (hm : k ≤ m) : laws_szArena.f m l0_0 a1 = some r:=by
 rw [PK.laws_szArena.f] at h;rw [laws_szArena.f]
 try simp only [w64_eq,wu8_eq,gt_iff_lt,ge_iff_le,int_beq,fdiv33,fdiv45,bt_eq,tmodN,rdOfB,rdOfL] at h
 try simp only [shlR]
 try simp only [w64_eq,wu8_eq,gt_iff_lt,ge_iff_le,int_beq,fdiv33,fdiv45,bt_eq,tmodN,rdOfB,rdOfL,rdT3_eq,rdT5_eq,seq,maxI,minI,emp_eq,rdn139,rdn91,rdn104,rdn3,rdn119,rdn80,rdn128,rdn71,rdn75,rdn133,rdn5,rdn96,rdn68]
 refine (bnE h (fun _ g h=>(fun g=>(itE h (fun q h=>?_) (fun q h=>?_))) (laws_szKnotS.rel _ _ _ _ g m (by omega))))
 all_goals (try cases h)
 all_goals (try simp only [*,if_true,if_false,↓reduceIte,Option.bind_some,List.length_cons,List.length_nil,List.length_append,Bool.not_true,Bool.not_false,Bool.true_eq_false,Bool.false_eq_true])
 all_goals (repeat first | rw [if_pos (by omega)] | rw [if_neg (by omega)])
 all_goals first | exact h | apply h | rfl | (simp_all [-Bool.forall_bool];done) | (simp_all [-Bool.forall_bool];first | exact h | apply h) | (simp_all [-Bool.forall_bool,emp_eq,int_beq];done) | (simp_all [-Bool.forall_bool];(intros;simp_all;done)) | (simp_all [-Bool.forall_bool,rdset139,rdset91,rdset104,rdset3,rdset119,rdset80,rdset128,rdset71,rdset75,rdset133,rdset5,rdset96,rdset68];done) | grind
theorem laws_szStore.rel (k : Nat) (l0_0 : List (S104)) (l0_1 : List (S119)) (a0_2 : Int) (a1 : Int) (r) (h : PK.laws_szStore.f k l0_0 l0_1 a0_2 a1 = some r) (m : Nat) (hm : k ≤ m) : laws_szStore.f m l0_0 l0_1 a0_2 a1 = some r:=by
 rw [PK.laws_szStore.f] at h;rw [laws_szStore.f]
 try simp only [w64_eq,wu8_eq,gt_iff_lt,ge_iff_le,int_beq,fdiv33,fdiv45,bt_eq,tmodN,rdOfB,rdOfL] at h
 try simp only [shlR]
 try simp only [w64_eq,wu8_eq,gt_iff_lt,ge_iff_le,int_beq,fdiv33,fdiv45,bt_eq,tmodN,rdOfB,rdOfL,rdT3_eq,rdT5_eq,seq,maxI,minI,emp_eq,rdn139,rdn91,rdn104,rdn3,rdn119,rdn80,rdn128,rdn71,rdn75,rdn133,rdn5,rdn96,rdn68]
 refine (bnE h (fun _ g h=>(fun g=>(itE h (fun q h=>?_) (fun q h=>(bnE h (fun _ g h=>(fun g=>(itE h (fun q h=>?_) (fun q h=>?_))) (laws_szArena.rel _ _ _ _ g m (by omega))))))) (laws_szVolS.rel m _ _ _ g m (by omega))))
 all_goals (try cases h)
 all_goals (try simp only [*,if_true,if_false,↓reduceIte,Option.bind_some,List.length_cons,List.length_nil,List.length_append,Bool.not_true,Bool.not_false,Bool.true_eq_false,Bool.false_eq_true])
 all_goals (repeat first | rw [if_pos (by omega)] | rw [if_neg (by omega)])
 all_goals first | exact h | apply h | rfl | (simp_all [-Bool.forall_bool];done) | (simp_all [-Bool.forall_bool];first | exact h | apply h) | (simp_all [-Bool.forall_bool,emp_eq,int_beq];done) | (simp_all [-Bool.forall_bool];(intros;simp_all;done)) | (simp_all [-Bool.forall_bool,rdset139,rdset91,rdset104,rdset3,rdset119,rdset80,rdset128,rdset71,rdset75,rdset133,rdset5,rdset96,rdset68];done) | grind
theorem laws_toVol.rel (k : Nat) (a0_0 : Int) (a0_1 : Int) (r) (h : PK.laws_toVol.f a0_0 a0_1 = some r) (m : Nat) (hm : k ≤ m) : laws_toVol.f m a0_0 a0_1 = some (r.1,r.2):=by
 rw [PK.laws_toVol.f] at h;rw [laws_toVol.f]
 try simp only [w64_eq,wu8_eq,gt_iff_lt,ge_iff_le,int_beq,fdiv33,fdiv45,bt_eq,tmodN,rdOfB,rdOfL] at h
 try simp only [shlR]
 try simp only [w64_eq,wu8_eq,gt_iff_lt,ge_iff_le,int_beq,fdiv33,fdiv45,bt_eq,tmodN,rdOfB,rdOfL,rdT3_eq,rdT5_eq,seq,maxI,minI,emp_eq,rdn139,rdn91,rdn104,rdn3,rdn119,rdn80,rdn128,rdn71,rdn75,rdn133,rdn5,rdn96,rdn68]
 refine ?_
 all_goals (try cases h)
 all_goals (try simp only [*,if_true,if_false,↓reduceIte,Option.bind_some,List.length_cons,List.length_nil,List.length_append,Bool.not_true,Bool.not_false,Bool.true_eq_false,Bool.false_eq_true])
 all_goals (repeat first | rw [if_pos (by omega)] | rw [if_neg (by omega)])
 all_goals first | exact h | apply h | rfl | (simp_all [-Bool.forall_bool];done) | (simp_all [-Bool.forall_bool];first | exact h | apply h) | (simp_all [-Bool.forall_bool,emp_eq,int_beq];done) | (simp_all [-Bool.forall_bool];(intros;simp_all;done)) | (simp_all [-Bool.forall_bool,rdset139,rdset91,rdset104,rdset3,rdset119,rdset80,rdset128,rdset71,rdset75,rdset133,rdset5,rdset96,rdset68];done) | grind
theorem laws_toVolS.rel_l (k : Nat) : (∀ x0 x3 x4 r,PK.laws_toVolS.l0 k x0 x3 x4 = some r → ∀ m,k ≤ m → laws_toVolS.c3 m x0 x4 x3 = some r):=by
 induction k using Nat.strongRecOn with
 | _ k ih =>
 have il0:=fun k' hk'=>(ih k' hk');clear ih;intro x0 x3 x4 r h m hm;cases k with
 | zero=>simp only [PK.laws_toVolS.l0] at h;cases h
 | succ k =>
  obtain ⟨m,rfl⟩ : ∃ m',m = m' + 1:=⟨m - 1,by omega⟩;rw [PK.laws_toVolS.l0] at h;rw [laws_toVolS.c3]
  try simp only [w64_eq,wu8_eq,gt_iff_lt,ge_iff_le,int_beq,fdiv33,fdiv45,bt_eq,tmodN,rdOfB,rdOfL] at h
  try simp only [shlR]
  try simp only [w64_eq,wu8_eq,gt_iff_lt,ge_iff_le,int_beq,fdiv33,fdiv45,bt_eq,tmodN,rdOfB,rdOfL,rdT3_eq,rdT5_eq,seq,maxI,minI,emp_eq,rdn139,rdn91,rdn104,rdn3,rdn119,rdn80,rdn128,rdn71,rdn75,rdn133,rdn5,rdn96,rdn68]
  refine (itE h (fun q h=>(itE h (fun q h=>(bnE h (fun _ g h=>(fun g=>(itE h (fun q h=>((fun h=>?_) (il0 _ (by omega) _ _ _ _ h m (by omega)))) (fun q h=>(noE h)))) (laws_toVol.rel m _ _ _ g m (by omega))))) (fun q h=>(noE h)))) (fun q h=>?_))
  all_goals clear il0
  all_goals (try cases h)
  all_goals (try simp only [*,if_true,if_false,↓reduceIte,Option.bind_some,List.length_cons,List.length_nil,List.length_append,Bool.not_true,Bool.not_false,Bool.true_eq_false,Bool.false_eq_true])
  all_goals (repeat first | rw [if_pos (by omega)] | rw [if_neg (by omega)])
  all_goals first | exact h | apply h | rfl | (simp_all [-Bool.forall_bool];done) | (simp_all [-Bool.forall_bool];first | exact h | apply h) | (simp_all [-Bool.forall_bool,emp_eq,int_beq];done) | (simp_all [-Bool.forall_bool];(intros;simp_all;done)) | (simp_all [-Bool.forall_bool,rdset139,rdset91,rdset104,rdset3,rdset119,rdset80,rdset128,rdset71,rdset75,rdset133,rdset5,rdset96,rdset68];done) | grind
theorem laws_toVolS.rel (k : Nat) (l0 : List (S104)) (r) (h : PK.laws_toVolS.f k l0 = some r) (m : Nat) (hm : k ≤ m) : laws_toVolS.f m l0 = some r:=by
 have il0:=fun k' (_ : k' < k + 1)=>(laws_toVolS.rel_l k');rw [PK.laws_toVolS.f] at h;rw [laws_toVolS.f]
 try simp only [w64_eq,wu8_eq,gt_iff_lt,ge_iff_le,int_beq,fdiv33,fdiv45,bt_eq,tmodN,rdOfB,rdOfL] at h
 try simp only [shlR]
 try simp only [w64_eq,wu8_eq,gt_iff_lt,ge_iff_le,int_beq,fdiv33,fdiv45,bt_eq,tmodN,rdOfB,rdOfL,rdT3_eq,rdT5_eq,seq,maxI,minI,emp_eq,rdn139,rdn91,rdn104,rdn3,rdn119,rdn80,rdn128,rdn71,rdn75,rdn133,rdn5,rdn96,rdn68]
 refine (itE h (fun q h=>(itE h (fun q h=>((fun h=>?_) (il0 _ (by omega) _ _ _ _ h m (by omega)))) (fun q h=>(noE h)))) (fun q h=>(noE h)))
 all_goals clear il0
 all_goals (try cases h)
 all_goals (try simp only [*,if_true,if_false,↓reduceIte,Option.bind_some,List.length_cons,List.length_nil,List.length_append,Bool.not_true,Bool.not_false,Bool.true_eq_false,Bool.false_eq_true])
 all_goals (repeat first | rw [if_pos (by omega)] | rw [if_neg (by omega)])
 all_goals first | exact h | apply h | rfl | (simp_all [-Bool.forall_bool];done) | (simp_all [-Bool.forall_bool];first | exact h | apply h) | (simp_all [-Bool.forall_bool,emp_eq,int_beq];done) | (simp_all [-Bool.forall_bool];(intros;simp_all;done)) | (simp_all [-Bool.forall_bool,rdset139,rdset91,rdset104,rdset3,rdset119,rdset80,rdset128,rdset71,rdset75,rdset133,rdset5,rdset96,rdset68];done) | grind
end Go.Proofs.YtbbfkodckpfjcaaGreat.M2
