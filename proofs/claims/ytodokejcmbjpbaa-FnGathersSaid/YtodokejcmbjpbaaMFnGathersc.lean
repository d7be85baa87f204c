/- FnGathers: functions of the translation as Lean functions with what their calls come to, plain lemmas on them, and, at the end, the row. Parts of one proof, merged by a program of this session; each part's own sentence stands at its head. -/
import Derived.Test.YtodokejcmbjpbaaMFnGathersb
set_option linter.unusedSimpArgs false
set_option linter.unusedVariables false
namespace Go.Proofs.Ytodokejcmbjpbaa.PK
open Go.RowKit Go.Proofs.YtodokejcmbjpbaaW.PrintWords Go.Proofs.YtodokejcmbjpbaaW.PrintLast Go.Proofs.YtodokejcmbjpbaaW.PrintMore
attribute [local go_sem] max2_int min2_int max_two min_two max_three min_three max_four min_four
theorem ld33 {W : World} {g : Nat} {c0 c1 c2 c3 c4 : Int} {c5 : ByteArray} {ρ : Operand → Value} {o : Oper} {x : Operand} (ho : o.op = .load 33 x) (hx : ρ x = .pointer (some ⟨g,0,none⟩)) (hb : W.heap[g]? = some (.cells #[.int .i64 c0,.int .i64 c1,.int .i64 c2,.int .i64 c3,.int .i64 c4,.string c5] 33 (0,0))) :
  (execOp ρ o).run Try.prog W = .ok (.value (.agg #[.int .i64 c0,.int .i64 c1,.int .i64 c2,.int .i64 c3,.int .i64 c4,.string c5])) W:=by
 have hu:=Try.underlying33;have h0 : W.cell? ⟨g,0,none⟩ = some (.int .i64 c0):=(zCl hb 0).trans rfl;have h1 : W.cell? ⟨g,1,none⟩ = some (.int .i64 c1):=(zCl hb 1).trans rfl;have h2 : W.cell? ⟨g,2,none⟩ = some (.int .i64 c2):=(zCl hb 2).trans rfl;have h3 : W.cell? ⟨g,3,none⟩ = some (.int .i64 c3):=(zCl hb 3).trans rfl;have h4 : W.cell? ⟨g,4,none⟩ = some (.int .i64 c4):=(zCl hb 4).trans rfl;have h5 : W.cell? ⟨g,5,none⟩ = some (.string c5):=(zCl hb 5).trans rfl;have f0:=zFr hb 0;have f1:=zFr hb 1;have f2:=zFr hb 2;have f3:=zFr hb 3;have f4:=zFr hb 4;have f5:=zFr hb 5;unfold execOp;simp only [ho,hx];go_simp
mutual
def spec_l10Found.l0 : Nat → List (S36) → Int → Int → List Int → Int → Int → Option ((List (S36)) × Int × Int)
 | 0,_,_,_,_,_,_=>none
 | k + 1,x3,x4,x5,x1000,x1001,x1002=>(spec_l01Below.f x1000 x1001 x1002 5).bind fun bt596=>(if x5 ≤ bt596.1 then ((spec_l09Recs.f k x1000 bt596.2.1 bt596.2.2).bind fun bt599=>((spec_l01Once.f x1000 bt599.2.1 bt599.2.2 4).bind fun bt604=>(if bt604.1 = true then ((some (([(⟨1,0,5,0⟩ : S45)] : List (S45)) : List (S45))).bind fun y607=>(if y607.length + bt599.1.length < 4398046511104 then (spec_l10Found.j1 k x3 x4 x5 (y607 ++ bt599.1) x1000 bt604.2.1 bt604.2.2) else (none))) else (spec_l10Found.j1 k x3 x4 x5 bt599.1 x1000 bt604.2.1 bt604.2.2)))) else (some (x3,bt596.2.1,bt596.2.2)))
def spec_l10Found.j1 : Nat → List (S36) → Int → Int → List (S45) → List Int → Int → Int → Option ((List (S36)) × Int × Int)
 | 0,_,_,_,_,_,_,_=>none
 | k + 1,x3,x4,x5,x6,x1000,x1001,x1002=>(spec_l01Once.f x1000 x1001 x1002 3).bind fun bt613=>(if bt613.1 = true then (spec_l10Found.l1 k x3 x4 x5 x6 x1000 bt613.2.1 bt613.2.2) else (spec_l10Found.j3 k x3 x4 x5 x6 x1000 bt613.2.1 bt613.2.2))
def spec_l10Found.j3 : Nat → List (S36) → Int → Int → List (S45) → List Int → Int → Int → Option ((List (S36)) × Int × Int)
 | 0,_,_,_,_,_,_,_=>none
 | k + 1,x3,x4,x5,x6,x1000,x1001,x1002=>(spec_TxPages.f k x4 x5 x6).bind fun bt619=>(spec_l10Found.l2 k x3 x4 x5 bt619.1 0 x1000 x1001 x1002)
def spec_l10Found.l2 : Nat → List (S36) → Int → Int → List (S33) → Int → List Int → Int → Int → Option ((List (S36)) × Int × Int)
 | 0,_,_,_,_,_,_,_,_=>none
 | k + 1,x3,x4,x5,x7,x9,x1000,x1001,x1002=>if x9 < (x7.length : Int) then ((spec_l01Once.f x1000 x1001 x1002 8).bind fun bt629=>(if bt629.1 = true then ((spec_l01Once.f x1000 bt629.2.1 bt629.2.2 16).bind fun bt632=>(if bt632.1 = true then (if 0 ≤ x9 then (if x3.length < 1954687338268 then (spec_l10Found.l2 k (x3 ++ [(⟨0,0,(⟨(rd_T33 x7 x9).f0,(rd_T33 x7 x9).f1,(rd_T33 x7 x9).f2,(rd_T33 x7 x9).f3,wrap64 (((rd_T33 x7 x9).f4) + 1),(rd_T33 x7 x9).f5⟩ : S33)⟩ : S36)]) (wrap64 (x4 + 1)) x5 x7 (wrap64 (x9 + 1)) x1000 bt632.2.1 bt632.2.2) else (none)) else (none)) else (spec_l10Found.l2 k x3 (wrap64 (x4 + 1)) x5 x7 (wrap64 (x9 + 1)) x1000 bt632.2.1 bt632.2.2))) else (if 0 ≤ x9 then (if x3.length < 1954687338268 then ((some (x3 ++ [(⟨wrap64 (Int.tdiv x4 4),Int.tmod x4 4,(⟨(rd_T33 x7 x9).f0,(rd_T33 x7 x9).f1,(rd_T33 x7 x9).f2,(rd_T33 x7 x9).f3,(rd_T33 x7 x9).f4,(rd_T33 x7 x9).f5⟩ : S33)⟩ : S36)] : List (S36))).bind fun y641=>((spec_l01Once.f x1000 bt629.2.1 bt629.2.2 16).bind fun bt644=>(if bt644.1 = true then (if y641.length < 1954687338268 then (spec_l10Found.l2 k (y641 ++ [(⟨0,0,(⟨(rd_T33 x7 x9).f0,(rd_T33 x7 x9).f1,(rd_T33 x7 x9).f2,(rd_T33 x7 x9).f3,wrap64 (((rd_T33 x7 x9).f4) + 1),(rd_T33 x7 x9).f5⟩ : S33)⟩ : S36)]) (wrap64 (x4 + 1)) x5 x7 (wrap64 (x9 + 1)) x1000 bt644.2.1 bt644.2.2) else (none)) else (spec_l10Found.l2 k y641 (wrap64 (x4 + 1)) x5 x7 (wrap64 (x9 + 1)) x1000 bt644.2.1 bt644.2.2)))) else (none)) else (none)))) else ((spec_l01Once.f x1000 x1001 x1002 4).bind fun bt623=>(if bt623.1 = true then (if x3.length < 1954687338268 then (spec_l10Found.l0 k (x3 ++ [(⟨0,0,(⟨1,x4,x5,0,1,(⟨#[120]⟩ : ByteArray)⟩ : S33)⟩ : S36)]) x4 (wrap64 (x5 + 1)) x1000 bt623.2.1 bt623.2.2) else (none)) else (spec_l10Found.l0 k x3 x4 (wrap64 (x5 + 1)) x1000 bt623.2.1 bt623.2.2)))
def spec_l10Found.l1 : Nat → List (S36) → Int → Int → List (S45) → List Int → Int → Int → Option ((List (S36)) × Int × Int)
 | 0,_,_,_,_,_,_,_=>none
 | k + 1,x3,x4,x5,x6,x1000,x1001,x1002=>if (x6.length : Int) < 60 then (if x6.length < 4398046511104 then (spec_l10Found.l1 k x3 x4 x5 (x6 ++ [(⟨4,1,3,wrap64 (200 + (x6.length : Int))⟩ : S45)]) x1000 x1001 x1002) else (none)) else (spec_l10Found.j3 k x3 x4 x5 x6 x1000 x1001 x1002)
end
def spec_l10Found.f (k : Nat) (s0_0 : List Int) (s0_1 : Int) (s0_2 : Int) : Option ((List (S36)) × Int × Int):=spec_l10Found.l0 k (([] : List (S36))) 1 1 s0_0 s0_1 s0_2
theorem spec_l10Found.mono_l : ∀ k,(∀ y0 y1 y2 y3 y4 y5,LeO (spec_l10Found.l0 k y0 y1 y2 y3 y4 y5) (spec_l10Found.l0 (k + 1) y0 y1 y2 y3 y4 y5)) ∧ (∀ y0 y1 y2 y3 y4 y5 y6,LeO (spec_l10Found.j1 k y0 y1 y2 y3 y4 y5 y6) (spec_l10Found.j1 (k + 1) y0 y1 y2 y3 y4 y5 y6)) ∧ (∀ y0 y1 y2 y3 y4 y5 y6,LeO (spec_l10Found.j3 k y0 y1 y2 y3 y4 y5 y6) (spec_l10Found.j3 (k + 1) y0 y1 y2 y3 y4 y5 y6)) ∧ (∀ y0 y1 y2 y3 y4 y5 y6 y7,LeO (spec_l10Found.l2 k y0 y1 y2 y3 y4 y5 y6 y7) (spec_l10Found.l2 (k + 1) y0 y1 y2 y3 y4 y5 y6 y7)) ∧ (∀ y0 y1 y2 y3 y4 y5 y6,LeO (spec_l10Found.l1 k y0 y1 y2 y3 y4 y5 y6) (spec_l10Found.l1 (k + 1) y0 y1 y2 y3 y4 y5 y6))
 | 0=>⟨fun _ _ _ _ _ _ r h=>by simp [spec_l10Found.l0] at h,fun _ _ _ _ _ _ _ r h=>by simp [spec_l10Found.j1] at h,fun _ _ _ _ _ _ _ r h=>by simp [spec_l10Found.j3] at h,fun _ _ _ _ _ _ _ _ r h=>by simp [spec_l10Found.l2] at h,fun _ _ _ _ _ _ _ r h=>by simp [spec_l10Found.l1] at h⟩
 | k + 1=>by
  obtain ⟨ih0,ih1,ih2,ih3,ih4⟩:=spec_l10Found.mono_l k;refine ⟨?_,?_,?_,?_,?_⟩
  ·intro y0 y1 y2 y3 y4 y5;unfold spec_l10Found.l0
   repeat' first
   | (with_reducible exact ih0 _ _ _ _ _ _)
   | (with_reducible exact ih1 _ _ _ _ _ _ _)
   | (with_reducible exact ih2 _ _ _ _ _ _ _)
   | (with_reducible exact ih3 _ _ _ _ _ _ _ _)
   | (with_reducible exact ih4 _ _ _ _ _ _ _)
   | (with_reducible exact spec_TxPages.mono _ _ _ _)
   | (with_reducible exact spec_l09Recs.mono _ _ _ _)
   | (with_reducible exact LeO.refl _)
   | (with_reducible exact LeO.none _)
   | (with_reducible refine LeO.ite ?_ ?_)
   | (with_reducible refine LeO.bind ?_ (fun _=>?_))
   | exact ih0 _ _ _ _ _ _
   | exact ih1 _ _ _ _ _ _ _
   | exact ih2 _ _ _ _ _ _ _
   | exact ih3 _ _ _ _ _ _ _ _
   | exact ih4 _ _ _ _ _ _ _
   | exact spec_TxPages.mono _ _ _ _
   | exact spec_l09Recs.mono _ _ _ _
   | exact LeO.none _
   | refine LeO.ite ?_ ?_
   | refine LeO.bind ?_ (fun _=>?_)
  ·intro y0 y1 y2 y3 y4 y5 y6;unfold spec_l10Found.j1
   repeat' first
   | (with_reducible exact ih0 _ _ _ _ _ _)
   | (with_reducible exact ih1 _ _ _ _ _ _ _)
   | (with_reducible exact ih2 _ _ _ _ _ _ _)
   | (with_reducible exact ih3 _ _ _ _ _ _ _ _)
   | (with_reducible exact ih4 _ _ _ _ _ _ _)
   | (with_reducible exact spec_TxPages.mono _ _ _ _)
   | (with_reducible exact spec_l09Recs.mono _ _ _ _)
   | (with_reducible exact LeO.refl _)
   | (with_reducible exact LeO.none _)
   | (with_reducible refine LeO.ite ?_ ?_)
   | (with_reducible refine LeO.bind ?_ (fun _=>?_))
   | exact ih0 _ _ _ _ _ _
   | exact ih1 _ _ _ _ _ _ _
   | exact ih2 _ _ _ _ _ _ _
   | exact ih3 _ _ _ _ _ _ _ _
   | exact ih4 _ _ _ _ _ _ _
   | exact spec_TxPages.mono _ _ _ _
   | exact spec_l09Recs.mono _ _ _ _
   | exact LeO.none _
   | refine LeO.ite ?_ ?_
   | refine LeO.bind ?_ (fun _=>?_)
  ·intro y0 y1 y2 y3 y4 y5 y6;unfold spec_l10Found.j3
   repeat' first
   | (with_reducible exact ih0 _ _ _ _ _ _)
   | (with_reducible exact ih1 _ _ _ _ _ _ _)
   | (with_reducible exact ih2 _ _ _ _ _ _ _)
   | (with_reducible exact ih3 _ _ _ _ _ _ _ _)
   | (with_reducible exact ih4 _ _ _ _ _ _ _)
   | (with_reducible exact spec_TxPages.mono _ _ _ _)
   | (with_reducible exact spec_l09Recs.mono _ _ _ _)
   | (with_reducible exact LeO.refl _)
   | (with_reducible exact LeO.none _)
   | (with_reducible refine LeO.ite ?_ ?_)
   | (with_reducible refine LeO.bind ?_ (fun _=>?_))
   | exact ih0 _ _ _ _ _ _
   | exact ih1 _ _ _ _ _ _ _
   | exact ih2 _ _ _ _ _ _ _
   | exact ih3 _ _ _ _ _ _ _ _
   | exact ih4 _ _ _ _ _ _ _
   | exact spec_TxPages.mono _ _ _ _
   | exact spec_l09Recs.mono _ _ _ _
   | exact LeO.none _
   | refine LeO.ite ?_ ?_
   | refine LeO.bind ?_ (fun _=>?_)
  ·intro y0 y1 y2 y3 y4 y5 y6 y7;unfold spec_l10Found.l2
   repeat' first
   | (with_reducible exact ih0 _ _ _ _ _ _)
   | (with_reducible exact ih1 _ _ _ _ _ _ _)
   | (with_reducible exact ih2 _ _ _ _ _ _ _)
   | (with_reducible exact ih3 _ _ _ _ _ _ _ _)
   | (with_reducible exact ih4 _ _ _ _ _ _ _)
   | (with_reducible exact spec_TxPages.mono _ _ _ _)
   | (with_reducible exact spec_l09Recs.mono _ _ _ _)
   | (with_reducible exact LeO.refl _)
   | (with_reducible exact LeO.none _)
   | (with_reducible refine LeO.ite ?_ ?_)
   | (with_reducible refine LeO.bind ?_ (fun _=>?_))
   | exact ih0 _ _ _ _ _ _
   | exact ih1 _ _ _ _ _ _ _
   | exact ih2 _ _ _ _ _ _ _
   | exact ih3 _ _ _ _ _ _ _ _
   | exact ih4 _ _ _ _ _ _ _
   | exact spec_TxPages.mono _ _ _ _
   | exact spec_l09Recs.mono _ _ _ _
   | exact LeO.none _
   | refine LeO.ite ?_ ?_
   | refine LeO.bind ?_ (fun _=>?_)
  intro y0 y1 y2 y3 y4 y5 y6;unfold spec_l10Found.l1
  repeat' first
  | (with_reducible exact ih0 _ _ _ _ _ _)
  | (with_reducible exact ih1 _ _ _ _ _ _ _)
  | (with_reducible exact ih2 _ _ _ _ _ _ _)
  | (with_reducible exact ih3 _ _ _ _ _ _ _ _)
  | (with_reducible exact ih4 _ _ _ _ _ _ _)
  | (with_reducible exact spec_TxPages.mono _ _ _ _)
  | (with_reducible exact spec_l09Recs.mono _ _ _ _)
  | (with_reducible exact LeO.refl _)
  | (with_reducible exact LeO.none _)
  | (with_reducible refine LeO.ite ?_ ?_)
  | (with_reducible refine LeO.bind ?_ (fun _=>?_))
  | exact ih0 _ _ _ _ _ _
  | exact ih1 _ _ _ _ _ _ _
  | exact ih2 _ _ _ _ _ _ _
  | exact ih3 _ _ _ _ _ _ _ _
  | exact ih4 _ _ _ _ _ _ _
  | exact spec_TxPages.mono _ _ _ _
  | exact spec_l09Recs.mono _ _ _ _
  | exact LeO.none _
  | refine LeO.ite ?_ ?_
  | refine LeO.bind ?_ (fun _=>?_)
theorem spec_l10Found.mono : ∀ a0 a1 a2 k,LeO (spec_l10Found.f k a0 a1 a2) (spec_l10Found.f (k + 1) a0 a1 a2):=by
 intro a0 a1 a2 k;obtain ⟨ih0,ih1,ih2,ih3,ih4⟩:=spec_l10Found.mono_l k;unfold spec_l10Found.f
 repeat' first
   | (with_reducible exact ih0 _ _ _ _ _ _)
   | (with_reducible exact ih1 _ _ _ _ _ _ _)
   | (with_reducible exact ih2 _ _ _ _ _ _ _)
   | (with_reducible exact ih3 _ _ _ _ _ _ _ _)
   | (with_reducible exact ih4 _ _ _ _ _ _ _)
   | (with_reducible exact spec_TxPages.mono _ _ _ _)
   | (with_reducible exact spec_l09Recs.mono _ _ _ _)
   | (with_reducible exact LeO.refl _)
   | (with_reducible exact LeO.none _)
   | (with_reducible refine LeO.ite ?_ ?_)
   | (with_reducible refine LeO.bind ?_ (fun _=>?_))
   | exact ih0 _ _ _ _ _ _
   | exact ih1 _ _ _ _ _ _ _
   | exact ih2 _ _ _ _ _ _ _
   | exact ih3 _ _ _ _ _ _ _ _
   | exact ih4 _ _ _ _ _ _ _
   | exact spec_TxPages.mono _ _ _ _
   | exact spec_l09Recs.mono _ _ _ _
   | exact LeO.none _
   | refine LeO.ite ?_ ?_
   | refine LeO.bind ?_ (fun _=>?_)
set_option maxHeartbeats 8000000 in
set_option maxRecDepth 100000 in
theorem spec_l10Found.calls (k : Nat) (g : Nat) (s0_0 : List Int) (s0_1 : Int) (s0_2 : Int) (r1 : List (S36)) (r2 : Int) (r3 : Int) (w0 w : World) (hI : IsS80 w0 w g s0_0 s0_1 s0_2) (hB : Below w0.heap.size w0 w) (h : spec_l10Found.f k s0_0 s0_1 s0_2 = some (r1,r2,r3)) :
  Calls Try.prog 39 #[.pointer (some ⟨g,0,none⟩)] w fun e w'=>∃ v0_ : Value,e = .returned (v0_) ∧ Kd.R k36 36 w' w.heap.size (fun _=>True) v0_ r1 ∧ IsS80 w0 w' g s0_0 r2 r3 ∧ Below w0.heap.size w0 w' ∧ KeepBut w w' g none:=by
 have hu45:=Try.underlying45;have hu33:=Try.underlying33;have hu36:=Try.underlying36;have HI0:=zMk hI;have HK:=zMk (KeepBut.refl w g none);have HL:=zMk hB.size;clear hI;have HW0:=zMk hB.size;have HB:=zMk hB;clear hB;have H : (spec_l10Found.l0 k (([] : List (S36))) 1 1 s0_0 s0_1 s0_2) = some (r1,r2,r3):=h;clear h;obtain ⟨y593,hy593⟩ : ∃ y_ : List (S36),y_ = (([] : List (S36))):=⟨_,rfl⟩;replace H : (spec_l10Found.l0 k y593 1 1 s0_0 s0_1 s0_2) = some (r1,r2,r3):=by first | (rw [hy593];with_reducible exact H) | (have H2_:=(Option.bind_some _ _).symm.trans H;rw [hy593];with_reducible exact H2_) | (have H2_:=(Option.bind_some _ _).symm.trans H;with_reducible exact H2_) | with_reducible exact H | (rw [hy593];exact H) | exact H
 have Ny593:=zMk hy593;clear hy593;have H':=zMk H;clear H
 go_enter Try.func39,Try.ntmps39
 go_wp2_with (first | ((with_reducible refine gate_dst (N:=11) rfl ?_);refine Kd.R_lit k36 _ 36 ?hg (N:=11) ?hd (xs:=([] : List (S36))) (inner:=[]) (ok:=fun _=>True) (okp:=fun _=>True) ?hr ?hp (fun _ hk=>hk) trivial (Below.refl _ _) (Nat.le_refl _) (by simp) ?_;(case hd=>rfl);(case hg=>rfl);(case hr=>first | (go_simp;done) | (go_simp;rfl));(case hp=>exact (Reps.none _ _));intro v594 w2 ho3 hb hg_ hnew_;clear hg_ hnew_;(first | rw [← Ny593.out] at ho3 | (simp only [Int.reduceToNat] at ho3;rw [← Ny593.out] at ho3));have n0_:=zMk (Kd.R_lower ho3 (keep_size (w:=w) (g:=g) (row:=none) (by repeat (first | (with_reducible first | exact HK.out | apply KeepBut.set_ | apply keep_drewN | apply keep_drew | apply keep_alloc) | exact HK.out))));have n1_:=zMk (IsS80.below (by repeat (first | (with_reducible first | exact HI0.out | apply IsS80.alloc | apply IsS80.drewN | apply IsS80.drew | apply IsS80.set_1 | apply IsS80.set_2) | exact HI0.out)) hb);have n2_:=zMk (KeepBut.trans (by repeat (first | (with_reducible first | exact HK.out | apply KeepBut.set_ | apply keep_drewN | apply keep_drew | apply keep_alloc) | exact HK.out)) (KeepBut.of_below hb g none) (.inl rfl));have n3_:=zMk (below_step (by repeat (first | (with_reducible first | exact HB.out | apply below_alloc | apply pw_below_drewN | apply below_drew1 | refine below_set ?_ (IsS80.ge HI0.out)) | exact HB.out)) hb);clear HI0;clear HK;clear HB;have HO595:=n0_;have HI0:=n1_;have HK:=n2_;have HB:=n3_;clear n0_ n1_ n2_ n3_;clear hb ho3));go_loopg [3,4,5] k (fun kq v3 v4 v5 w'=>∃ (x3_1 : List (S36)) (x4_1 : Int) (x5_1 : Int) (x1001_1 : Int) (x1002_1 : Int),v4 = .int .i64 x4_1 ∧ v5 = .int .i64 x5_1 ∧ Aside0 (spec_l10Found.l0 kq x3_1 x4_1 x5_1 s0_0 x1001_1 x1002_1 = some (r1,r2,r3)) ∧ Aside0 (kq ≤ k) ∧ Aside0 (Kd.R k36 36 w' w.heap.size (fun _=>True) v3 x3_1) ∧ Aside0 (IsS80 w0 w' g s0_0 x1001_1 x1002_1) ∧ Aside0 (KeepBut w w' g none) ∧ Aside0 (Below w0.heap.size w0 w'));case atStart=>exact ⟨(y593),(1),(1),(s0_1),(s0_2),(by first | rfl | (simp;done) | (simp [*];done)),(by first | rfl | (simp;done) | (simp [*];done)),H',⟨Nat.le_refl _⟩,⟨rs HO595⟩,⟨by repeat (first | (with_reducible first | exact HI0.out | apply IsS80.alloc | apply IsS80.drewN | apply IsS80.drew | apply IsS80.set_1 | apply IsS80.set_2) | exact HI0.out)⟩,⟨by repeat (first | (with_reducible first | exact HK.out | apply KeepBut.set_ | apply keep_drewN | apply keep_drew | apply keep_alloc) | exact HK.out)⟩,⟨by repeat (first | (with_reducible first | exact HB.out | apply below_alloc | apply pw_below_drewN | apply below_drew1 | refine below_set ?_ (IsS80.ge HI0.out)) | exact HB.out)⟩⟩
 case round =>
  clear H'
  try clear p2
  try clear c3
  obtain ⟨x3_1,x4_1,x5_1,x1001_1,x1002_1,rfl,rfl,HA,HK1,HO_3,HI0,HK,HB⟩:=hrel;cases gk with
  | zero=>exact absurd HA.out (by simp [spec_l10Found.l0])
  | succ k1 =>
   have H:=HA.out;clear HA;simp only [spec_l10Found.l0] at H;replace H:=Option.bind_eq_some_iff.mp H;obtain ⟨⟨t596,t597,t598⟩,A40,H⟩:=H;replace H : (if x5_1 ≤ t596 then ((spec_l09Recs.f k1 s0_0 t597 t598).bind fun bt599=>((spec_l01Once.f s0_0 bt599.2.1 bt599.2.2 4).bind fun bt604=>(if bt604.1 = true then ((some (([(⟨1,0,5,0⟩ : S45)] : List (S45)) : List (S45))).bind fun y607=>(if y607.length + bt599.1.length < 4398046511104 then (spec_l10Found.j1 k1 x3_1 x4_1 x5_1 (y607 ++ bt599.1) s0_0 bt604.2.1 bt604.2.2) else (none))) else (spec_l10Found.j1 k1 x3_1 x4_1 x5_1 bt599.1 s0_0 bt604.2.1 bt604.2.2)))) else (some (x3_1,t597,t598))) = some (r1,r2,r3):=H;have A4:=zMk A40;clear A40
   go_upto_if 15 with (first | ((with_reducible refine gate_callee (f:=29) rfl ?_);refine goesL_ (some 14) rfl rfl Try.func29 (by kernel_rfl) rfl #[.pointer (some ⟨g,0,none⟩),.int .i64 5] rfl (by (try simp only [List.map_toArray,List.map_cons,List.map_nil]);first | done | rfl | (simp only [List.length_drop,List.length_take];rfl)) ?_;(with_reducible refine (spec_l01Below.calls g s0_0 x1001_1 x1002_1 5 t596 t597 t598 w0 _ ?side1 ?side2 A4.out).mono ?_);(case side1=>repeat (first | (with_reducible first | exact HI0.out | apply IsS80.alloc | apply IsS80.drewN | apply IsS80.drew | apply IsS80.set_1 | apply IsS80.set_2) | exact HI0.out));(case side2=>repeat (first | (with_reducible first | exact HB.out | apply below_alloc | apply pw_below_drewN | apply below_drew1 | refine below_set ?_ (IsS80.ge HI0.out)) | exact HB.out));rintro e w9 ⟨rfl,hi,hb,hk⟩;refine ⟨_,rfl,?_⟩;have n0_:=zMk (Kd.R_mono (Kd.R_keep (IsS80.apart (show IsS80 w0 _ g s0_0 x1001_1 x1002_1 from by repeat (first | (with_reducible first | exact HI0.out | apply IsS80.alloc | apply IsS80.drewN | apply IsS80.drew | apply IsS80.set_1 | apply IsS80.set_2) | exact HI0.out)) (rs HO_3) (by decide)) hk (fun _ h=>h.2)) (fun _ h=>h.1));have n1_:=zMk (KeepBut.trans (by repeat (first | (with_reducible first | exact HK.out | apply KeepBut.set_ | apply keep_drewN | apply keep_drew | apply keep_alloc) | exact HK.out)) hk (.inl rfl));have n2_:=zMk (hb);have n3_:=zMk (hi);clear HO_3;clear HK;clear HB;clear HI0;have HO_3:=n0_;have HK:=n1_;have HB:=n2_;have HI0:=n3_;clear n0_ n1_ n2_ n3_;(try clear hb);(try clear hb2);(try clear hk);(try clear hi)))
   (try simp only [Act.put,zS1,zS2,zS3])
   by_cases c5 : x5_1 ≤ t596
   ·rw [if_pos c5] at H;have c5b0 : decide (x5_1 ≤ t596) = true:=decide_eq_true c5;clear c5
    (first | rw [c5b0] | (simp only [i64_w,i32_w];rw [c5b0]) | skip)
    replace H:=Option.bind_eq_some_iff.mp H;obtain ⟨⟨t599,t602,t603⟩,A60,H⟩:=H;replace H : ((spec_l01Once.f s0_0 t602 t603 4).bind fun bt604=>(if bt604.1 = true then ((some (([(⟨1,0,5,0⟩ : S45)] : List (S45)) : List (S45))).bind fun y607=>(if y607.length + t599.length < 4398046511104 then (spec_l10Found.j1 k1 x3_1 x4_1 x5_1 (y607 ++ t599) s0_0 bt604.2.1 bt604.2.2) else (none))) else (spec_l10Found.j1 k1 x3_1 x4_1 x5_1 t599 s0_0 bt604.2.1 bt604.2.2))) = some (r1,r2,r3):=H;have A6:=zMk A60;clear A60;replace H:=Option.bind_eq_some_iff.mp H;obtain ⟨⟨t604,t605,t606⟩,A70,H⟩:=H;replace H : (if t604 = true then ((some (([(⟨1,0,5,0⟩ : S45)] : List (S45)) : List (S45))).bind fun y607=>(if y607.length + t599.length < 4398046511104 then (spec_l10Found.j1 k1 x3_1 x4_1 x5_1 (y607 ++ t599) s0_0 t605 t606) else (none))) else (spec_l10Found.j1 k1 x3_1 x4_1 x5_1 t599 s0_0 t605 t606)) = some (r1,r2,r3):=H;have A7:=zMk A70;clear A70;have HC8:=zMk H;clear H
    go_upto_if 21 with (first | ((with_reducible refine gate_callee (f:=27) rfl ?_);refine goesL_ (some 19) rfl rfl Try.func27 (by kernel_rfl) rfl #[.pointer (some ⟨g,0,none⟩)] rfl (by (try simp only [List.map_toArray,List.map_cons,List.map_nil]);first | done | rfl | (simp only [List.length_drop,List.length_take];rfl)) ?_;(with_reducible refine (spec_l09Recs.calls k1 g s0_0 t597 t598 t599 t602 t603 w0 _ ?side1 ?side2 A6.out).mono ?_);(case side1=>repeat (first | (with_reducible first | exact HI0.out | apply IsS80.alloc | apply IsS80.drewN | apply IsS80.drew | apply IsS80.set_1 | apply IsS80.set_2) | exact HI0.out));(case side2=>repeat (first | (with_reducible first | exact HB.out | apply below_alloc | apply pw_below_drewN | apply below_drew1 | refine below_set ?_ (IsS80.ge HI0.out)) | exact HB.out));rintro e w10 ⟨v600,rfl,ho0,hi,hb,hk⟩;refine ⟨_,rfl,?_⟩;have n0_:=zMk (Kd.R_mono (Kd.R_keep (IsS80.apart (show IsS80 w0 _ g s0_0 t597 t598 from by repeat (first | (with_reducible first | exact HI0.out | apply IsS80.alloc | apply IsS80.drewN | apply IsS80.drew | apply IsS80.set_1 | apply IsS80.set_2) | exact HI0.out)) (rs HO_3) (by decide)) hk (fun _ h=>h.2)) (fun _ h=>h.1));have n1_:=zMk (Kd.R_lower ho0 (keep_size (w:=w) (g:=g) (row:=none) (by repeat (first | (with_reducible first | exact HK.out | apply KeepBut.set_ | apply keep_drewN | apply keep_drew | apply keep_alloc) | exact HK.out))));have n2_:=zMk (KeepBut.trans (by repeat (first | (with_reducible first | exact HK.out | apply KeepBut.set_ | apply keep_drewN | apply keep_drew | apply keep_alloc) | exact HK.out)) hk (.inl rfl));have n3_:=zMk (hb);have n4_:=zMk (hi);clear HO_3;clear HK;clear HB;clear HI0;have HO_3:=n0_;have HO601:=n1_;have HK:=n2_;have HB:=n3_;have HI0:=n4_;clear n0_ n1_ n2_ n3_ n4_;(try clear hb);(try clear hb2);(try clear hk);(try clear hi);(try clear ho0)) | ((with_reducible refine gate_callee (f:=28) rfl ?_);refine goesL_ (some 21) rfl rfl Try.func28 (by kernel_rfl) rfl #[.pointer (some ⟨g,0,none⟩),.int .i64 4] rfl (by (try simp only [List.map_toArray,List.map_cons,List.map_nil]);first | done | rfl | (simp only [List.length_drop,List.length_take];rfl)) ?_;(with_reducible refine (spec_l01Once.calls g s0_0 t602 t603 4 t604 t605 t606 w0 _ ?side1 ?side2 A7.out).mono ?_);(case side1=>repeat (first | (with_reducible first | exact HI0.out | apply IsS80.alloc | apply IsS80.drewN | apply IsS80.drew | apply IsS80.set_1 | apply IsS80.set_2) | exact HI0.out));(case side2=>repeat (first | (with_reducible first | exact HB.out | apply below_alloc | apply pw_below_drewN | apply below_drew1 | refine below_set ?_ (IsS80.ge HI0.out)) | exact HB.out));rintro e w11 ⟨rfl,hi,hb,hk⟩;refine ⟨_,rfl,?_⟩;have n0_:=zMk (Kd.R_mono (Kd.R_keep (IsS80.apart (show IsS80 w0 _ g s0_0 t602 t603 from by repeat (first | (with_reducible first | exact HI0.out | apply IsS80.alloc | apply IsS80.drewN | apply IsS80.drew | apply IsS80.set_1 | apply IsS80.set_2) | exact HI0.out)) (rs HO_3) (by decide)) hk (fun _ h=>h.2)) (fun _ h=>h.1));have n1_:=zMk (Kd.R_mono (Kd.R_keep (IsS80.apart (show IsS80 w0 _ g s0_0 t602 t603 from by repeat (first | (with_reducible first | exact HI0.out | apply IsS80.alloc | apply IsS80.drewN | apply IsS80.drew | apply IsS80.set_1 | apply IsS80.set_2) | exact HI0.out)) (rs HO601) (by decide)) hk (fun _ h=>h.2)) (fun _ h=>h.1));have n2_:=zMk (KeepBut.trans (by repeat (first | (with_reducible first | exact HK.out | apply KeepBut.set_ | apply keep_drewN | apply keep_drew | apply keep_alloc) | exact HK.out)) hk (.inl rfl));have n3_:=zMk (hb);have n4_:=zMk (hi);clear HO_3;clear HO601;clear HK;clear HB;clear HI0;have HO_3:=n0_;have HO601:=n1_;have HK:=n2_;have HB:=n3_;have HI0:=n4_;clear n0_ n1_ n2_ n3_ n4_;(try clear hb);(try clear hb2);(try clear hk);(try clear hi)))
    (try simp only [Act.put,zS1,zS2,zS3])
    go_cut [6] (fun v6 wc=>∃ (kq : Nat) (x6_7 : List (S45)),Aside0 (spec_l10Found.j1 kq x3_1 x4_1 x5_1 x6_7 s0_0 t605 t606 = some (r1,r2,r3)) ∧ Aside0 (kq ≤ k1) ∧ Aside0 (Kd.R k36 36 wc w.heap.size (fun _=>True) u3 x3_1) ∧ Aside0 (Kd.R k45 45 wc w.heap.size (fun _=>True) v6 x6_7) ∧ Aside0 (IsS80 w0 wc g s0_0 t605 t606) ∧ Aside0 (KeepBut w wc g none) ∧ Aside0 (Below w0.heap.size w0 wc))
    case first =>
     have H:=HC8.out;clear HC8
     by_cases c12 : t604 = true
     ·subst c12;have H1 : ((some (([(⟨1,0,5,0⟩ : S45)] : List (S45)) : List (S45))).bind fun y607=>(if y607.length + t599.length < 4398046511104 then (spec_l10Found.j1 k1 x3_1 x4_1 x5_1 (y607 ++ t599) s0_0 t605 t606) else (none))) = some (r1,r2,r3):=by rw [if_pos rfl] at H;exact H
      clear H;have H:=H1;clear H1;obtain ⟨y607,hy607⟩ : ∃ y_ : List (S45),y_ = (([(⟨1,0,5,0⟩ : S45)] : List (S45))):=⟨_,rfl⟩;replace H : (if y607.length + t599.length < 4398046511104 then (spec_l10Found.j1 k1 x3_1 x4_1 x5_1 (y607 ++ t599) s0_0 t605 t606) else (none)) = some (r1,r2,r3):=by first | (rw [hy607];with_reducible exact H) | (have H2_:=(Option.bind_some _ _).symm.trans H;rw [hy607];with_reducible exact H2_) | (have H2_:=(Option.bind_some _ _).symm.trans H;with_reducible exact H2_) | with_reducible exact H | (rw [hy607];exact H) | exact H
      have Ny607:=zMk hy607;clear hy607
      by_cases c13 : y607.length + t599.length < 4398046511104
      ·rw [if_pos c13] at H;have LMc13:=zMk c13;clear c13;obtain ⟨y610,hy610⟩ : ∃ y_ : List (S45),y_ = (y607 ++ t599):=⟨_,rfl⟩;replace H : (spec_l10Found.j1 k1 x3_1 x4_1 x5_1 y610 s0_0 t605 t606) = some (r1,r2,r3):=by first | (rw [hy610];with_reducible exact H) | (have H2_:=(Option.bind_some _ _).symm.trans H;rw [hy610];with_reducible exact H2_) | (have H2_:=(Option.bind_some _ _).symm.trans H;with_reducible exact H2_) | with_reducible exact H | (rw [hy610];exact H) | exact H
       have Ny610:=zMk hy610;clear hy610;have H':=zMk H;clear H;go_wp2_with (first | ((with_reducible refine gate_dst (N:=23) rfl ?_);refine Kd.R_lit k45 _ 45 ?hg (N:=23) ?hd (xs:=([(⟨1,0,5,0⟩ : S45)] : List (S45))) (inner:=[.int .i64 1,.int .i64 0,.int .i64 5,.int .i64 0]) (ok:=fun _=>True) (okp:=fun _=>True) ?hr ?hp (fun _ hk=>hk) trivial (Below.refl _ _) (Nat.le_refl _) (by simp) ?_;(case hd=>rfl);(case hg=>rfl);(case hr=>first | (go_simp;done) | (go_simp;rfl));(case hp=>exact (Reps.c4 (show Kd.M k45 _ _ _ (⟨1,0,5,0⟩ : S45) [.int .i64 1,.int .i64 0,.int .i64 5,.int .i64 0] from (k45_mkM _ _ _ (⟨1,0,5,0⟩ : S45) )) (Reps.none _ _)));intro v608 w14 ho15 hb hg_ hnew_;clear hg_ hnew_;(first | rw [← Ny607.out] at ho15 | (simp only [Int.reduceToNat] at ho15;rw [← Ny607.out] at ho15));have n0_:=zMk (Kd.R_below (rs HO_3) hb);have n1_:=zMk (Kd.R_elder' (rs HO601) (Kd.R_base ho15) hb);have n2_:=zMk (Kd.R_lower (Kd.R_new' ho15 (Kd.R_lt (rs HO601))) (keep_size (w:=w) (g:=g) (row:=none) (by repeat (first | (with_reducible first | exact HK.out | apply KeepBut.set_ | apply keep_drewN | apply keep_drew | apply keep_alloc) | exact HK.out))));have n3_:=zMk (IsS80.below (by repeat (first | (with_reducible first | exact HI0.out | apply IsS80.alloc | apply IsS80.drewN | apply IsS80.drew | apply IsS80.set_1 | apply IsS80.set_2) | exact HI0.out)) hb);have n4_:=zMk (KeepBut.trans (by repeat (first | (with_reducible first | exact HK.out | apply KeepBut.set_ | apply keep_drewN | apply keep_drew | apply keep_alloc) | exact HK.out)) (KeepBut.of_below hb g none) (.inl rfl));have n5_:=zMk (below_step (by repeat (first | (with_reducible first | exact HB.out | apply below_alloc | apply pw_below_drewN | apply below_drew1 | refine below_set ?_ (IsS80.ge HI0.out)) | exact HB.out)) hb);clear HO_3;clear HO601;clear HI0;clear HK;clear HB;have HO_3:=n0_;have HO601:=n1_;have HO609:=n2_;have HI0:=n3_;have HK:=n4_;have HB:=n5_;clear n0_ n1_ n2_ n3_ n4_ n5_;clear hb ho15;obtain ⟨Ao17,co17,eo17⟩:=Kd.R_slice HO601.out;subst eo17) | ((with_reducible refine gate_builtin (b:=.append) (xs:=#[(.tmp 23),.tmp 24]) rfl ?_);at_builtin;refine Kd.R_append_rows k45 w.heap.size rfl (.tmp 23) (.tmp 24) 24 45 (.agg #[(.int .i64 0),(.int .i64 0),(.int .i64 0),(.int .i64 0)]) 32 rfl Try.underlying24 info45 rfl (by decide) (by omega) v608 y607 t599 _ _ _ (fun k_=>some k_ ≠ (.slice Ao17 t599.length co17 : Value).ownBlock) (fun _=>False) rfl rfl ?aO ?aR (fun _ _ h=>h) (fun _ h=>h.elim) ?aF (Below.refl _ _) ?aS ?aL ?_;(case aR=>repeat (first | exact (Kd.R_reads' HO601.out).2.2 | (with_reducible refine Kd.C_alloc ?_ _) | (with_reducible refine Kd.C_drewN ?_ _) | (with_reducible refine Kd.C_drew ?_)));(case aF=>exact (fun k_ hk=>Kd.fresh' (Kd.R_lt (rs HO601)) k_ hk));(case aO=>exact (by (with_reducible repeat (first | apply Kd.R_alloc | apply Kd.R_drewN | apply Kd.R_drew));exact Kd.R_mono HO609.out (fun _ hk=>hk.2)));(case aS=>exact (keep_size (w:=w) (g:=g) (row:=none) (by repeat (first | (with_reducible first | exact HK.out | apply KeepBut.set_ | apply keep_drewN | apply keep_drew | apply keep_alloc) | exact HK.out))));(case aL=>have:=LMc13.out;omega);intro v611 w16 ho hb hg hat;rw [← Ny610.out] at ho;have n0_:=zMk (Kd.R_over' (rs HO_3) (Kd.R_typed (rs HO609)) (by decide) hg);have n1_:=zMk (IsS80.grown (by repeat (first | (with_reducible first | exact HI0.out | apply IsS80.alloc | apply IsS80.drewN | apply IsS80.drew | apply IsS80.set_1 | apply IsS80.set_2) | exact HI0.out)) hg (IsS80.own_ne HI0.out HO609.out (by decide)));have n2_:=zMk (Kd.R_after (ok:=(fun _=>True)) (rs HO601) hg hat);have n3_:=zMk (below_weaken (by repeat (first | (with_reducible first | exact HB.out | apply below_alloc | apply pw_below_drewN | apply below_drew1 | refine below_set ?_ (IsS80.ge HI0.out)) | exact HB.out)) HL.out hb);have n4_:=zMk (KeepBut.trans (by repeat (first | (with_reducible first | exact HK.out | apply KeepBut.set_ | apply keep_drewN | apply keep_drew | apply keep_alloc) | exact HK.out)) (KeepBut.of_grown hg g) (Kd.R_base2 HO609.out));have n5_:=zMk (ho);clear HO_3;clear HI0;clear HO601;clear HB;clear HK;clear HO609;have HO_3:=n0_;have HI0:=n1_;have HO601:=n2_;have HB:=n3_;have HK:=n4_;have HO612:=n5_;clear n0_ n1_ n2_ n3_ n4_ n5_;clear ho hb hg hat))
       go_meet
       case rel=>exact ⟨_,(y610),H',⟨by have:=HK1.out;first | omega | exact Nat.le_refl _⟩,⟨rs HO_3⟩,⟨by (with_reducible repeat (first | apply Kd.R_alloc | apply Kd.R_drewN | apply Kd.R_drew));exact Kd.R_mono HO612.out (fun _ hk=>trivial)⟩,⟨by repeat (first | (with_reducible first | exact HI0.out | apply IsS80.alloc | apply IsS80.drewN | apply IsS80.drew | apply IsS80.set_1 | apply IsS80.set_2) | exact HI0.out)⟩,⟨by repeat (first | (with_reducible first | exact HK.out | apply KeepBut.set_ | apply keep_drewN | apply keep_drew | apply keep_alloc) | exact HK.out)⟩,⟨by repeat (first | (with_reducible first | exact HB.out | apply below_alloc | apply pw_below_drewN | apply below_drew1 | refine below_set ?_ (IsS80.ge HI0.out)) | exact HB.out)⟩⟩
      rw [if_neg c13] at H;exact absurd H (by simp)
     replace c12:=Bool.eq_false_iff.mpr c12;subst c12;have H1 : (spec_l10Found.j1 k1 x3_1 x4_1 x5_1 t599 s0_0 t605 t606) = some (r1,r2,r3):=by rw [if_neg (show ¬ (false = true) by decide)] at H;exact H
     clear H;have H:=H1;clear H1;have H':=zMk H;clear H
     go_wp2
     go_meet
     case rel=>exact ⟨_,(t599),H',⟨by have:=HK1.out;first | omega | exact Nat.le_refl _⟩,⟨rs HO_3⟩,⟨rs HO601⟩,⟨by repeat (first | (with_reducible first | exact HI0.out | apply IsS80.alloc | apply IsS80.drewN | apply IsS80.drew | apply IsS80.set_1 | apply IsS80.set_2) | exact HI0.out)⟩,⟨by repeat (first | (with_reducible first | exact HK.out | apply KeepBut.set_ | apply keep_drewN | apply keep_drew | apply keep_alloc) | exact HK.out)⟩,⟨by repeat (first | (with_reducible first | exact HB.out | apply below_alloc | apply pw_below_drewN | apply below_drew1 | refine below_set ?_ (IsS80.ge HI0.out)) | exact HB.out)⟩⟩
    case rest =>
     clear HC8
     try clear c1
     try clear c2
     try clear p2
     try clear c3
     try clear c4
     try clear c5
     try clear c5b0
     try clear c12
     try clear c13
     try clear p2
     obtain ⟨kq,x6_7,HA,HJ7,HO_3,HO_6,HI0,HK,HB⟩:=hcut;cases kq with
     | zero=>exact absurd HA.out (by simp [spec_l10Found.j1])
     | succ kj7 =>
      have H:=HA.out;clear HA;simp only [spec_l10Found.j1] at H;replace H:=Option.bind_eq_some_iff.mp H;obtain ⟨⟨t613,t614,t615⟩,A180,H⟩:=H;replace H : (if t613 = true then (spec_l10Found.l1 kj7 x3_1 x4_1 x5_1 x6_7 s0_0 t614 t615) else (spec_l10Found.j3 kj7 x3_1 x4_1 x5_1 x6_7 s0_0 t614 t615)) = some (r1,r2,r3):=H;have A18:=zMk A180;clear A180;have HC19:=zMk H;clear H
      go_upto_if 27 with (first | ((with_reducible refine gate_callee (f:=28) rfl ?_);refine goesL_ (some 27) rfl rfl Try.func28 (by kernel_rfl) rfl #[.pointer (some ⟨g,0,none⟩),.int .i64 3] rfl (by (try simp only [List.map_toArray,List.map_cons,List.map_nil]);first | done | rfl | (simp only [List.length_drop,List.length_take];rfl)) ?_;(with_reducible refine (spec_l01Once.calls g s0_0 t605 t606 3 t613 t614 t615 w0 _ ?side1 ?side2 A18.out).mono ?_);(case side1=>repeat (first | (with_reducible first | exact HI0.out | apply IsS80.alloc | apply IsS80.drewN | apply IsS80.drew | apply IsS80.set_1 | apply IsS80.set_2) | exact HI0.out));(case side2=>repeat (first | (with_reducible first | exact HB.out | apply below_alloc | apply pw_below_drewN | apply below_drew1 | refine below_set ?_ (IsS80.ge HI0.out)) | exact HB.out));rintro e w20 ⟨rfl,hi,hb,hk⟩;refine ⟨_,rfl,?_⟩;have n0_:=zMk (Kd.R_mono (Kd.R_keep (IsS80.apart (show IsS80 w0 _ g s0_0 t605 t606 from by repeat (first | (with_reducible first | exact HI0.out | apply IsS80.alloc | apply IsS80.drewN | apply IsS80.drew | apply IsS80.set_1 | apply IsS80.set_2) | exact HI0.out)) (rs HO_3) (by decide)) hk (fun _ h=>h.2)) (fun _ h=>h.1));have n1_:=zMk (Kd.R_mono (Kd.R_keep (IsS80.apart (show IsS80 w0 _ g s0_0 t605 t606 from by repeat (first | (with_reducible first | exact HI0.out | apply IsS80.alloc | apply IsS80.drewN | apply IsS80.drew | apply IsS80.set_1 | apply IsS80.set_2) | exact HI0.out)) (rs HO_6) (by decide)) hk (fun _ h=>h.2)) (fun _ h=>h.1));have n2_:=zMk (KeepBut.trans (by repeat (first | (with_reducible first | exact HK.out | apply KeepBut.set_ | apply keep_drewN | apply keep_drew | apply keep_alloc) | exact HK.out)) hk (.inl rfl));have n3_:=zMk (hb);have n4_:=zMk (hi);clear HO_3;clear HO_6;clear HK;clear HB;clear HI0;have HO_3:=n0_;have HO_6:=n1_;have HK:=n2_;have HB:=n3_;have HI0:=n4_;clear n0_ n1_ n2_ n3_ n4_;(try clear hb);(try clear hb2);(try clear hk);(try clear hi)))
      (try simp only [Act.put,zS1,zS2,zS3])
      go_cut [6] (fun v6 wc=>∃ (kq : Nat) (x6_18 : List (S45)),Aside0 (spec_l10Found.j3 kq x3_1 x4_1 x5_1 x6_18 s0_0 t614 t615 = some (r1,r2,r3)) ∧ Aside0 (kq ≤ kj7) ∧ Aside0 (Kd.R k36 36 wc w.heap.size (fun _=>True) u3 x3_1) ∧ Aside0 (Kd.R k45 45 wc w.heap.size (fun _=>True) v6 x6_18) ∧ Aside0 (IsS80 w0 wc g s0_0 t614 t615) ∧ Aside0 (KeepBut w wc g none) ∧ Aside0 (Below w0.heap.size w0 wc))
      case first =>
       have H:=HC19.out;clear HC19
       by_cases c21 : t613 = true
       ·subst c21;have H1 : (spec_l10Found.l1 kj7 x3_1 x4_1 x5_1 x6_7 s0_0 t614 t615) = some (r1,r2,r3):=by rw [if_pos rfl] at H;exact H
        clear H;have H:=H1;clear H1;have H':=zMk H;clear H
        go_wp2
        go_loopg [6] kj7 (fun kq v6 w'=>∃ (x6_3 : List (S45)),Aside0 (spec_l10Found.l1 kq x3_1 x4_1 x5_1 x6_3 s0_0 t614 t615 = some (r1,r2,r3)) ∧ Aside0 (kq ≤ kj7) ∧ Aside0 (Kd.R k36 36 w' w.heap.size (fun _=>True) u3 x3_1) ∧ Aside0 (Kd.R k45 45 w' w.heap.size (fun _=>True) v6 x6_3) ∧ Aside0 (IsS80 w0 w' g s0_0 t614 t615) ∧ Aside0 (KeepBut w w' g none) ∧ Aside0 (Below w0.heap.size w0 w'));case atStart=>exact ⟨(x6_7),H',⟨Nat.le_refl _⟩,⟨rs HO_3⟩,⟨rs HO_6⟩,⟨by repeat (first | (with_reducible first | exact HI0.out | apply IsS80.alloc | apply IsS80.drewN | apply IsS80.drew | apply IsS80.set_1 | apply IsS80.set_2) | exact HI0.out)⟩,⟨by repeat (first | (with_reducible first | exact HK.out | apply KeepBut.set_ | apply keep_drewN | apply keep_drew | apply keep_alloc) | exact HK.out)⟩,⟨by repeat (first | (with_reducible first | exact HB.out | apply below_alloc | apply pw_below_drewN | apply below_drew1 | refine below_set ?_ (IsS80.ge HI0.out)) | exact HB.out)⟩⟩
        case round =>
         clear H'
         try clear c1
         try clear c2
         try clear p2
         try clear c3
         try clear c4
         try clear c5
         try clear c5b0
         try clear c12
         try clear c13
         try clear c21
         try clear p2
         obtain ⟨x6_3,HA,HK3,HO_3,HO_6,HI0,HK,HB⟩:=hrel;cases gk with
         | zero=>exact absurd HA.out (by simp [spec_l10Found.l1])
         | succ k3 =>
          have H:=HA.out;clear HA;simp only [spec_l10Found.l1] at H
          by_cases c22 : (x6_3.length : Int) < 60
          ·rw [if_pos c22] at H;have c22b0 : decide ((x6_3.length : Int) < 60) = true:=decide_eq_true c22;have c22b1 : decide (x6_3.length < 60) = true:=decide_eq_true (by omega);clear c22
           (first | rw [c22b0] | (simp only [i64_w,i32_w];rw [c22b0]) | skip)
           by_cases c23 : x6_3.length < 4398046511104
           ·rw [if_pos c23] at H;have LMc23:=zMk c23;clear c23;obtain ⟨y616,hy616⟩ : ∃ y_ : List (S45),y_ = (x6_3 ++ [(⟨4,1,3,wrap64 (200 + (x6_3.length : Int))⟩ : S45)]):=⟨_,rfl⟩;replace H : (spec_l10Found.l1 k3 x3_1 x4_1 x5_1 y616 s0_0 t614 t615) = some (r1,r2,r3):=by first | (rw [hy616];with_reducible exact H) | (have H2_:=(Option.bind_some _ _).symm.trans H;rw [hy616];with_reducible exact H2_) | (have H2_:=(Option.bind_some _ _).symm.trans H;with_reducible exact H2_) | with_reducible exact H | (rw [hy616];exact H) | exact H
            have Ny616:=zMk hy616;clear hy616;have H':=zMk H;clear H;obtain ⟨Ao24,co24,eo24⟩:=Kd.R_slice HO_6.out;subst eo24;go_wp2_with (first | ((with_reducible refine gate_builtin (b:=.append) (xs:=#[.tmp 31,.tmp 36]) rfl ?_);at_builtin;refine Kd.R_append k45 w.heap.size rfl (.tmp 31) (.tmp 36) 24 45 (.agg #[(.int .i64 0),(.int .i64 0),(.int .i64 0),(.int .i64 0)]) 32 rfl Try.underlying24 info45 rfl (by decide) (by omega) (.slice Ao24 x6_3.length co24) x6_3 (⟨4,1,3,wrap64 (200 + (x6_3.length : Int))⟩ : S45) [.int .i64 4,.int .i64 1,.int .i64 3,.int .i64 (wrap64 (200 + (x6_3.length : Int)))] (fun _=>True) (fun _=>False) rfl rfl ?aP (fun _ hk=>hk.elim) ?aF ?aO (Below.refl _ _) ?aS ?aL ?_;(case aP=>exact k45_mkM _ _ _ (⟨4,1,3,wrap64 (200 + (x6_3.length : Int))⟩ : S45));(case aF=>exact (fun _ _=>trivial));(case aO=>exact (rs HO_6));(case aS=>exact (keep_size (w:=w) (g:=g) (row:=none) (by repeat (first | (with_reducible first | exact HK.out | apply KeepBut.set_ | apply keep_drewN | apply keep_drew | apply keep_alloc) | exact HK.out))));(case aL=>have:=LMc23.out;omega);intro v617 w25 ho hb hg hat;rw [← Ny616.out] at ho;have n0_:=zMk (Kd.R_over' (rs HO_3) (Kd.R_typed (rs HO_6)) (by decide) hg);have n1_:=zMk (IsS80.grown (by repeat (first | (with_reducible first | exact HI0.out | apply IsS80.alloc | apply IsS80.drewN | apply IsS80.drew | apply IsS80.set_1 | apply IsS80.set_2) | exact HI0.out)) hg (IsS80.own_ne HI0.out HO_6.out (by decide)));have n2_:=zMk (below_weaken (by repeat (first | (with_reducible first | exact HB.out | apply below_alloc | apply pw_below_drewN | apply below_drew1 | refine below_set ?_ (IsS80.ge HI0.out)) | exact HB.out)) HL.out hb);have n3_:=zMk (KeepBut.trans (by repeat (first | (with_reducible first | exact HK.out | apply KeepBut.set_ | apply keep_drewN | apply keep_drew | apply keep_alloc) | exact HK.out)) (KeepBut.of_grown hg g) (Kd.R_base2 HO_6.out));have n4_:=zMk (ho);clear HO_3;clear HI0;clear HB;clear HK;clear HO_6;have HO_3:=n0_;have HI0:=n1_;have HB:=n2_;have HK:=n3_;have HO618:=n4_;clear n0_ n1_ n2_ n3_ n4_;clear ho hb hg hat));go_roundg k3;case measure=>have:=HK1.out;have:=HJ7.out;have:=HK3.out;omega
            case rel=>exact ⟨(y616),H',⟨by have:=HK1.out;have:=HJ7.out;have:=HK3.out;omega⟩,⟨rs HO_3⟩,⟨rs HO618⟩,⟨by repeat (first | (with_reducible first | exact HI0.out | apply IsS80.alloc | apply IsS80.drewN | apply IsS80.drew | apply IsS80.set_1 | apply IsS80.set_2) | exact HI0.out)⟩,⟨by repeat (first | (with_reducible first | exact HK.out | apply KeepBut.set_ | apply keep_drewN | apply keep_drew | apply keep_alloc) | exact HK.out)⟩,⟨by repeat (first | (with_reducible first | exact HB.out | apply below_alloc | apply pw_below_drewN | apply below_drew1 | refine below_set ?_ (IsS80.ge HI0.out)) | exact HB.out)⟩⟩
           rw [if_neg c23] at H;exact absurd H (by simp)
          rw [if_neg c22] at H;have c22b0 : decide ((x6_3.length : Int) < 60) = false:=decide_eq_false c22;have c22b1 : decide (x6_3.length < 60) = false:=decide_eq_false (by omega);clear c22
          (first | rw [c22b0] | (simp only [i64_w,i32_w];rw [c22b0]) | skip)
          have H':=zMk H;clear H;obtain ⟨Ao26,co26,eo26⟩:=Kd.R_slice HO_6.out;subst eo26
          go_wp2
          go_meet
          case rel=>exact ⟨_,(x6_3),H',⟨by have:=HK1.out;have:=HJ7.out;have:=HK3.out;first | omega | exact Nat.le_refl _⟩,⟨rs HO_3⟩,⟨rs HO_6⟩,⟨by repeat (first | (with_reducible first | exact HI0.out | apply IsS80.alloc | apply IsS80.drewN | apply IsS80.drew | apply IsS80.set_1 | apply IsS80.set_2) | exact HI0.out)⟩,⟨by repeat (first | (with_reducible first | exact HK.out | apply KeepBut.set_ | apply keep_drewN | apply keep_drew | apply keep_alloc) | exact HK.out)⟩,⟨by repeat (first | (with_reducible first | exact HB.out | apply below_alloc | apply pw_below_drewN | apply below_drew1 | refine below_set ?_ (IsS80.ge HI0.out)) | exact HB.out)⟩⟩
       replace c21:=Bool.eq_false_iff.mpr c21;subst c21;have H1 : (spec_l10Found.j3 kj7 x3_1 x4_1 x5_1 x6_7 s0_0 t614 t615) = some (r1,r2,r3):=by rw [if_neg (show ¬ (false = true) by decide)] at H;exact H
       clear H;have H:=H1;clear H1;have H':=zMk H;clear H
       go_wp2
       go_meet
       case rel=>exact ⟨_,(x6_7),H',⟨by have:=HK1.out;have:=HJ7.out;first | omega | exact Nat.le_refl _⟩,⟨rs HO_3⟩,⟨rs HO_6⟩,⟨by repeat (first | (with_reducible first | exact HI0.out | apply IsS80.alloc | apply IsS80.drewN | apply IsS80.drew | apply IsS80.set_1 | apply IsS80.set_2) | exact HI0.out)⟩,⟨by repeat (first | (with_reducible first | exact HK.out | apply KeepBut.set_ | apply keep_drewN | apply keep_drew | apply keep_alloc) | exact HK.out)⟩,⟨by repeat (first | (with_reducible first | exact HB.out | apply below_alloc | apply pw_below_drewN | apply below_drew1 | refine below_set ?_ (IsS80.ge HI0.out)) | exact HB.out)⟩⟩
      case rest =>
       clear HC19
       try clear c1
       try clear c2
       try clear p2
       try clear c3
       try clear c4
       try clear c5
       try clear c5b0
       try clear p6
       try clear c12
       try clear c13
       try clear c21
       try clear c22
       try clear c22b0
       try clear c22b1
       try clear c23
       try clear p2
       obtain ⟨kq,x6_18,HA,HJ18,HO_3,HO_6,HI0,HK,HB⟩:=hcut;cases kq with
       | zero=>exact absurd HA.out (by simp [spec_l10Found.j3])
       | succ kj18 =>
        have H:=HA.out;clear HA;simp only [spec_l10Found.j3] at H;replace H:=Option.bind_eq_some_iff.mp H;obtain ⟨⟨t619,t620⟩,A270,H⟩:=H;replace H : (spec_l10Found.l2 kj18 x3_1 x4_1 x5_1 t619 0 s0_0 t614 t615) = some (r1,r2,r3):=H;have A27:=zMk A270;clear A270;have H':=zMk H;clear H;obtain ⟨Ao28,co28,eo28⟩:=Kd.R_slice HO_6.out;subst eo28;go_wp2_with (first | ((with_reducible refine gate_callee (f:=11) rfl ?_);refine goesL_ (some 42) rfl rfl Try.func11 (by kernel_rfl) rfl #[.int .i64 x4_1,.int .i64 x5_1,.slice Ao28 x6_18.length co28] rfl (by (try simp only [List.map_toArray,List.map_cons,List.map_nil]);first | done | rfl | (simp only [List.length_drop,List.length_take];rfl)) ?_;(with_reducible refine (spec_TxPages.calls kj18 x4_1 x5_1 _ _ x6_18 t619 t620 _ ?side1 ?side2 A27.out).mono ?_);(case side1=>repeat (first | exact (Kd.R_reads' HO_6.out).2.2 | (with_reducible refine Kd.C_alloc ?_ _) | (with_reducible refine Kd.C_drewN ?_ _) | (with_reducible refine Kd.C_drew ?_)));(case side2=>exact (Kd.R_reads' HO_6.out).2.1);rintro e w29 ⟨v621,rfl,ho0,hb⟩;refine ⟨_,rfl,?_⟩;have n0_:=zMk (Kd.R_below (rs HO_3) hb);have n1_:=zMk (Kd.R_below (rs HO_6) hb);have n2_:=zMk (Kd.R_lower ho0 (keep_size (w:=w) (g:=g) (row:=none) (by repeat (first | (with_reducible first | exact HK.out | apply KeepBut.set_ | apply keep_drewN | apply keep_drew | apply keep_alloc) | exact HK.out))));have n3_:=zMk (IsS80.below (by repeat (first | (with_reducible first | exact HI0.out | apply IsS80.alloc | apply IsS80.drewN | apply IsS80.drew | apply IsS80.set_1 | apply IsS80.set_2) | exact HI0.out)) hb);have n4_:=zMk (KeepBut.trans (by repeat (first | (with_reducible first | exact HK.out | apply KeepBut.set_ | apply keep_drewN | apply keep_drew | apply keep_alloc) | exact HK.out)) (KeepBut.of_below hb g none) (.inl rfl));have n5_:=zMk (below_step (by repeat (first | (with_reducible first | exact HB.out | apply below_alloc | apply pw_below_drewN | apply below_drew1 | refine below_set ?_ (IsS80.ge HI0.out)) | exact HB.out)) hb);clear HO_3;clear HO_6;clear HI0;clear HK;clear HB;have HO_3:=n0_;have HO_6:=n1_;have HO622:=n2_;have HI0:=n3_;have HK:=n4_;have HB:=n5_;clear n0_ n1_ n2_ n3_ n4_ n5_;(try clear hb);(try clear hb2);(try clear hk);(try clear hi);(try clear ho0)));go_loopg [3,4,9] kj18 (fun kq v3 v4 v9 w'=>∃ (x3_4 : List (S36)) (x4_4 : Int) (x9_4 : Int) (x1001_4 : Int) (x1002_4 : Int),v4 = .int .i64 x4_4 ∧ v9 = .int .i64 x9_4 ∧ Aside0 (spec_l10Found.l2 kq x3_4 x4_4 x5_1 t619 x9_4 s0_0 x1001_4 x1002_4 = some (r1,r2,r3)) ∧ Aside0 (kq ≤ kj18) ∧ Aside0 (Kd.R k36 36 w' w.heap.size (fun _=>True) v3 x3_4) ∧ Aside0 (Kd.R k33 33 w' w.heap.size (fun _=>True) v621 t619) ∧ Aside0 (IsS80 w0 w' g s0_0 x1001_4 x1002_4) ∧ Aside0 (KeepBut w w' g none) ∧ Aside0 (Below w0.heap.size w0 w'));case atStart=>exact ⟨(x3_1),(x4_1),(0),(t614),(t615),(by first | rfl | (simp;done) | (simp [*];done)),(by first | rfl | (simp;done) | (simp [*];done)),H',⟨Nat.le_refl _⟩,⟨rs HO_3⟩,⟨rs HO622⟩,⟨by repeat (first | (with_reducible first | exact HI0.out | apply IsS80.alloc | apply IsS80.drewN | apply IsS80.drew | apply IsS80.set_1 | apply IsS80.set_2) | exact HI0.out)⟩,⟨by repeat (first | (with_reducible first | exact HK.out | apply KeepBut.set_ | apply keep_drewN | apply keep_drew | apply keep_alloc) | exact HK.out)⟩,⟨by repeat (first | (with_reducible first | exact HB.out | apply below_alloc | apply pw_below_drewN | apply below_drew1 | refine below_set ?_ (IsS80.ge HI0.out)) | exact HB.out)⟩⟩
        case round =>
         clear H'
         try clear c1
         try clear c2
         try clear p2
         try clear c3
         try clear c4
         try clear c5
         try clear c5b0
         try clear p6
         try clear c11
         try clear c12
         try clear c13
         try clear c21
         try clear c22
         try clear c22b0
         try clear c22b1
         try clear c23
         try clear c27
         try clear c28
         try clear c29
         try clear p2
         try clear p6
         obtain ⟨x3_4,x4_4,x9_4,x1001_4,x1002_4,rfl,rfl,HA,HK4,HO_3,HO_7,HI0,HK,HB⟩:=hrel;cases gk with
         | zero=>exact absurd HA.out (by simp [spec_l10Found.l2])
         | succ k4 =>
          have H:=HA.out;clear HA;simp only [spec_l10Found.l2] at H
          by_cases c30 : x9_4 < (t619.length : Int)
          ·rw [if_pos c30] at H;have c30b0 : decide (x9_4 < (t619.length : Int)) = true:=decide_eq_true c30;clear c30;replace H:=Option.bind_eq_some_iff.mp H;obtain ⟨⟨t629,t630,t631⟩,A310,H⟩:=H;replace H : (if t629 = true then ((spec_l01Once.f s0_0 t630 t631 16).bind fun bt632=>(if bt632.1 = true then (if 0 ≤ x9_4 then (if x3_4.length < 1954687338268 then (spec_l10Found.l2 k4 (x3_4 ++ [(⟨0,0,(⟨(rd_T33 t619 x9_4).f0,(rd_T33 t619 x9_4).f1,(rd_T33 t619 x9_4).f2,(rd_T33 t619 x9_4).f3,wrap64 (((rd_T33 t619 x9_4).f4) + 1),(rd_T33 t619 x9_4).f5⟩ : S33)⟩ : S36)]) (wrap64 (x4_4 + 1)) x5_1 t619 (wrap64 (x9_4 + 1)) s0_0 bt632.2.1 bt632.2.2) else (none)) else (none)) else (spec_l10Found.l2 k4 x3_4 (wrap64 (x4_4 + 1)) x5_1 t619 (wrap64 (x9_4 + 1)) s0_0 bt632.2.1 bt632.2.2))) else (if 0 ≤ x9_4 then (if x3_4.length < 1954687338268 then ((some (x3_4 ++ [(⟨wrap64 (Int.tdiv x4_4 4),Int.tmod x4_4 4,(⟨(rd_T33 t619 x9_4).f0,(rd_T33 t619 x9_4).f1,(rd_T33 t619 x9_4).f2,(rd_T33 t619 x9_4).f3,(rd_T33 t619 x9_4).f4,(rd_T33 t619 x9_4).f5⟩ : S33)⟩ : S36)] : List (S36))).bind fun y641=>((spec_l01Once.f s0_0 t630 t631 16).bind fun bt644=>(if bt644.1 = true then (if y641.length < 1954687338268 then (spec_l10Found.l2 k4 (y641 ++ [(⟨0,0,(⟨(rd_T33 t619 x9_4).f0,(rd_T33 t619 x9_4).f1,(rd_T33 t619 x9_4).f2,(rd_T33 t619 x9_4).f3,wrap64 (((rd_T33 t619 x9_4).f4) + 1),(rd_T33 t619 x9_4).f5⟩ : S33)⟩ : S36)]) (wrap64 (x4_4 + 1)) x5_1 t619 (wrap64 (x9_4 + 1)) s0_0 bt644.2.1 bt644.2.2) else (none)) else (spec_l10Found.l2 k4 y641 (wrap64 (x4_4 + 1)) x5_1 t619 (wrap64 (x9_4 + 1)) s0_0 bt644.2.1 bt644.2.2)))) else (none)) else (none))) = some (r1,r2,r3):=H;have A31:=zMk A310;clear A310
           by_cases c32 : t629 = true
           ·subst c32;have H1 : ((spec_l01Once.f s0_0 t630 t631 16).bind fun bt632=>(if bt632.1 = true then (if 0 ≤ x9_4 then (if x3_4.length < 1954687338268 then (spec_l10Found.l2 k4 (x3_4 ++ [(⟨0,0,(⟨(rd_T33 t619 x9_4).f0,(rd_T33 t619 x9_4).f1,(rd_T33 t619 x9_4).f2,(rd_T33 t619 x9_4).f3,wrap64 (((rd_T33 t619 x9_4).f4) + 1),(rd_T33 t619 x9_4).f5⟩ : S33)⟩ : S36)]) (wrap64 (x4_4 + 1)) x5_1 t619 (wrap64 (x9_4 + 1)) s0_0 bt632.2.1 bt632.2.2) else (none)) else (none)) else (spec_l10Found.l2 k4 x3_4 (wrap64 (x4_4 + 1)) x5_1 t619 (wrap64 (x9_4 + 1)) s0_0 bt632.2.1 bt632.2.2))) = some (r1,r2,r3):=by rw [if_pos rfl] at H;exact H
            clear H;have H:=H1;clear H1;replace H:=Option.bind_eq_some_iff.mp H;obtain ⟨⟨t632,t633,t634⟩,A330,H⟩:=H;replace H : (if t632 = true then (if 0 ≤ x9_4 then (if x3_4.length < 1954687338268 then (spec_l10Found.l2 k4 (x3_4 ++ [(⟨0,0,(⟨(rd_T33 t619 x9_4).f0,(rd_T33 t619 x9_4).f1,(rd_T33 t619 x9_4).f2,(rd_T33 t619 x9_4).f3,wrap64 (((rd_T33 t619 x9_4).f4) + 1),(rd_T33 t619 x9_4).f5⟩ : S33)⟩ : S36)]) (wrap64 (x4_4 + 1)) x5_1 t619 (wrap64 (x9_4 + 1)) s0_0 t633 t634) else (none)) else (none)) else (spec_l10Found.l2 k4 x3_4 (wrap64 (x4_4 + 1)) x5_1 t619 (wrap64 (x9_4 + 1)) s0_0 t633 t634)) = some (r1,r2,r3):=H;have A33:=zMk A330;clear A330;obtain ⟨Ao37,co37,eo37⟩:=Kd.R_slice HO_7.out;subst eo37;go_upto_region 18 with (first | ((with_reducible refine gate_callee (f:=28) rfl ?_);refine goesL_ (some 52) rfl rfl Try.func28 (by kernel_rfl) rfl #[.pointer (some ⟨g,0,none⟩),.int .i64 8] rfl (by (try simp only [List.map_toArray,List.map_cons,List.map_nil]);first | done | rfl | (simp only [List.length_drop,List.length_take];rfl)) ?_;(with_reducible refine (spec_l01Once.calls g s0_0 x1001_4 x1002_4 8 true t630 t631 w0 _ ?side1 ?side2 A31.out).mono ?_);(case side1=>repeat (first | (with_reducible first | exact HI0.out | apply IsS80.alloc | apply IsS80.drewN | apply IsS80.drew | apply IsS80.set_1 | apply IsS80.set_2) | exact HI0.out));(case side2=>repeat (first | (with_reducible first | exact HB.out | apply below_alloc | apply pw_below_drewN | apply below_drew1 | refine below_set ?_ (IsS80.ge HI0.out)) | exact HB.out));rintro e w38 ⟨rfl,hi,hb,hk⟩;refine ⟨_,rfl,?_⟩;have n0_:=zMk (Kd.R_mono (Kd.R_keep (IsS80.apart (show IsS80 w0 _ g s0_0 x1001_4 x1002_4 from by repeat (first | (with_reducible first | exact HI0.out | apply IsS80.alloc | apply IsS80.drewN | apply IsS80.drew | apply IsS80.set_1 | apply IsS80.set_2) | exact HI0.out)) (rs HO_3) (by decide)) hk (fun _ h=>h.2)) (fun _ h=>h.1));have n1_:=zMk (Kd.R_mono (Kd.R_keep (IsS80.apart (show IsS80 w0 _ g s0_0 x1001_4 x1002_4 from by repeat (first | (with_reducible first | exact HI0.out | apply IsS80.alloc | apply IsS80.drewN | apply IsS80.drew | apply IsS80.set_1 | apply IsS80.set_2) | exact HI0.out)) (rs HO_7) (by decide)) hk (fun _ h=>h.2)) (fun _ h=>h.1));have n2_:=zMk (KeepBut.trans (by repeat (first | (with_reducible first | exact HK.out | apply KeepBut.set_ | apply keep_drewN | apply keep_drew | apply keep_alloc) | exact HK.out)) hk (.inl rfl));have n3_:=zMk (hb);have n4_:=zMk (hi);clear HO_3;clear HO_7;clear HK;clear HB;clear HI0;have HO_3:=n0_;have HO_7:=n1_;have HK:=n2_;have HB:=n3_;have HI0:=n4_;clear n0_ n1_ n2_ n3_ n4_;(try clear hb);(try clear hb2);(try clear hk);(try clear hi)))
            (try simp only [Act.put,zS1,zS2,zS3])
            by_cases c34 : t632 = true
            ·subst c34;have H1 : (if 0 ≤ x9_4 then (if x3_4.length < 1954687338268 then (spec_l10Found.l2 k4 (x3_4 ++ [(⟨0,0,(⟨(rd_T33 t619 x9_4).f0,(rd_T33 t619 x9_4).f1,(rd_T33 t619 x9_4).f2,(rd_T33 t619 x9_4).f3,wrap64 (((rd_T33 t619 x9_4).f4) + 1),(rd_T33 t619 x9_4).f5⟩ : S33)⟩ : S36)]) (wrap64 (x4_4 + 1)) x5_1 t619 (wrap64 (x9_4 + 1)) s0_0 t633 t634) else (none)) else (none)) = some (r1,r2,r3):=by rw [if_pos rfl] at H;exact H
             clear H;have H:=H1;clear H1
             by_cases c35 : 0 ≤ x9_4
             ·rw [if_pos c35] at H;have c35b0 : decide (0 ≤ x9_4) = true:=decide_eq_true c35;clear c35
              by_cases c36 : x3_4.length < 1954687338268
              ·rw [if_pos c36] at H;have LMc36:=zMk c36;clear c36;obtain ⟨y637,hy637⟩ : ∃ y_ : List (S36),y_ = (x3_4 ++ [(⟨0,0,(⟨(rd_T33 t619 x9_4).f0,(rd_T33 t619 x9_4).f1,(rd_T33 t619 x9_4).f2,(rd_T33 t619 x9_4).f3,wrap64 (((rd_T33 t619 x9_4).f4) + 1),(rd_T33 t619 x9_4).f5⟩ : S33)⟩ : S36)]):=⟨_,rfl⟩;replace H : (spec_l10Found.l2 k4 y637 (wrap64 (x4_4 + 1)) x5_1 t619 (wrap64 (x9_4 + 1)) s0_0 t633 t634) = some (r1,r2,r3):=by first | (rw [hy637];with_reducible exact H) | (have H2_:=(Option.bind_some _ _).symm.trans H;rw [hy637];with_reducible exact H2_) | (have H2_:=(Option.bind_some _ _).symm.trans H;with_reducible exact H2_) | with_reducible exact H | (rw [hy637];exact H) | exact H
               have Ny637:=zMk hy637;clear hy637;have H':=zMk H;clear H;go_wp2_with (first | ((with_reducible refine gate_dst (N:=77) rfl ?_);refine Kd.event_run (v:=.agg #[.int .i64 ((rd_T33 t619 x9_4).f0),.int .i64 ((rd_T33 t619 x9_4).f1),.int .i64 ((rd_T33 t619 x9_4).f2),.int .i64 ((rd_T33 t619 x9_4).f3),.int .i64 (wrap64 (((rd_T33 t619 x9_4).f4) + 1)),.string ((rd_T33 t619 x9_4).f5)]) rfl (ld33 rfl ?hx (by (with_reducible repeat (first | refine blk_drewN ?_ _ | refine blk_drew ?_ | refine blk_alloc ?_ _));refine blk_put (cs:=#[.int .i64 ((rd_T33 t619 x9_4).f0),.int .i64 ((rd_T33 t619 x9_4).f1),.int .i64 ((rd_T33 t619 x9_4).f2),.int .i64 ((rd_T33 t619 x9_4).f3),.int .i64 ((rd_T33 t619 x9_4).f4),.string ((rd_T33 t619 x9_4).f5)]) ?_ 4 _ rfl;(with_reducible repeat (first | refine blk_drewN ?_ _ | refine blk_drew ?_ | refine blk_alloc ?_ _));refine blk_put (cs:=#[.int .i64 ((rd_T33 t619 x9_4).f0),.int .i64 ((rd_T33 t619 x9_4).f1),.int .i64 ((rd_T33 t619 x9_4).f2),.int .i64 ((rd_T33 t619 x9_4).f3),.int .i64 ((rd_T33 t619 x9_4).f4),.string (⟨#[]⟩ : ByteArray)]) ?_ 5 _ rfl;(with_reducible repeat (first | refine blk_drewN ?_ _ | refine blk_drew ?_ | refine blk_alloc ?_ _));refine blk_put (cs:=#[.int .i64 ((rd_T33 t619 x9_4).f0),.int .i64 ((rd_T33 t619 x9_4).f1),.int .i64 ((rd_T33 t619 x9_4).f2),.int .i64 ((rd_T33 t619 x9_4).f3),.int .i64 0,.string (⟨#[]⟩ : ByteArray)]) ?_ 4 _ rfl;(with_reducible repeat (first | refine blk_drewN ?_ _ | refine blk_drew ?_ | refine blk_alloc ?_ _));refine blk_put (cs:=#[.int .i64 ((rd_T33 t619 x9_4).f0),.int .i64 ((rd_T33 t619 x9_4).f1),.int .i64 ((rd_T33 t619 x9_4).f2),.int .i64 0,.int .i64 0,.string (⟨#[]⟩ : ByteArray)]) ?_ 3 _ rfl;(with_reducible repeat (first | refine blk_drewN ?_ _ | refine blk_drew ?_ | refine blk_alloc ?_ _));refine blk_put (cs:=#[.int .i64 ((rd_T33 t619 x9_4).f0),.int .i64 ((rd_T33 t619 x9_4).f1),.int .i64 0,.int .i64 0,.int .i64 0,.string (⟨#[]⟩ : ByteArray)]) ?_ 2 _ rfl;(with_reducible repeat (first | refine blk_drewN ?_ _ | refine blk_drew ?_ | refine blk_alloc ?_ _));refine blk_put (cs:=#[.int .i64 ((rd_T33 t619 x9_4).f0),.int .i64 0,.int .i64 0,.int .i64 0,.int .i64 0,.string (⟨#[]⟩ : ByteArray)]) ?_ 1 _ rfl;(with_reducible repeat (first | refine blk_drewN ?_ _ | refine blk_drew ?_ | refine blk_alloc ?_ _));refine blk_put (cs:=#[.int .i64 0,.int .i64 0,.int .i64 0,.int .i64 0,.int .i64 0,.string (⟨#[]⟩ : ByteArray)]) ?_ 0 _ rfl;(with_reducible repeat (first | refine blk_drewN ?_ _ | refine blk_drew ?_ | refine blk_alloc ?_ _));exact BK636.out)) ?_;(case hx=>first | (go_simp;done) | (go_simp;rfl))) | ((with_reducible refine gate_callee (f:=28) rfl ?_);refine goesL_ (some 67) rfl rfl Try.func28 (by kernel_rfl) rfl #[.pointer (some ⟨g,0,none⟩),.int .i64 16] rfl (by (try simp only [List.map_toArray,List.map_cons,List.map_nil]);first | done | rfl | (simp only [List.length_drop,List.length_take];rfl)) ?_;(with_reducible refine (spec_l01Once.calls g s0_0 t630 t631 16 true t633 t634 w0 _ ?side1 ?side2 A33.out).mono ?_);(case side1=>repeat (first | (with_reducible first | exact HI0.out | apply IsS80.alloc | apply IsS80.drewN | apply IsS80.drew | apply IsS80.set_1 | apply IsS80.set_2) | exact HI0.out));(case side2=>repeat (first | (with_reducible first | exact HB.out | apply below_alloc | apply pw_below_drewN | apply below_drew1 | refine below_set ?_ (IsS80.ge HI0.out)) | exact HB.out));rintro e w39 ⟨rfl,hi,hb,hk⟩;refine ⟨_,rfl,?_⟩;have n0_:=zMk (Kd.R_mono (Kd.R_keep (IsS80.apart (show IsS80 w0 _ g s0_0 t630 t631 from by repeat (first | (with_reducible first | exact HI0.out | apply IsS80.alloc | apply IsS80.drewN | apply IsS80.drew | apply IsS80.set_1 | apply IsS80.set_2) | exact HI0.out)) (rs HO_3) (by decide)) hk (fun _ h=>h.2)) (fun _ h=>h.1));have n1_:=zMk (Kd.R_mono (Kd.R_keep (IsS80.apart (show IsS80 w0 _ g s0_0 t630 t631 from by repeat (first | (with_reducible first | exact HI0.out | apply IsS80.alloc | apply IsS80.drewN | apply IsS80.drew | apply IsS80.set_1 | apply IsS80.set_2) | exact HI0.out)) (rs HO_7) (by decide)) hk (fun _ h=>h.2)) (fun _ h=>h.1));have n2_:=zMk (KeepBut.trans (by repeat (first | (with_reducible first | exact HK.out | apply KeepBut.set_ | apply keep_drewN | apply keep_drew | apply keep_alloc) | exact HK.out)) hk (.inl rfl));have n3_:=zMk (hb);have n4_:=zMk (hi);clear HO_3;clear HO_7;clear HK;clear HB;clear HI0;have HO_3:=n0_;have HO_7:=n1_;have HK:=n2_;have HB:=n3_;have HI0:=n4_;clear n0_ n1_ n2_ n3_ n4_;(try clear hb);(try clear hb2);(try clear hk);(try clear hi);have p635 : 0 ≤ (x9_4 : Int):=zDe (by first | (with_reducible assumption) | assumption);have q635 : x9_4 < (t619.length : Int):=zDe (by first | (with_reducible assumption) | assumption);obtain ⟨ad635,e635,hx635_0,hx635_1,hx635_2,hx635_3,hx635_4,hx635_5⟩:=at_T33 (Kd.R_reads' HO_7.out).2.2 x9_4 p635 q635;cases e635;replace p635:=eq_true p635;replace q635:=eq_true q635) | ((with_reducible refine gate_dst (N:=10) rfl ?_);refine box_event ?hg (N:=10) ?hd (cs:=#[.int .i64 0,.int .i64 0,.int .i64 0,.int .i64 0,.int .i64 0,.string (⟨#[]⟩ : ByteArray)]) (t:=33) ?hr ?_;(case hd=>rfl);(case hg=>rfl);(case hr=>first | (go_simp;done) | (go_simp;rfl));intro gb636 hg w40 hbox hb;have n0_:=zMk (Kd.R_below (rs HO_3) hb);have n1_:=zMk (Kd.R_below (Kd.R_elderB (rs HO_7) gb636 (Nat.le_of_eq hg.symm)) hb);have n2_:=zMk (IsS80.below (by repeat (first | (with_reducible first | exact HI0.out | apply IsS80.alloc | apply IsS80.drewN | apply IsS80.drew | apply IsS80.set_1 | apply IsS80.set_2) | exact HI0.out)) hb);have n3_:=zMk (KeepBut.trans (by repeat (first | (with_reducible first | exact HK.out | apply KeepBut.set_ | apply keep_drewN | apply keep_drew | apply keep_alloc) | exact HK.out)) (KeepBut.of_below hb g none) (.inl rfl));have n4_:=zMk (below_step (by repeat (first | (with_reducible first | exact HB.out | apply below_alloc | apply pw_below_drewN | apply below_drew1 | refine below_set ?_ (IsS80.ge HI0.out)) | exact HB.out)) hb);have n5_:=zMk (hbox);have n6_:=zMk ((by rw [hg];exact (keep_size (w:=w) (g:=g) (row:=none) (by repeat (first | (with_reducible first | exact HK.out | apply KeepBut.set_ | apply keep_drewN | apply keep_drew | apply keep_alloc) | exact HK.out))) : w.heap.size ≤ gb636));have n7_:=zMk ((Nat.le_trans HW0.out (by rw [hg];exact (keep_size (w:=w) (g:=g) (row:=none) (by repeat (first | (with_reducible first | exact HK.out | apply KeepBut.set_ | apply keep_drewN | apply keep_drew | apply keep_alloc) | exact HK.out))) : w.heap.size ≤ gb636) : w0.heap.size ≤ gb636));have n8_:=zMk ((by rw [hg];exact Nat.ne_of_lt (IsS80.lt (show IsS80 w0 _ g s0_0 t633 t634 from by repeat (first | (with_reducible first | exact HI0.out | apply IsS80.alloc | apply IsS80.drewN | apply IsS80.drew | apply IsS80.set_1 | apply IsS80.set_2) | exact HI0.out))) : g ≠ gb636));have n9_:=zMk ((by rw [hg];exact Nat.ne_of_gt (IsS80.lt (show IsS80 w0 _ g s0_0 t633 t634 from by repeat (first | (with_reducible first | exact HI0.out | apply IsS80.alloc | apply IsS80.drewN | apply IsS80.drew | apply IsS80.set_1 | apply IsS80.set_2) | exact HI0.out))) : gb636 ≠ g));clear HO_3;clear HO_7;clear HI0;clear HK;clear HB;have HO_3:=n0_;have HO_7:=n1_;have HI0:=n2_;have HK:=n3_;have HB:=n4_;have BK636:=n5_;have GW636:=n6_;have GE636:=n7_;have NB0_636:=n8_;have NB636_0:=n9_;clear n0_ n1_ n2_ n3_ n4_ n5_ n6_ n7_ n8_ n9_;clear hb hbox hg;have hnb41:=NB636_0.out;have hnc41:=NB0_636.out;have hcz42_0 : w40.cell? ⟨gb636,0,none⟩ = some (.int .i64 0):=(zCl BK636.out 0).trans rfl;have hcz42_1 : w40.cell? ⟨gb636,1,none⟩ = some (.int .i64 0):=(zCl BK636.out 1).trans rfl;have hcz42_2 : w40.cell? ⟨gb636,2,none⟩ = some (.int .i64 0):=(zCl BK636.out 2).trans rfl;have hcz42_3 : w40.cell? ⟨gb636,3,none⟩ = some (.int .i64 0):=(zCl BK636.out 3).trans rfl;have hcz42_4 : w40.cell? ⟨gb636,4,none⟩ = some (.int .i64 0):=(zCl BK636.out 4).trans rfl;have hcz42_5 : w40.cell? ⟨gb636,5,none⟩ = some (.string (⟨#[]⟩ : ByteArray)):=(zCl BK636.out 5).trans rfl;have hfz42_0:=zFr BK636.out 0;have hfz42_1:=zFr BK636.out 1;have hfz42_2:=zFr BK636.out 2;have hfz42_3:=zFr BK636.out 3;have hfz42_4:=zFr BK636.out 4;have hfz42_5:=zFr BK636.out 5) | ((with_reducible refine gate_builtin (b:=.append) (xs:=#[.tmp 76,.tmp 79]) rfl ?_);at_builtin;refine Kd.R_append k36 w.heap.size rfl (.tmp 76) (.tmp 79) 31 36 (.agg #[(.int .i64 0),(.int .i64 0),(.int .i64 0),(.int .i64 0),(.int .i64 0),(.int .i64 0),(.int .i64 0),(.string ⟨#[]⟩)]) 72 rfl Try.underlying31 info36 rfl (by decide) (by omega) u3 x3_4 (⟨0,0,(⟨(rd_T33 t619 x9_4).f0,(rd_T33 t619 x9_4).f1,(rd_T33 t619 x9_4).f2,(rd_T33 t619 x9_4).f3,wrap64 (((rd_T33 t619 x9_4).f4) + 1),(rd_T33 t619 x9_4).f5⟩ : S33)⟩ : S36) [.int .i64 0,.int .i64 0,.int .i64 ((rd_T33 t619 x9_4).f0),.int .i64 ((rd_T33 t619 x9_4).f1),.int .i64 ((rd_T33 t619 x9_4).f2),.int .i64 ((rd_T33 t619 x9_4).f3),.int .i64 (wrap64 (((rd_T33 t619 x9_4).f4) + 1)),.string ((rd_T33 t619 x9_4).f5)] (fun _=>True) (fun _=>False) rfl (by first | (go_simp;done) | (go_simp;rfl)) ?aP (fun _ hk=>hk.elim) ?aF ?aO (Below.refl _ _) ?aS ?aL ?_;(case aP=>exact k36_mkM _ _ _ (⟨0,0,(⟨(rd_T33 t619 x9_4).f0,(rd_T33 t619 x9_4).f1,(rd_T33 t619 x9_4).f2,(rd_T33 t619 x9_4).f3,wrap64 (((rd_T33 t619 x9_4).f4) + 1),(rd_T33 t619 x9_4).f5⟩ : S33)⟩ : S36));(case aF=>exact (fun _ _=>trivial));(case aO=>exact (by (with_reducible repeat (first | apply Kd.R_alloc | apply Kd.R_drewN | apply Kd.R_drew));exact Kd.R_mono (Kd.R_far (p:=⟨gb636,4,none⟩) (Kd.R_far (p:=⟨gb636,5,none⟩) (Kd.R_far (p:=⟨gb636,4,none⟩) (Kd.R_far (p:=⟨gb636,3,none⟩) (Kd.R_far (p:=⟨gb636,2,none⟩) (Kd.R_far (p:=⟨gb636,1,none⟩) (Kd.R_far (p:=⟨gb636,0,none⟩) (Kd.R_types HO_3.out BK636.out (by decide)) (fun _ hk=>hk.2) (.int .i64 ((rd_T33 t619 x9_4).f0))) (fun _ hk=>hk.2) (.int .i64 ((rd_T33 t619 x9_4).f1))) (fun _ hk=>hk.2) (.int .i64 ((rd_T33 t619 x9_4).f2))) (fun _ hk=>hk.2) (.int .i64 ((rd_T33 t619 x9_4).f3))) (fun _ hk=>hk.2) (.int .i64 ((rd_T33 t619 x9_4).f4))) (fun _ hk=>hk.2) (.string ((rd_T33 t619 x9_4).f5))) (fun _ hk=>hk.2) (.int .i64 (wrap64 (((rd_T33 t619 x9_4).f4) + 1)))) (fun _ hk=>trivial)));(case aS=>exact (keep_size (w:=w) (g:=g) (row:=none) (by repeat (first | (with_reducible first | exact HK.out | apply KeepBut.set_ | apply keep_drewN | apply keep_drew | apply keep_alloc | refine keep_far ?_ GW636.out _) | exact HK.out))));(case aL=>have:=LMc36.out;omega);intro v638 w43 ho hb hg hat;rw [← Ny637.out] at ho;have n0_:=zMk (Kd.R_over' (by (with_reducible repeat (first | apply Kd.R_alloc | apply Kd.R_drewN | apply Kd.R_drew));exact (Kd.R_mono (Kd.R_far (p:=⟨gb636,4,none⟩) (Kd.R_far (p:=⟨gb636,5,none⟩) (Kd.R_far (p:=⟨gb636,4,none⟩) (Kd.R_far (p:=⟨gb636,3,none⟩) (Kd.R_far (p:=⟨gb636,2,none⟩) (Kd.R_far (p:=⟨gb636,1,none⟩) (Kd.R_far (p:=⟨gb636,0,none⟩) (Kd.R_mono HO_7.out (fun k_ hk=>(⟨hk,hk.2⟩ : _ ∧ k_ ≠ gb636))) (fun _ hk=>hk.2) (.int .i64 ((rd_T33 t619 x9_4).f0))) (fun _ hk=>hk.2) (.int .i64 ((rd_T33 t619 x9_4).f1))) (fun _ hk=>hk.2) (.int .i64 ((rd_T33 t619 x9_4).f2))) (fun _ hk=>hk.2) (.int .i64 ((rd_T33 t619 x9_4).f3))) (fun _ hk=>hk.2) (.int .i64 ((rd_T33 t619 x9_4).f4))) (fun _ hk=>hk.2) (.string ((rd_T33 t619 x9_4).f5))) (fun _ hk=>hk.2) (.int .i64 (wrap64 (((rd_T33 t619 x9_4).f4) + 1)))) (fun _ h_=>h_.1))) (Kd.R_typed (by (with_reducible repeat (first | apply Kd.R_alloc | apply Kd.R_drewN | apply Kd.R_drew));exact (Kd.R_mono (Kd.R_far (p:=⟨gb636,4,none⟩) (Kd.R_far (p:=⟨gb636,5,none⟩) (Kd.R_far (p:=⟨gb636,4,none⟩) (Kd.R_far (p:=⟨gb636,3,none⟩) (Kd.R_far (p:=⟨gb636,2,none⟩) (Kd.R_far (p:=⟨gb636,1,none⟩) (Kd.R_far (p:=⟨gb636,0,none⟩) (Kd.R_types HO_3.out BK636.out (by decide)) (fun _ hk=>hk.2) (.int .i64 ((rd_T33 t619 x9_4).f0))) (fun _ hk=>hk.2) (.int .i64 ((rd_T33 t619 x9_4).f1))) (fun _ hk=>hk.2) (.int .i64 ((rd_T33 t619 x9_4).f2))) (fun _ hk=>hk.2) (.int .i64 ((rd_T33 t619 x9_4).f3))) (fun _ hk=>hk.2) (.int .i64 ((rd_T33 t619 x9_4).f4))) (fun _ hk=>hk.2) (.string ((rd_T33 t619 x9_4).f5))) (fun _ hk=>hk.2) (.int .i64 (wrap64 (((rd_T33 t619 x9_4).f4) + 1)))) (fun _ h_=>h_.1)))) (by decide) hg);have n1_:=zMk (IsS80.grown (IsS80.far (IsS80.far (IsS80.far (IsS80.far (IsS80.far (IsS80.far (IsS80.far HI0.out (p:=⟨gb636,0,none⟩) NB0_636.out _) (p:=⟨gb636,1,none⟩) NB0_636.out _) (p:=⟨gb636,2,none⟩) NB0_636.out _) (p:=⟨gb636,3,none⟩) NB0_636.out _) (p:=⟨gb636,4,none⟩) NB0_636.out _) (p:=⟨gb636,5,none⟩) NB0_636.out _) (p:=⟨gb636,4,none⟩) NB0_636.out _) hg (IsS80.own_ne HI0.out HO_3.out (by decide)));have n2_:=zMk (blk_grown (g:=gb636) (o:=.cells #[.int .i64 ((rd_T33 t619 x9_4).f0),.int .i64 ((rd_T33 t619 x9_4).f1),.int .i64 ((rd_T33 t619 x9_4).f2),.int .i64 ((rd_T33 t619 x9_4).f3),.int .i64 (wrap64 (((rd_T33 t619 x9_4).f4) + 1)),.string ((rd_T33 t619 x9_4).f5)] 33 (0,0)) (by (with_reducible repeat (first | refine blk_drewN ?_ _ | refine blk_drew ?_ | refine blk_alloc ?_ _));refine blk_put (cs:=#[.int .i64 ((rd_T33 t619 x9_4).f0),.int .i64 ((rd_T33 t619 x9_4).f1),.int .i64 ((rd_T33 t619 x9_4).f2),.int .i64 ((rd_T33 t619 x9_4).f3),.int .i64 ((rd_T33 t619 x9_4).f4),.string ((rd_T33 t619 x9_4).f5)]) ?_ 4 _ rfl;(with_reducible repeat (first | refine blk_drewN ?_ _ | refine blk_drew ?_ | refine blk_alloc ?_ _));refine blk_put (cs:=#[.int .i64 ((rd_T33 t619 x9_4).f0),.int .i64 ((rd_T33 t619 x9_4).f1),.int .i64 ((rd_T33 t619 x9_4).f2),.int .i64 ((rd_T33 t619 x9_4).f3),.int .i64 ((rd_T33 t619 x9_4).f4),.string (⟨#[]⟩ : ByteArray)]) ?_ 5 _ rfl;(with_reducible repeat (first | refine blk_drewN ?_ _ | refine blk_drew ?_ | refine blk_alloc ?_ _));refine blk_put (cs:=#[.int .i64 ((rd_T33 t619 x9_4).f0),.int .i64 ((rd_T33 t619 x9_4).f1),.int .i64 ((rd_T33 t619 x9_4).f2),.int .i64 ((rd_T33 t619 x9_4).f3),.int .i64 0,.string (⟨#[]⟩ : ByteArray)]) ?_ 4 _ rfl;(with_reducible repeat (first | refine blk_drewN ?_ _ | refine blk_drew ?_ | refine blk_alloc ?_ _));refine blk_put (cs:=#[.int .i64 ((rd_T33 t619 x9_4).f0),.int .i64 ((rd_T33 t619 x9_4).f1),.int .i64 ((rd_T33 t619 x9_4).f2),.int .i64 0,.int .i64 0,.string (⟨#[]⟩ : ByteArray)]) ?_ 3 _ rfl;(with_reducible repeat (first | refine blk_drewN ?_ _ | refine blk_drew ?_ | refine blk_alloc ?_ _));refine blk_put (cs:=#[.int .i64 ((rd_T33 t619 x9_4).f0),.int .i64 ((rd_T33 t619 x9_4).f1),.int .i64 0,.int .i64 0,.int .i64 0,.string (⟨#[]⟩ : ByteArray)]) ?_ 2 _ rfl;(with_reducible repeat (first | refine blk_drewN ?_ _ | refine blk_drew ?_ | refine blk_alloc ?_ _));refine blk_put (cs:=#[.int .i64 ((rd_T33 t619 x9_4).f0),.int .i64 0,.int .i64 0,.int .i64 0,.int .i64 0,.string (⟨#[]⟩ : ByteArray)]) ?_ 1 _ rfl;(with_reducible repeat (first | refine blk_drewN ?_ _ | refine blk_drew ?_ | refine blk_alloc ?_ _));refine blk_put (cs:=#[.int .i64 0,.int .i64 0,.int .i64 0,.int .i64 0,.int .i64 0,.string (⟨#[]⟩ : ByteArray)]) ?_ 0 _ rfl;(with_reducible repeat (first | refine blk_drewN ?_ _ | refine blk_drew ?_ | refine blk_alloc ?_ _));exact BK636.out) hg (Kd.R_ne HO_3.out BK636.out (by decide)));have n3_:=zMk (below_weaken (by repeat (first | (with_reducible first | exact HB.out | apply below_alloc | apply pw_below_drewN | apply below_drew1 | refine below_set ?_ (IsS80.ge HI0.out) | refine below_set ?_ GE636.out) | exact HB.out)) HL.out hb);have n4_:=zMk (KeepBut.trans (by repeat (first | (with_reducible first | exact HK.out | apply KeepBut.set_ | apply keep_drewN | apply keep_drew | apply keep_alloc | refine keep_far ?_ GW636.out _) | exact HK.out)) (KeepBut.of_grown hg g) (Kd.R_base2 HO_3.out));have n5_:=zMk (ho);clear HO_7;clear HI0;clear BK636;clear HB;clear HK;clear HO_3;have HO_7:=n0_;have HI0:=n1_;have BK636:=n2_;have HB:=n3_;have HK:=n4_;have HO639:=n5_;clear n0_ n1_ n2_ n3_ n4_ n5_;clear ho hb hg hat));go_roundg k4;case measure=>have:=HK1.out;have:=HJ7.out;have:=HJ18.out;have:=HK4.out;omega
               case rel=>exact ⟨(y637),(wrap64 (x4_4 + 1)),(wrap64 (x9_4 + 1)),(t633),(t634),(by first | rfl | (simp;done) | (simp [*];done)),(by first | rfl | (simp;done) | (simp [*];done)),H',⟨by have:=HK1.out;have:=HJ7.out;have:=HJ18.out;have:=HK4.out;omega⟩,⟨rs HO639⟩,⟨by (with_reducible repeat (first | apply Kd.R_alloc | apply Kd.R_drewN | apply Kd.R_drew));exact Kd.R_mono HO_7.out (fun _ hk=>trivial)⟩,⟨by repeat (first | (with_reducible first | exact HI0.out | apply IsS80.alloc | apply IsS80.drewN | apply IsS80.drew | apply IsS80.set_1 | apply IsS80.set_2 | refine IsS80.far ?_ NB0_636.out _) | exact HI0.out)⟩,⟨by repeat (first | (with_reducible first | exact HK.out | apply KeepBut.set_ | apply keep_drewN | apply keep_drew | apply keep_alloc | refine keep_far ?_ GW636.out _) | exact HK.out)⟩,⟨by repeat (first | (with_reducible first | exact HB.out | apply below_alloc | apply pw_below_drewN | apply below_drew1 | refine below_set ?_ (IsS80.ge HI0.out) | refine below_set ?_ GE636.out) | exact HB.out)⟩⟩
              rw [if_neg c36] at H;exact absurd H (by simp)
             rw [if_neg c35] at H;exact absurd H (by simp)
            replace c34:=Bool.eq_false_iff.mpr c34;subst c34;have H1 : (spec_l10Found.l2 k4 x3_4 (wrap64 (x4_4 + 1)) x5_1 t619 (wrap64 (x9_4 + 1)) s0_0 t633 t634) = some (r1,r2,r3):=by rw [if_neg (show ¬ (false = true) by decide)] at H;exact H
            clear H;have H:=H1;clear H1;have H':=zMk H;clear H;go_wp2_with (first | ((with_reducible refine gate_callee (f:=28) rfl ?_);refine goesL_ (some 67) rfl rfl Try.func28 (by kernel_rfl) rfl #[.pointer (some ⟨g,0,none⟩),.int .i64 16] rfl (by (try simp only [List.map_toArray,List.map_cons,List.map_nil]);first | done | rfl | (simp only [List.length_drop,List.length_take];rfl)) ?_;(with_reducible refine (spec_l01Once.calls g s0_0 t630 t631 16 false t633 t634 w0 _ ?side1 ?side2 A33.out).mono ?_);(case side1=>repeat (first | (with_reducible first | exact HI0.out | apply IsS80.alloc | apply IsS80.drewN | apply IsS80.drew | apply IsS80.set_1 | apply IsS80.set_2) | exact HI0.out));(case side2=>repeat (first | (with_reducible first | exact HB.out | apply below_alloc | apply pw_below_drewN | apply below_drew1 | refine below_set ?_ (IsS80.ge HI0.out)) | exact HB.out));rintro e w46 ⟨rfl,hi,hb,hk⟩;refine ⟨_,rfl,?_⟩;have n0_:=zMk (Kd.R_mono (Kd.R_keep (IsS80.apart (show IsS80 w0 _ g s0_0 t630 t631 from by repeat (first | (with_reducible first | exact HI0.out | apply IsS80.alloc | apply IsS80.drewN | apply IsS80.drew | apply IsS80.set_1 | apply IsS80.set_2) | exact HI0.out)) (rs HO_3) (by decide)) hk (fun _ h=>h.2)) (fun _ h=>h.1));have n1_:=zMk (Kd.R_mono (Kd.R_keep (IsS80.apart (show IsS80 w0 _ g s0_0 t630 t631 from by repeat (first | (with_reducible first | exact HI0.out | apply IsS80.alloc | apply IsS80.drewN | apply IsS80.drew | apply IsS80.set_1 | apply IsS80.set_2) | exact HI0.out)) (rs HO_7) (by decide)) hk (fun _ h=>h.2)) (fun _ h=>h.1));have n2_:=zMk (KeepBut.trans (by repeat (first | (with_reducible first | exact HK.out | apply KeepBut.set_ | apply keep_drewN | apply keep_drew | apply keep_alloc) | exact HK.out)) hk (.inl rfl));have n3_:=zMk (hb);have n4_:=zMk (hi);clear HO_3;clear HO_7;clear HK;clear HB;clear HI0;have HO_3:=n0_;have HO_7:=n1_;have HK:=n2_;have HB:=n3_;have HI0:=n4_;clear n0_ n1_ n2_ n3_ n4_;(try clear hb);(try clear hb2);(try clear hk);(try clear hi)));go_roundg k4;case measure=>have:=HK1.out;have:=HJ7.out;have:=HJ18.out;have:=HK4.out;omega
            case rel=>exact ⟨(x3_4),(wrap64 (x4_4 + 1)),(wrap64 (x9_4 + 1)),(t633),(t634),(by first | rfl | (simp;done) | (simp [*];done)),(by first | rfl | (simp;done) | (simp [*];done)),H',⟨by have:=HK1.out;have:=HJ7.out;have:=HJ18.out;have:=HK4.out;omega⟩,⟨rs HO_3⟩,⟨rs HO_7⟩,⟨by repeat (first | (with_reducible first | exact HI0.out | apply IsS80.alloc | apply IsS80.drewN | apply IsS80.drew | apply IsS80.set_1 | apply IsS80.set_2) | exact HI0.out)⟩,⟨by repeat (first | (with_reducible first | exact HK.out | apply KeepBut.set_ | apply keep_drewN | apply keep_drew | apply keep_alloc) | exact HK.out)⟩,⟨by repeat (first | (with_reducible first | exact HB.out | apply below_alloc | apply pw_below_drewN | apply below_drew1 | refine below_set ?_ (IsS80.ge HI0.out)) | exact HB.out)⟩⟩
           replace c32:=Bool.eq_false_iff.mpr c32;subst c32;have H1 : (if 0 ≤ x9_4 then (if x3_4.length < 1954687338268 then ((some (x3_4 ++ [(⟨wrap64 (Int.tdiv x4_4 4),Int.tmod x4_4 4,(⟨(rd_T33 t619 x9_4).f0,(rd_T33 t619 x9_4).f1,(rd_T33 t619 x9_4).f2,(rd_T33 t619 x9_4).f3,(rd_T33 t619 x9_4).f4,(rd_T33 t619 x9_4).f5⟩ : S33)⟩ : S36)] : List (S36))).bind fun y641=>((spec_l01Once.f s0_0 t630 t631 16).bind fun bt644=>(if bt644.1 = true then (if y641.length < 1954687338268 then (spec_l10Found.l2 k4 (y641 ++ [(⟨0,0,(⟨(rd_T33 t619 x9_4).f0,(rd_T33 t619 x9_4).f1,(rd_T33 t619 x9_4).f2,(rd_T33 t619 x9_4).f3,wrap64 (((rd_T33 t619 x9_4).f4) + 1),(rd_T33 t619 x9_4).f5⟩ : S33)⟩ : S36)]) (wrap64 (x4_4 + 1)) x5_1 t619 (wrap64 (x9_4 + 1)) s0_0 bt644.2.1 bt644.2.2) else (none)) else (spec_l10Found.l2 k4 y641 (wrap64 (x4_4 + 1)) x5_1 t619 (wrap64 (x9_4 + 1)) s0_0 bt644.2.1 bt644.2.2)))) else (none)) else (none)) = some (r1,r2,r3):=by rw [if_neg (show ¬ (false = true) by decide)] at H;exact H
           clear H;have H:=H1;clear H1
           by_cases c47 : 0 ≤ x9_4
           ·rw [if_pos c47] at H;have c47b0 : decide (0 ≤ x9_4) = true:=decide_eq_true c47;clear c47
            by_cases c48 : x3_4.length < 1954687338268
            ·rw [if_pos c48] at H;have LMc48:=zMk c48;clear c48;obtain ⟨y641,hy641⟩ : ∃ y_ : List (S36),y_ = (x3_4 ++ [(⟨wrap64 (Int.tdiv x4_4 4),Int.tmod x4_4 4,(⟨(rd_T33 t619 x9_4).f0,(rd_T33 t619 x9_4).f1,(rd_T33 t619 x9_4).f2,(rd_T33 t619 x9_4).f3,(rd_T33 t619 x9_4).f4,(rd_T33 t619 x9_4).f5⟩ : S33)⟩ : S36)]):=⟨_,rfl⟩;replace H : ((spec_l01Once.f s0_0 t630 t631 16).bind fun bt644=>(if bt644.1 = true then (if y641.length < 1954687338268 then (spec_l10Found.l2 k4 (y641 ++ [(⟨0,0,(⟨(rd_T33 t619 x9_4).f0,(rd_T33 t619 x9_4).f1,(rd_T33 t619 x9_4).f2,(rd_T33 t619 x9_4).f3,wrap64 (((rd_T33 t619 x9_4).f4) + 1),(rd_T33 t619 x9_4).f5⟩ : S33)⟩ : S36)]) (wrap64 (x4_4 + 1)) x5_1 t619 (wrap64 (x9_4 + 1)) s0_0 bt644.2.1 bt644.2.2) else (none)) else (spec_l10Found.l2 k4 y641 (wrap64 (x4_4 + 1)) x5_1 t619 (wrap64 (x9_4 + 1)) s0_0 bt644.2.1 bt644.2.2))) = some (r1,r2,r3):=by first | (rw [hy641];with_reducible exact H) | (have H2_:=(Option.bind_some _ _).symm.trans H;rw [hy641];with_reducible exact H2_) | (have H2_:=(Option.bind_some _ _).symm.trans H;with_reducible exact H2_) | with_reducible exact H | (rw [hy641];exact H) | exact H
             have Ny641:=zMk hy641;clear hy641;replace H:=Option.bind_eq_some_iff.mp H;obtain ⟨⟨t644,t645,t646⟩,A490,H⟩:=H;replace H : (if t644 = true then (if y641.length < 1954687338268 then (spec_l10Found.l2 k4 (y641 ++ [(⟨0,0,(⟨(rd_T33 t619 x9_4).f0,(rd_T33 t619 x9_4).f1,(rd_T33 t619 x9_4).f2,(rd_T33 t619 x9_4).f3,wrap64 (((rd_T33 t619 x9_4).f4) + 1),(rd_T33 t619 x9_4).f5⟩ : S33)⟩ : S36)]) (wrap64 (x4_4 + 1)) x5_1 t619 (wrap64 (x9_4 + 1)) s0_0 t645 t646) else (none)) else (spec_l10Found.l2 k4 y641 (wrap64 (x4_4 + 1)) x5_1 t619 (wrap64 (x9_4 + 1)) s0_0 t645 t646)) = some (r1,r2,r3):=H;have A49:=zMk A490;clear A490;obtain ⟨Ao52,co52,eo52⟩:=Kd.R_slice HO_7.out;subst eo52;go_upto_region 18 with (first | ((with_reducible refine gate_callee (f:=28) rfl ?_);refine goesL_ (some 52) rfl rfl Try.func28 (by kernel_rfl) rfl #[.pointer (some ⟨g,0,none⟩),.int .i64 8] rfl (by (try simp only [List.map_toArray,List.map_cons,List.map_nil]);first | done | rfl | (simp only [List.length_drop,List.length_take];rfl)) ?_;(with_reducible refine (spec_l01Once.calls g s0_0 x1001_4 x1002_4 8 false t630 t631 w0 _ ?side1 ?side2 A31.out).mono ?_);(case side1=>repeat (first | (with_reducible first | exact HI0.out | apply IsS80.alloc | apply IsS80.drewN | apply IsS80.drew | apply IsS80.set_1 | apply IsS80.set_2) | exact HI0.out));(case side2=>repeat (first | (with_reducible first | exact HB.out | apply below_alloc | apply pw_below_drewN | apply below_drew1 | refine below_set ?_ (IsS80.ge HI0.out)) | exact HB.out));rintro e w53 ⟨rfl,hi,hb,hk⟩;refine ⟨_,rfl,?_⟩;have n0_:=zMk (Kd.R_mono (Kd.R_keep (IsS80.apart (show IsS80 w0 _ g s0_0 x1001_4 x1002_4 from by repeat (first | (with_reducible first | exact HI0.out | apply IsS80.alloc | apply IsS80.drewN | apply IsS80.drew | apply IsS80.set_1 | apply IsS80.set_2) | exact HI0.out)) (rs HO_3) (by decide)) hk (fun _ h=>h.2)) (fun _ h=>h.1));have n1_:=zMk (Kd.R_mono (Kd.R_keep (IsS80.apart (show IsS80 w0 _ g s0_0 x1001_4 x1002_4 from by repeat (first | (with_reducible first | exact HI0.out | apply IsS80.alloc | apply IsS80.drewN | apply IsS80.drew | apply IsS80.set_1 | apply IsS80.set_2) | exact HI0.out)) (rs HO_7) (by decide)) hk (fun _ h=>h.2)) (fun _ h=>h.1));have n2_:=zMk (KeepBut.trans (by repeat (first | (with_reducible first | exact HK.out | apply KeepBut.set_ | apply keep_drewN | apply keep_drew | apply keep_alloc) | exact HK.out)) hk (.inl rfl));have n3_:=zMk (hb);have n4_:=zMk (hi);clear HO_3;clear HO_7;clear HK;clear HB;clear HI0;have HO_3:=n0_;have HO_7:=n1_;have HK:=n2_;have HB:=n3_;have HI0:=n4_;clear n0_ n1_ n2_ n3_ n4_;(try clear hb);(try clear hb2);(try clear hk);(try clear hi);have p640 : 0 ≤ (x9_4 : Int):=zDe (by first | (with_reducible assumption) | assumption);have q640 : x9_4 < (t619.length : Int):=zDe (by first | (with_reducible assumption) | assumption);obtain ⟨ad640,e640,hx640_0,hx640_1,hx640_2,hx640_3,hx640_4,hx640_5⟩:=at_T33 (Kd.R_reads' HO_7.out).2.2 x9_4 p640 q640;cases e640;replace p640:=eq_true p640;replace q640:=eq_true q640) | ((with_reducible refine gate_builtin (b:=.append) (xs:=#[.tmp 54,.tmp 64]) rfl ?_);at_builtin;refine Kd.R_append k36 w.heap.size rfl (.tmp 54) (.tmp 64) 31 36 (.agg #[(.int .i64 0),(.int .i64 0),(.int .i64 0),(.int .i64 0),(.int .i64 0),(.int .i64 0),(.int .i64 0),(.string ⟨#[]⟩)]) 72 rfl Try.underlying31 info36 rfl (by decide) (by omega) u3 x3_4 (⟨wrap64 (Int.tdiv x4_4 4),Int.tmod x4_4 4,(⟨(rd_T33 t619 x9_4).f0,(rd_T33 t619 x9_4).f1,(rd_T33 t619 x9_4).f2,(rd_T33 t619 x9_4).f3,(rd_T33 t619 x9_4).f4,(rd_T33 t619 x9_4).f5⟩ : S33)⟩ : S36) [.int .i64 (wrap64 (Int.tdiv x4_4 4)),.int .i64 (Int.tmod x4_4 4),.int .i64 ((rd_T33 t619 x9_4).f0),.int .i64 ((rd_T33 t619 x9_4).f1),.int .i64 ((rd_T33 t619 x9_4).f2),.int .i64 ((rd_T33 t619 x9_4).f3),.int .i64 ((rd_T33 t619 x9_4).f4),.string ((rd_T33 t619 x9_4).f5)] (fun _=>True) (fun _=>False) rfl rfl ?aP (fun _ hk=>hk.elim) ?aF ?aO (Below.refl _ _) ?aS ?aL ?_;(case aP=>exact k36_mkM _ _ _ (⟨wrap64 (Int.tdiv x4_4 4),Int.tmod x4_4 4,(⟨(rd_T33 t619 x9_4).f0,(rd_T33 t619 x9_4).f1,(rd_T33 t619 x9_4).f2,(rd_T33 t619 x9_4).f3,(rd_T33 t619 x9_4).f4,(rd_T33 t619 x9_4).f5⟩ : S33)⟩ : S36));(case aF=>exact (fun _ _=>trivial));(case aO=>exact (rs HO_3));(case aS=>exact (keep_size (w:=w) (g:=g) (row:=none) (by repeat (first | (with_reducible first | exact HK.out | apply KeepBut.set_ | apply keep_drewN | apply keep_drew | apply keep_alloc) | exact HK.out))));(case aL=>have:=LMc48.out;omega);intro v642 w54 ho hb hg hat;rw [← Ny641.out] at ho;have n0_:=zMk (Kd.R_over' (rs HO_7) (Kd.R_typed (rs HO_3)) (by decide) hg);have n1_:=zMk (IsS80.grown (by repeat (first | (with_reducible first | exact HI0.out | apply IsS80.alloc | apply IsS80.drewN | apply IsS80.drew | apply IsS80.set_1 | apply IsS80.set_2) | exact HI0.out)) hg (IsS80.own_ne HI0.out HO_3.out (by decide)));have n2_:=zMk (below_weaken (by repeat (first | (with_reducible first | exact HB.out | apply below_alloc | apply pw_below_drewN | apply below_drew1 | refine below_set ?_ (IsS80.ge HI0.out)) | exact HB.out)) HL.out hb);have n3_:=zMk (KeepBut.trans (by repeat (first | (with_reducible first | exact HK.out | apply KeepBut.set_ | apply keep_drewN | apply keep_drew | apply keep_alloc) | exact HK.out)) (KeepBut.of_grown hg g) (Kd.R_base2 HO_3.out));have n4_:=zMk (ho);clear HO_7;clear HI0;clear HB;clear HK;clear HO_3;have HO_7:=n0_;have HI0:=n1_;have HB:=n2_;have HK:=n3_;have HO643:=n4_;clear n0_ n1_ n2_ n3_ n4_;clear ho hb hg hat))
             (try simp only [Act.put,zS1,zS2,zS3])
             by_cases c50 : t644 = true
             ·subst c50;have H1 : (if y641.length < 1954687338268 then (spec_l10Found.l2 k4 (y641 ++ [(⟨0,0,(⟨(rd_T33 t619 x9_4).f0,(rd_T33 t619 x9_4).f1,(rd_T33 t619 x9_4).f2,(rd_T33 t619 x9_4).f3,wrap64 (((rd_T33 t619 x9_4).f4) + 1),(rd_T33 t619 x9_4).f5⟩ : S33)⟩ : S36)]) (wrap64 (x4_4 + 1)) x5_1 t619 (wrap64 (x9_4 + 1)) s0_0 t645 t646) else (none)) = some (r1,r2,r3):=by rw [if_pos rfl] at H;exact H
              clear H;have H:=H1;clear H1
              by_cases c51 : y641.length < 1954687338268
              ·rw [if_pos c51] at H;have LMc51:=zMk c51;clear c51;obtain ⟨y649,hy649⟩ : ∃ y_ : List (S36),y_ = (y641 ++ [(⟨0,0,(⟨(rd_T33 t619 x9_4).f0,(rd_T33 t619 x9_4).f1,(rd_T33 t619 x9_4).f2,(rd_T33 t619 x9_4).f3,wrap64 (((rd_T33 t619 x9_4).f4) + 1),(rd_T33 t619 x9_4).f5⟩ : S33)⟩ : S36)]):=⟨_,rfl⟩;replace H : (spec_l10Found.l2 k4 y649 (wrap64 (x4_4 + 1)) x5_1 t619 (wrap64 (x9_4 + 1)) s0_0 t645 t646) = some (r1,r2,r3):=by first | (rw [hy649];with_reducible exact H) | (have H2_:=(Option.bind_some _ _).symm.trans H;rw [hy649];with_reducible exact H2_) | (have H2_:=(Option.bind_some _ _).symm.trans H;with_reducible exact H2_) | with_reducible exact H | (rw [hy649];exact H) | exact H
               have Ny649:=zMk hy649;clear hy649;have H':=zMk H;clear H;go_wp2_with (first | ((with_reducible refine gate_dst (N:=77) rfl ?_);refine Kd.event_run (v:=.agg #[.int .i64 ((rd_T33 t619 x9_4).f0),.int .i64 ((rd_T33 t619 x9_4).f1),.int .i64 ((rd_T33 t619 x9_4).f2),.int .i64 ((rd_T33 t619 x9_4).f3),.int .i64 (wrap64 (((rd_T33 t619 x9_4).f4) + 1)),.string ((rd_T33 t619 x9_4).f5)]) rfl (ld33 rfl ?hx (by (with_reducible repeat (first | refine blk_drewN ?_ _ | refine blk_drew ?_ | refine blk_alloc ?_ _));refine blk_put (cs:=#[.int .i64 ((rd_T33 t619 x9_4).f0),.int .i64 ((rd_T33 t619 x9_4).f1),.int .i64 ((rd_T33 t619 x9_4).f2),.int .i64 ((rd_T33 t619 x9_4).f3),.int .i64 ((rd_T33 t619 x9_4).f4),.string ((rd_T33 t619 x9_4).f5)]) ?_ 4 _ rfl;(with_reducible repeat (first | refine blk_drewN ?_ _ | refine blk_drew ?_ | refine blk_alloc ?_ _));refine blk_put (cs:=#[.int .i64 ((rd_T33 t619 x9_4).f0),.int .i64 ((rd_T33 t619 x9_4).f1),.int .i64 ((rd_T33 t619 x9_4).f2),.int .i64 ((rd_T33 t619 x9_4).f3),.int .i64 ((rd_T33 t619 x9_4).f4),.string (⟨#[]⟩ : ByteArray)]) ?_ 5 _ rfl;(with_reducible repeat (first | refine blk_drewN ?_ _ | refine blk_drew ?_ | refine blk_alloc ?_ _));refine blk_put (cs:=#[.int .i64 ((rd_T33 t619 x9_4).f0),.int .i64 ((rd_T33 t619 x9_4).f1),.int .i64 ((rd_T33 t619 x9_4).f2),.int .i64 ((rd_T33 t619 x9_4).f3),.int .i64 0,.string (⟨#[]⟩ : ByteArray)]) ?_ 4 _ rfl;(with_reducible repeat (first | refine blk_drewN ?_ _ | refine blk_drew ?_ | refine blk_alloc ?_ _));refine blk_put (cs:=#[.int .i64 ((rd_T33 t619 x9_4).f0),.int .i64 ((rd_T33 t619 x9_4).f1),.int .i64 ((rd_T33 t619 x9_4).f2),.int .i64 0,.int .i64 0,.string (⟨#[]⟩ : ByteArray)]) ?_ 3 _ rfl;(with_reducible repeat (first | refine blk_drewN ?_ _ | refine blk_drew ?_ | refine blk_alloc ?_ _));refine blk_put (cs:=#[.int .i64 ((rd_T33 t619 x9_4).f0),.int .i64 ((rd_T33 t619 x9_4).f1),.int .i64 0,.int .i64 0,.int .i64 0,.string (⟨#[]⟩ : ByteArray)]) ?_ 2 _ rfl;(with_reducible repeat (first | refine blk_drewN ?_ _ | refine blk_drew ?_ | refine blk_alloc ?_ _));refine blk_put (cs:=#[.int .i64 ((rd_T33 t619 x9_4).f0),.int .i64 0,.int .i64 0,.int .i64 0,.int .i64 0,.string (⟨#[]⟩ : ByteArray)]) ?_ 1 _ rfl;(with_reducible repeat (first | refine blk_drewN ?_ _ | refine blk_drew ?_ | refine blk_alloc ?_ _));refine blk_put (cs:=#[.int .i64 0,.int .i64 0,.int .i64 0,.int .i64 0,.int .i64 0,.string (⟨#[]⟩ : ByteArray)]) ?_ 0 _ rfl;(with_reducible repeat (first | refine blk_drewN ?_ _ | refine blk_drew ?_ | refine blk_alloc ?_ _));exact BK648.out)) ?_;(case hx=>first | (go_simp;done) | (go_simp;rfl))) | ((with_reducible refine gate_callee (f:=28) rfl ?_);refine goesL_ (some 67) rfl rfl Try.func28 (by kernel_rfl) rfl #[.pointer (some ⟨g,0,none⟩),.int .i64 16] rfl (by (try simp only [List.map_toArray,List.map_cons,List.map_nil]);first | done | rfl | (simp only [List.length_drop,List.length_take];rfl)) ?_;(with_reducible refine (spec_l01Once.calls g s0_0 t630 t631 16 true t645 t646 w0 _ ?side1 ?side2 A49.out).mono ?_);(case side1=>repeat (first | (with_reducible first | exact HI0.out | apply IsS80.alloc | apply IsS80.drewN | apply IsS80.drew | apply IsS80.set_1 | apply IsS80.set_2) | exact HI0.out));(case side2=>repeat (first | (with_reducible first | exact HB.out | apply below_alloc | apply pw_below_drewN | apply below_drew1 | refine below_set ?_ (IsS80.ge HI0.out)) | exact HB.out));rintro e w55 ⟨rfl,hi,hb,hk⟩;refine ⟨_,rfl,?_⟩;have n0_:=zMk (Kd.R_mono (Kd.R_keep (IsS80.apart (show IsS80 w0 _ g s0_0 t630 t631 from by repeat (first | (with_reducible first | exact HI0.out | apply IsS80.alloc | apply IsS80.drewN | apply IsS80.drew | apply IsS80.set_1 | apply IsS80.set_2) | exact HI0.out)) (rs HO_7) (by decide)) hk (fun _ h=>h.2)) (fun _ h=>h.1));have n1_:=zMk (Kd.R_mono (Kd.R_keep (IsS80.apart (show IsS80 w0 _ g s0_0 t630 t631 from by repeat (first | (with_reducible first | exact HI0.out | apply IsS80.alloc | apply IsS80.drewN | apply IsS80.drew | apply IsS80.set_1 | apply IsS80.set_2) | exact HI0.out)) (rs HO643) (by decide)) hk (fun _ h=>h.2)) (fun _ h=>h.1));have n2_:=zMk (KeepBut.trans (by repeat (first | (with_reducible first | exact HK.out | apply KeepBut.set_ | apply keep_drewN | apply keep_drew | apply keep_alloc) | exact HK.out)) hk (.inl rfl));have n3_:=zMk (hb);have n4_:=zMk (hi);clear HO_7;clear HO643;clear HK;clear HB;clear HI0;have HO_7:=n0_;have HO643:=n1_;have HK:=n2_;have HB:=n3_;have HI0:=n4_;clear n0_ n1_ n2_ n3_ n4_;(try clear hb);(try clear hb2);(try clear hk);(try clear hi);have p647 : 0 ≤ (x9_4 : Int):=zDe (by first | (with_reducible assumption) | assumption);have q647 : x9_4 < (t619.length : Int):=zDe (by first | (with_reducible assumption) | assumption);obtain ⟨ad647,e647,hx647_0,hx647_1,hx647_2,hx647_3,hx647_4,hx647_5⟩:=at_T33 (Kd.R_reads' HO_7.out).2.2 x9_4 p647 q647;obtain rfl : ad640 = ad647:=(by injection e647);replace p647:=eq_true p647;replace q647:=eq_true q647) | ((with_reducible refine gate_dst (N:=10) rfl ?_);refine box_event ?hg (N:=10) ?hd (cs:=#[.int .i64 0,.int .i64 0,.int .i64 0,.int .i64 0,.int .i64 0,.string (⟨#[]⟩ : ByteArray)]) (t:=33) ?hr ?_;(case hd=>rfl);(case hg=>rfl);(case hr=>first | (go_simp;done) | (go_simp;rfl));intro gb648 hg w56 hbox hb;have n0_:=zMk (Kd.R_below (Kd.R_elderB (rs HO_7) gb648 (Nat.le_of_eq hg.symm)) hb);have n1_:=zMk (Kd.R_below (rs HO643) hb);have n2_:=zMk (IsS80.below (by repeat (first | (with_reducible first | exact HI0.out | apply IsS80.alloc | apply IsS80.drewN | apply IsS80.drew | apply IsS80.set_1 | apply IsS80.set_2) | exact HI0.out)) hb);have n3_:=zMk (KeepBut.trans (by repeat (first | (with_reducible first | exact HK.out | apply KeepBut.set_ | apply keep_drewN | apply keep_drew | apply keep_alloc) | exact HK.out)) (KeepBut.of_below hb g none) (.inl rfl));have n4_:=zMk (below_step (by repeat (first | (with_reducible first | exact HB.out | apply below_alloc | apply pw_below_drewN | apply below_drew1 | refine below_set ?_ (IsS80.ge HI0.out)) | exact HB.out)) hb);have n5_:=zMk (hbox);have n6_:=zMk ((by rw [hg];exact (keep_size (w:=w) (g:=g) (row:=none) (by repeat (first | (with_reducible first | exact HK.out | apply KeepBut.set_ | apply keep_drewN | apply keep_drew | apply keep_alloc) | exact HK.out))) : w.heap.size ≤ gb648));have n7_:=zMk ((Nat.le_trans HW0.out (by rw [hg];exact (keep_size (w:=w) (g:=g) (row:=none) (by repeat (first | (with_reducible first | exact HK.out | apply KeepBut.set_ | apply keep_drewN | apply keep_drew | apply keep_alloc) | exact HK.out))) : w.heap.size ≤ gb648) : w0.heap.size ≤ gb648));have n8_:=zMk ((by rw [hg];exact Nat.ne_of_lt (IsS80.lt (show IsS80 w0 _ g s0_0 t645 t646 from by repeat (first | (with_reducible first | exact HI0.out | apply IsS80.alloc | apply IsS80.drewN | apply IsS80.drew | apply IsS80.set_1 | apply IsS80.set_2) | exact HI0.out))) : g ≠ gb648));have n9_:=zMk ((by rw [hg];exact Nat.ne_of_gt (IsS80.lt (show IsS80 w0 _ g s0_0 t645 t646 from by repeat (first | (with_reducible first | exact HI0.out | apply IsS80.alloc | apply IsS80.drewN | apply IsS80.drew | apply IsS80.set_1 | apply IsS80.set_2) | exact HI0.out))) : gb648 ≠ g));clear HO_7;clear HO643;clear HI0;clear HK;clear HB;have HO_7:=n0_;have HO643:=n1_;have HI0:=n2_;have HK:=n3_;have HB:=n4_;have BK648:=n5_;have GW648:=n6_;have GE648:=n7_;have NB0_648:=n8_;have NB648_0:=n9_;clear n0_ n1_ n2_ n3_ n4_ n5_ n6_ n7_ n8_ n9_;clear hb hbox hg;have hnb57:=NB648_0.out;have hnc57:=NB0_648.out;have hcz58_0 : w56.cell? ⟨gb648,0,none⟩ = some (.int .i64 0):=(zCl BK648.out 0).trans rfl;have hcz58_1 : w56.cell? ⟨gb648,1,none⟩ = some (.int .i64 0):=(zCl BK648.out 1).trans rfl;have hcz58_2 : w56.cell? ⟨gb648,2,none⟩ = some (.int .i64 0):=(zCl BK648.out 2).trans rfl;have hcz58_3 : w56.cell? ⟨gb648,3,none⟩ = some (.int .i64 0):=(zCl BK648.out 3).trans rfl;have hcz58_4 : w56.cell? ⟨gb648,4,none⟩ = some (.int .i64 0):=(zCl BK648.out 4).trans rfl;have hcz58_5 : w56.cell? ⟨gb648,5,none⟩ = some (.string (⟨#[]⟩ : ByteArray)):=(zCl BK648.out 5).trans rfl;have hfz58_0:=zFr BK648.out 0;have hfz58_1:=zFr BK648.out 1;have hfz58_2:=zFr BK648.out 2;have hfz58_3:=zFr BK648.out 3;have hfz58_4:=zFr BK648.out 4;have hfz58_5:=zFr BK648.out 5) | ((with_reducible refine gate_builtin (b:=.append) (xs:=#[.tmp 76,.tmp 79]) rfl ?_);at_builtin;refine Kd.R_append k36 w.heap.size rfl (.tmp 76) (.tmp 79) 31 36 (.agg #[(.int .i64 0),(.int .i64 0),(.int .i64 0),(.int .i64 0),(.int .i64 0),(.int .i64 0),(.int .i64 0),(.string ⟨#[]⟩)]) 72 rfl Try.underlying31 info36 rfl (by decide) (by omega) v642 y641 (⟨0,0,(⟨(rd_T33 t619 x9_4).f0,(rd_T33 t619 x9_4).f1,(rd_T33 t619 x9_4).f2,(rd_T33 t619 x9_4).f3,wrap64 (((rd_T33 t619 x9_4).f4) + 1),(rd_T33 t619 x9_4).f5⟩ : S33)⟩ : S36) [.int .i64 0,.int .i64 0,.int .i64 ((rd_T33 t619 x9_4).f0),.int .i64 ((rd_T33 t619 x9_4).f1),.int .i64 ((rd_T33 t619 x9_4).f2),.int .i64 ((rd_T33 t619 x9_4).f3),.int .i64 (wrap64 (((rd_T33 t619 x9_4).f4) + 1)),.string ((rd_T33 t619 x9_4).f5)] (fun _=>True) (fun _=>False) rfl (by first | (go_simp;done) | (go_simp;rfl)) ?aP (fun _ hk=>hk.elim) ?aF ?aO (Below.refl _ _) ?aS ?aL ?_;(case aP=>exact k36_mkM _ _ _ (⟨0,0,(⟨(rd_T33 t619 x9_4).f0,(rd_T33 t619 x9_4).f1,(rd_T33 t619 x9_4).f2,(rd_T33 t619 x9_4).f3,wrap64 (((rd_T33 t619 x9_4).f4) + 1),(rd_T33 t619 x9_4).f5⟩ : S33)⟩ : S36));(case aF=>exact (fun _ _=>trivial));(case aO=>exact (by (with_reducible repeat (first | apply Kd.R_alloc | apply Kd.R_drewN | apply Kd.R_drew));exact Kd.R_mono (Kd.R_far (p:=⟨gb648,4,none⟩) (Kd.R_far (p:=⟨gb648,5,none⟩) (Kd.R_far (p:=⟨gb648,4,none⟩) (Kd.R_far (p:=⟨gb648,3,none⟩) (Kd.R_far (p:=⟨gb648,2,none⟩) (Kd.R_far (p:=⟨gb648,1,none⟩) (Kd.R_far (p:=⟨gb648,0,none⟩) (Kd.R_types HO643.out BK648.out (by decide)) (fun _ hk=>hk.2) (.int .i64 ((rd_T33 t619 x9_4).f0))) (fun _ hk=>hk.2) (.int .i64 ((rd_T33 t619 x9_4).f1))) (fun _ hk=>hk.2) (.int .i64 ((rd_T33 t619 x9_4).f2))) (fun _ hk=>hk.2) (.int .i64 ((rd_T33 t619 x9_4).f3))) (fun _ hk=>hk.2) (.int .i64 ((rd_T33 t619 x9_4).f4))) (fun _ hk=>hk.2) (.string ((rd_T33 t619 x9_4).f5))) (fun _ hk=>hk.2) (.int .i64 (wrap64 (((rd_T33 t619 x9_4).f4) + 1)))) (fun _ hk=>trivial)));(case aS=>exact (keep_size (w:=w) (g:=g) (row:=none) (by repeat (first | (with_reducible first | exact HK.out | apply KeepBut.set_ | apply keep_drewN | apply keep_drew | apply keep_alloc | refine keep_far ?_ GW648.out _) | exact HK.out))));(case aL=>have:=LMc51.out;omega);intro v650 w59 ho hb hg hat;rw [← Ny649.out] at ho;have n0_:=zMk (Kd.R_over' (by (with_reducible repeat (first | apply Kd.R_alloc | apply Kd.R_drewN | apply Kd.R_drew));exact (Kd.R_mono (Kd.R_far (p:=⟨gb648,4,none⟩) (Kd.R_far (p:=⟨gb648,5,none⟩) (Kd.R_far (p:=⟨gb648,4,none⟩) (Kd.R_far (p:=⟨gb648,3,none⟩) (Kd.R_far (p:=⟨gb648,2,none⟩) (Kd.R_far (p:=⟨gb648,1,none⟩) (Kd.R_far (p:=⟨gb648,0,none⟩) (Kd.R_mono HO_7.out (fun k_ hk=>(⟨hk,hk.2⟩ : _ ∧ k_ ≠ gb648))) (fun _ hk=>hk.2) (.int .i64 ((rd_T33 t619 x9_4).f0))) (fun _ hk=>hk.2) (.int .i64 ((rd_T33 t619 x9_4).f1))) (fun _ hk=>hk.2) (.int .i64 ((rd_T33 t619 x9_4).f2))) (fun _ hk=>hk.2) (.int .i64 ((rd_T33 t619 x9_4).f3))) (fun _ hk=>hk.2) (.int .i64 ((rd_T33 t619 x9_4).f4))) (fun _ hk=>hk.2) (.string ((rd_T33 t619 x9_4).f5))) (fun _ hk=>hk.2) (.int .i64 (wrap64 (((rd_T33 t619 x9_4).f4) + 1)))) (fun _ h_=>h_.1))) (Kd.R_typed (by (with_reducible repeat (first | apply Kd.R_alloc | apply Kd.R_drewN | apply Kd.R_drew));exact (Kd.R_mono (Kd.R_far (p:=⟨gb648,4,none⟩) (Kd.R_far (p:=⟨gb648,5,none⟩) (Kd.R_far (p:=⟨gb648,4,none⟩) (Kd.R_far (p:=⟨gb648,3,none⟩) (Kd.R_far (p:=⟨gb648,2,none⟩) (Kd.R_far (p:=⟨gb648,1,none⟩) (Kd.R_far (p:=⟨gb648,0,none⟩) (Kd.R_types HO643.out BK648.out (by decide)) (fun _ hk=>hk.2) (.int .i64 ((rd_T33 t619 x9_4).f0))) (fun _ hk=>hk.2) (.int .i64 ((rd_T33 t619 x9_4).f1))) (fun _ hk=>hk.2) (.int .i64 ((rd_T33 t619 x9_4).f2))) (fun _ hk=>hk.2) (.int .i64 ((rd_T33 t619 x9_4).f3))) (fun _ hk=>hk.2) (.int .i64 ((rd_T33 t619 x9_4).f4))) (fun _ hk=>hk.2) (.string ((rd_T33 t619 x9_4).f5))) (fun _ hk=>hk.2) (.int .i64 (wrap64 (((rd_T33 t619 x9_4).f4) + 1)))) (fun _ h_=>h_.1)))) (by decide) hg);have n1_:=zMk (IsS80.grown (IsS80.far (IsS80.far (IsS80.far (IsS80.far (IsS80.far (IsS80.far (IsS80.far HI0.out (p:=⟨gb648,0,none⟩) NB0_648.out _) (p:=⟨gb648,1,none⟩) NB0_648.out _) (p:=⟨gb648,2,none⟩) NB0_648.out _) (p:=⟨gb648,3,none⟩) NB0_648.out _) (p:=⟨gb648,4,none⟩) NB0_648.out _) (p:=⟨gb648,5,none⟩) NB0_648.out _) (p:=⟨gb648,4,none⟩) NB0_648.out _) hg (IsS80.own_ne HI0.out HO643.out (by decide)));have n2_:=zMk (blk_grown (g:=gb648) (o:=.cells #[.int .i64 ((rd_T33 t619 x9_4).f0),.int .i64 ((rd_T33 t619 x9_4).f1),.int .i64 ((rd_T33 t619 x9_4).f2),.int .i64 ((rd_T33 t619 x9_4).f3),.int .i64 (wrap64 (((rd_T33 t619 x9_4).f4) + 1)),.string ((rd_T33 t619 x9_4).f5)] 33 (0,0)) (by (with_reducible repeat (first | refine blk_drewN ?_ _ | refine blk_drew ?_ | refine blk_alloc ?_ _));refine blk_put (cs:=#[.int .i64 ((rd_T33 t619 x9_4).f0),.int .i64 ((rd_T33 t619 x9_4).f1),.int .i64 ((rd_T33 t619 x9_4).f2),.int .i64 ((rd_T33 t619 x9_4).f3),.int .i64 ((rd_T33 t619 x9_4).f4),.string ((rd_T33 t619 x9_4).f5)]) ?_ 4 _ rfl;(with_reducible repeat (first | refine blk_drewN ?_ _ | refine blk_drew ?_ | refine blk_alloc ?_ _));refine blk_put (cs:=#[.int .i64 ((rd_T33 t619 x9_4).f0),.int .i64 ((rd_T33 t619 x9_4).f1),.int .i64 ((rd_T33 t619 x9_4).f2),.int .i64 ((rd_T33 t619 x9_4).f3),.int .i64 ((rd_T33 t619 x9_4).f4),.string (⟨#[]⟩ : ByteArray)]) ?_ 5 _ rfl;(with_reducible repeat (first | refine blk_drewN ?_ _ | refine blk_drew ?_ | refine blk_alloc ?_ _));refine blk_put (cs:=#[.int .i64 ((rd_T33 t619 x9_4).f0),.int .i64 ((rd_T33 t619 x9_4).f1),.int .i64 ((rd_T33 t619 x9_4).f2),.int .i64 ((rd_T33 t619 x9_4).f3),.int .i64 0,.string (⟨#[]⟩ : ByteArray)]) ?_ 4 _ rfl;(with_reducible repeat (first | refine blk_drewN ?_ _ | refine blk_drew ?_ | refine blk_alloc ?_ _));refine blk_put (cs:=#[.int .i64 ((rd_T33 t619 x9_4).f0),.int .i64 ((rd_T33 t619 x9_4).f1),.int .i64 ((rd_T33 t619 x9_4).f2),.int .i64 0,.int .i64 0,.string (⟨#[]⟩ : ByteArray)]) ?_ 3 _ rfl;(with_reducible repeat (first | refine blk_drewN ?_ _ | refine blk_drew ?_ | refine blk_alloc ?_ _));refine blk_put (cs:=#[.int .i64 ((rd_T33 t619 x9_4).f0),.int .i64 ((rd_T33 t619 x9_4).f1),.int .i64 0,.int .i64 0,.int .i64 0,.string (⟨#[]⟩ : ByteArray)]) ?_ 2 _ rfl;(with_reducible repeat (first | refine blk_drewN ?_ _ | refine blk_drew ?_ | refine blk_alloc ?_ _));refine blk_put (cs:=#[.int .i64 ((rd_T33 t619 x9_4).f0),.int .i64 0,.int .i64 0,.int .i64 0,.int .i64 0,.string (⟨#[]⟩ : ByteArray)]) ?_ 1 _ rfl;(with_reducible repeat (first | refine blk_drewN ?_ _ | refine blk_drew ?_ | refine blk_alloc ?_ _));refine blk_put (cs:=#[.int .i64 0,.int .i64 0,.int .i64 0,.int .i64 0,.int .i64 0,.string (⟨#[]⟩ : ByteArray)]) ?_ 0 _ rfl;(with_reducible repeat (first | refine blk_drewN ?_ _ | refine blk_drew ?_ | refine blk_alloc ?_ _));exact BK648.out) hg (Kd.R_ne HO643.out BK648.out (by decide)));have n3_:=zMk (below_weaken (by repeat (first | (with_reducible first | exact HB.out | apply below_alloc | apply pw_below_drewN | apply below_drew1 | refine below_set ?_ (IsS80.ge HI0.out) | refine below_set ?_ GE648.out) | exact HB.out)) HL.out hb);have n4_:=zMk (KeepBut.trans (by repeat (first | (with_reducible first | exact HK.out | apply KeepBut.set_ | apply keep_drewN | apply keep_drew | apply keep_alloc | refine keep_far ?_ GW648.out _) | exact HK.out)) (KeepBut.of_grown hg g) (Kd.R_base2 HO643.out));have n5_:=zMk (ho);clear HO_7;clear HI0;clear BK648;clear HB;clear HK;clear HO643;have HO_7:=n0_;have HI0:=n1_;have BK648:=n2_;have HB:=n3_;have HK:=n4_;have HO651:=n5_;clear n0_ n1_ n2_ n3_ n4_ n5_;clear ho hb hg hat));go_roundg k4;case measure=>have:=HK1.out;have:=HJ7.out;have:=HJ18.out;have:=HK4.out;omega
               case rel=>exact ⟨(y649),(wrap64 (x4_4 + 1)),(wrap64 (x9_4 + 1)),(t645),(t646),(by first | rfl | (simp;done) | (simp [*];done)),(by first | rfl | (simp;done) | (simp [*];done)),H',⟨by have:=HK1.out;have:=HJ7.out;have:=HJ18.out;have:=HK4.out;omega⟩,⟨rs HO651⟩,⟨by (with_reducible repeat (first | apply Kd.R_alloc | apply Kd.R_drewN | apply Kd.R_drew));exact Kd.R_mono HO_7.out (fun _ hk=>trivial)⟩,⟨by repeat (first | (with_reducible first | exact HI0.out | apply IsS80.alloc | apply IsS80.drewN | apply IsS80.drew | apply IsS80.set_1 | apply IsS80.set_2 | refine IsS80.far ?_ NB0_648.out _) | exact HI0.out)⟩,⟨by repeat (first | (with_reducible first | exact HK.out | apply KeepBut.set_ | apply keep_drewN | apply keep_drew | apply keep_alloc | refine keep_far ?_ GW648.out _) | exact HK.out)⟩,⟨by repeat (first | (with_reducible first | exact HB.out | apply below_alloc | apply pw_below_drewN | apply below_drew1 | refine below_set ?_ (IsS80.ge HI0.out) | refine below_set ?_ GE648.out) | exact HB.out)⟩⟩
              rw [if_neg c51] at H;exact absurd H (by simp)
             replace c50:=Bool.eq_false_iff.mpr c50;subst c50;have H1 : (spec_l10Found.l2 k4 y641 (wrap64 (x4_4 + 1)) x5_1 t619 (wrap64 (x9_4 + 1)) s0_0 t645 t646) = some (r1,r2,r3):=by rw [if_neg (show ¬ (false = true) by decide)] at H;exact H
             clear H;have H:=H1;clear H1;have H':=zMk H;clear H;go_wp2_with (first | ((with_reducible refine gate_callee (f:=28) rfl ?_);refine goesL_ (some 67) rfl rfl Try.func28 (by kernel_rfl) rfl #[.pointer (some ⟨g,0,none⟩),.int .i64 16] rfl (by (try simp only [List.map_toArray,List.map_cons,List.map_nil]);first | done | rfl | (simp only [List.length_drop,List.length_take];rfl)) ?_;(with_reducible refine (spec_l01Once.calls g s0_0 t630 t631 16 false t645 t646 w0 _ ?side1 ?side2 A49.out).mono ?_);(case side1=>repeat (first | (with_reducible first | exact HI0.out | apply IsS80.alloc | apply IsS80.drewN | apply IsS80.drew | apply IsS80.set_1 | apply IsS80.set_2) | exact HI0.out));(case side2=>repeat (first | (with_reducible first | exact HB.out | apply below_alloc | apply pw_below_drewN | apply below_drew1 | refine below_set ?_ (IsS80.ge HI0.out)) | exact HB.out));rintro e w63 ⟨rfl,hi,hb,hk⟩;refine ⟨_,rfl,?_⟩;have n0_:=zMk (Kd.R_mono (Kd.R_keep (IsS80.apart (show IsS80 w0 _ g s0_0 t630 t631 from by repeat (first | (with_reducible first | exact HI0.out | apply IsS80.alloc | apply IsS80.drewN | apply IsS80.drew | apply IsS80.set_1 | apply IsS80.set_2) | exact HI0.out)) (rs HO_7) (by decide)) hk (fun _ h=>h.2)) (fun _ h=>h.1));have n1_:=zMk (Kd.R_mono (Kd.R_keep (IsS80.apart (show IsS80 w0 _ g s0_0 t630 t631 from by repeat (first | (with_reducible first | exact HI0.out | apply IsS80.alloc | apply IsS80.drewN | apply IsS80.drew | apply IsS80.set_1 | apply IsS80.set_2) | exact HI0.out)) (rs HO643) (by decide)) hk (fun _ h=>h.2)) (fun _ h=>h.1));have n2_:=zMk (KeepBut.trans (by repeat (first | (with_reducible first | exact HK.out | apply KeepBut.set_ | apply keep_drewN | apply keep_drew | apply keep_alloc) | exact HK.out)) hk (.inl rfl));have n3_:=zMk (hb);have n4_:=zMk (hi);clear HO_7;clear HO643;clear HK;clear HB;clear HI0;have HO_7:=n0_;have HO643:=n1_;have HK:=n2_;have HB:=n3_;have HI0:=n4_;clear n0_ n1_ n2_ n3_ n4_;(try clear hb);(try clear hb2);(try clear hk);(try clear hi)));go_roundg k4;case measure=>have:=HK1.out;have:=HJ7.out;have:=HJ18.out;have:=HK4.out;omega
             case rel=>exact ⟨(y641),(wrap64 (x4_4 + 1)),(wrap64 (x9_4 + 1)),(t645),(t646),(by first | rfl | (simp;done) | (simp [*];done)),(by first | rfl | (simp;done) | (simp [*];done)),H',⟨by have:=HK1.out;have:=HJ7.out;have:=HJ18.out;have:=HK4.out;omega⟩,⟨rs HO643⟩,⟨rs HO_7⟩,⟨by repeat (first | (with_reducible first | exact HI0.out | apply IsS80.alloc | apply IsS80.drewN | apply IsS80.drew | apply IsS80.set_1 | apply IsS80.set_2) | exact HI0.out)⟩,⟨by repeat (first | (with_reducible first | exact HK.out | apply KeepBut.set_ | apply keep_drewN | apply keep_drew | apply keep_alloc) | exact HK.out)⟩,⟨by repeat (first | (with_reducible first | exact HB.out | apply below_alloc | apply pw_below_drewN | apply below_drew1 | refine below_set ?_ (IsS80.ge HI0.out)) | exact HB.out)⟩⟩
            rw [if_neg c48] at H;exact absurd H (by simp)
           rw [if_neg c47] at H;exact absurd H (by simp)
          rw [if_neg c30] at H;have c30b0 : decide (x9_4 < (t619.length : Int)) = false:=decide_eq_false c30;clear c30;replace H:=Option.bind_eq_some_iff.mp H;obtain ⟨⟨t623,t624,t625⟩,A640,H⟩:=H;replace H : (if t623 = true then (if x3_4.length < 1954687338268 then (spec_l10Found.l0 k4 (x3_4 ++ [(⟨0,0,(⟨1,x4_4,x5_1,0,1,(⟨#[120]⟩ : ByteArray)⟩ : S33)⟩ : S36)]) x4_4 (wrap64 (x5_1 + 1)) s0_0 t624 t625) else (none)) else (spec_l10Found.l0 k4 x3_4 x4_4 (wrap64 (x5_1 + 1)) s0_0 t624 t625)) = some (r1,r2,r3):=H;have A64:=zMk A640;clear A640;obtain ⟨Ao67,co67,eo67⟩:=Kd.R_slice HO_7.out;subst eo67
          go_upto_if 84 with (first | ((with_reducible refine gate_callee (f:=28) rfl ?_);refine goesL_ (some 84) rfl rfl Try.func28 (by kernel_rfl) rfl #[.pointer (some ⟨g,0,none⟩),.int .i64 4] rfl (by (try simp only [List.map_toArray,List.map_cons,List.map_nil]);first | done | rfl | (simp only [List.length_drop,List.length_take];rfl)) ?_;(with_reducible refine (spec_l01Once.calls g s0_0 x1001_4 x1002_4 4 t623 t624 t625 w0 _ ?side1 ?side2 A64.out).mono ?_);(case side1=>repeat (first | (with_reducible first | exact HI0.out | apply IsS80.alloc | apply IsS80.drewN | apply IsS80.drew | apply IsS80.set_1 | apply IsS80.set_2) | exact HI0.out));(case side2=>repeat (first | (with_reducible first | exact HB.out | apply below_alloc | apply pw_below_drewN | apply below_drew1 | refine below_set ?_ (IsS80.ge HI0.out)) | exact HB.out));rintro e w68 ⟨rfl,hi,hb,hk⟩;refine ⟨_,rfl,?_⟩;have n0_:=zMk (Kd.R_mono (Kd.R_keep (IsS80.apart (show IsS80 w0 _ g s0_0 x1001_4 x1002_4 from by repeat (first | (with_reducible first | exact HI0.out | apply IsS80.alloc | apply IsS80.drewN | apply IsS80.drew | apply IsS80.set_1 | apply IsS80.set_2) | exact HI0.out)) (rs HO_3) (by decide)) hk (fun _ h=>h.2)) (fun _ h=>h.1));have n1_:=zMk (Kd.R_mono (Kd.R_keep (IsS80.apart (show IsS80 w0 _ g s0_0 x1001_4 x1002_4 from by repeat (first | (with_reducible first | exact HI0.out | apply IsS80.alloc | apply IsS80.drewN | apply IsS80.drew | apply IsS80.set_1 | apply IsS80.set_2) | exact HI0.out)) (rs HO_7) (by decide)) hk (fun _ h=>h.2)) (fun _ h=>h.1));have n2_:=zMk (KeepBut.trans (by repeat (first | (with_reducible first | exact HK.out | apply KeepBut.set_ | apply keep_drewN | apply keep_drew | apply keep_alloc) | exact HK.out)) hk (.inl rfl));have n3_:=zMk (hb);have n4_:=zMk (hi);clear HO_3;clear HO_7;clear HK;clear HB;clear HI0;have HO_3:=n0_;have HO_7:=n1_;have HK:=n2_;have HB:=n3_;have HI0:=n4_;clear n0_ n1_ n2_ n3_ n4_;(try clear hb);(try clear hb2);(try clear hk);(try clear hi)))
          (try simp only [Act.put,zS1,zS2,zS3])
          by_cases c65 : t623 = true
          ·subst c65;have H1 : (if x3_4.length < 1954687338268 then (spec_l10Found.l0 k4 (x3_4 ++ [(⟨0,0,(⟨1,x4_4,x5_1,0,1,(⟨#[120]⟩ : ByteArray)⟩ : S33)⟩ : S36)]) x4_4 (wrap64 (x5_1 + 1)) s0_0 t624 t625) else (none)) = some (r1,r2,r3):=by rw [if_pos rfl] at H;exact H
           clear H;have H:=H1;clear H1
           by_cases c66 : x3_4.length < 1954687338268
           ·rw [if_pos c66] at H;have LMc66:=zMk c66;clear c66;obtain ⟨y626,hy626⟩ : ∃ y_ : List (S36),y_ = (x3_4 ++ [(⟨0,0,(⟨1,x4_4,x5_1,0,1,(⟨#[120]⟩ : ByteArray)⟩ : S33)⟩ : S36)]):=⟨_,rfl⟩;replace H : (spec_l10Found.l0 k4 y626 x4_4 (wrap64 (x5_1 + 1)) s0_0 t624 t625) = some (r1,r2,r3):=by first | (rw [hy626];with_reducible exact H) | (have H2_:=(Option.bind_some _ _).symm.trans H;rw [hy626];with_reducible exact H2_) | (have H2_:=(Option.bind_some _ _).symm.trans H;with_reducible exact H2_) | with_reducible exact H | (rw [hy626];exact H) | exact H
            have Ny626:=zMk hy626;clear hy626;have H':=zMk H;clear H;go_wp2_with (first | ((with_reducible refine gate_builtin (b:=.append) (xs:=#[.tmp 85,.tmp 90]) rfl ?_);at_builtin;refine Kd.R_append k36 w.heap.size rfl (.tmp 85) (.tmp 90) 31 36 (.agg #[(.int .i64 0),(.int .i64 0),(.int .i64 0),(.int .i64 0),(.int .i64 0),(.int .i64 0),(.int .i64 0),(.string ⟨#[]⟩)]) 72 rfl Try.underlying31 info36 rfl (by decide) (by omega) u3 x3_4 (⟨0,0,(⟨1,x4_4,x5_1,0,1,(⟨#[120]⟩ : ByteArray)⟩ : S33)⟩ : S36) [.int .i64 0,.int .i64 0,.int .i64 1,.int .i64 x4_4,.int .i64 x5_1,.int .i64 0,.int .i64 1,.string (⟨#[120]⟩ : ByteArray)] (fun _=>True) (fun _=>False) rfl rfl ?aP (fun _ hk=>hk.elim) ?aF ?aO (Below.refl _ _) ?aS ?aL ?_;(case aP=>exact k36_mkM _ _ _ (⟨0,0,(⟨1,x4_4,x5_1,0,1,(⟨#[120]⟩ : ByteArray)⟩ : S33)⟩ : S36));(case aF=>exact (fun _ _=>trivial));(case aO=>exact (rs HO_3));(case aS=>exact (keep_size (w:=w) (g:=g) (row:=none) (by repeat (first | (with_reducible first | exact HK.out | apply KeepBut.set_ | apply keep_drewN | apply keep_drew | apply keep_alloc) | exact HK.out))));(case aL=>have:=LMc66.out;omega);intro v627 w69 ho hb hg hat;rw [← Ny626.out] at ho;have n0_:=zMk (Kd.R_over' (rs HO_7) (Kd.R_typed (rs HO_3)) (by decide) hg);have n1_:=zMk (IsS80.grown (by repeat (first | (with_reducible first | exact HI0.out | apply IsS80.alloc | apply IsS80.drewN | apply IsS80.drew | apply IsS80.set_1 | apply IsS80.set_2) | exact HI0.out)) hg (IsS80.own_ne HI0.out HO_3.out (by decide)));have n2_:=zMk (below_weaken (by repeat (first | (with_reducible first | exact HB.out | apply below_alloc | apply pw_below_drewN | apply below_drew1 | refine below_set ?_ (IsS80.ge HI0.out)) | exact HB.out)) HL.out hb);have n3_:=zMk (KeepBut.trans (by repeat (first | (with_reducible first | exact HK.out | apply KeepBut.set_ | apply keep_drewN | apply keep_drew | apply keep_alloc) | exact HK.out)) (KeepBut.of_grown hg g) (Kd.R_base2 HO_3.out));have n4_:=zMk (ho);clear HO_7;clear HI0;clear HB;clear HK;clear HO_3;have HO_7:=n0_;have HI0:=n1_;have HB:=n2_;have HK:=n3_;have HO628:=n4_;clear n0_ n1_ n2_ n3_ n4_;clear ho hb hg hat));go_roundg k4;case measure=>have:=HK1.out;have:=HJ7.out;have:=HJ18.out;have:=HK4.out;omega
            case rel=>exact ⟨(y626),(x4_4),(wrap64 (x5_1 + 1)),(t624),(t625),(by first | rfl | (simp;done) | (simp [*];done)),(by first | rfl | (simp;done) | (simp [*];done)),H',⟨by have:=HK1.out;have:=HJ7.out;have:=HJ18.out;have:=HK4.out;omega⟩,⟨rs HO628⟩,⟨by repeat (first | (with_reducible first | exact HI0.out | apply IsS80.alloc | apply IsS80.drewN | apply IsS80.drew | apply IsS80.set_1 | apply IsS80.set_2) | exact HI0.out)⟩,⟨by repeat (first | (with_reducible first | exact HK.out | apply KeepBut.set_ | apply keep_drewN | apply keep_drew | apply keep_alloc) | exact HK.out)⟩,⟨by repeat (first | (with_reducible first | exact HB.out | apply below_alloc | apply pw_below_drewN | apply below_drew1 | refine below_set ?_ (IsS80.ge HI0.out)) | exact HB.out)⟩⟩
           rw [if_neg c66] at H;exact absurd H (by simp)
          replace c65:=Bool.eq_false_iff.mpr c65;subst c65;have H1 : (spec_l10Found.l0 k4 x3_4 x4_4 (wrap64 (x5_1 + 1)) s0_0 t624 t625) = some (r1,r2,r3):=by rw [if_neg (show ¬ (false = true) by decide)] at H;exact H
          clear H;have H:=H1;clear H1;have H':=zMk H;clear H
          go_wp2
          go_roundg k4;case measure=>have:=HK1.out;have:=HJ7.out;have:=HJ18.out;have:=HK4.out;omega
          case rel=>exact ⟨(x3_4),(x4_4),(wrap64 (x5_1 + 1)),(t624),(t625),(by first | rfl | (simp;done) | (simp [*];done)),(by first | rfl | (simp;done) | (simp [*];done)),H',⟨by have:=HK1.out;have:=HJ7.out;have:=HJ18.out;have:=HK4.out;omega⟩,⟨rs HO_3⟩,⟨by repeat (first | (with_reducible first | exact HI0.out | apply IsS80.alloc | apply IsS80.drewN | apply IsS80.drew | apply IsS80.set_1 | apply IsS80.set_2) | exact HI0.out)⟩,⟨by repeat (first | (with_reducible first | exact HK.out | apply KeepBut.set_ | apply keep_drewN | apply keep_drew | apply keep_alloc) | exact HK.out)⟩,⟨by repeat (first | (with_reducible first | exact HB.out | apply below_alloc | apply pw_below_drewN | apply below_drew1 | refine below_set ?_ (IsS80.ge HI0.out)) | exact HB.out)⟩⟩
   rw [if_neg c5] at H;have c5b0 : decide (x5_1 ≤ t596) = false:=decide_eq_false c5;clear c5
   (first | rw [c5b0] | (simp only [i64_w,i32_w];rw [c5b0]) | skip)
   simp only [Option.some.injEq,Prod.mk.injEq] at H;obtain ⟨rfl,rfl,rfl⟩:=H
   go_wp2
   go_ret
   exact ⟨_,by first | rfl | (simp [errW_none,errW_some] <;> rfl) | (simp [*,errW_none,errW_some] <;> rfl),rs HO_3,by repeat (first | (with_reducible first | exact HI0.out | apply IsS80.alloc | apply IsS80.drewN | apply IsS80.drew | apply IsS80.set_1 | apply IsS80.set_2) | exact HI0.out),by repeat (first | (with_reducible first | exact HB.out | apply below_alloc | apply pw_below_drewN | apply below_drew1 | refine below_set ?_ (IsS80.ge HI0.out)) | exact HB.out),by repeat (first | (with_reducible first | exact HK.out | apply KeepBut.set_ | apply keep_drewN | apply keep_drew | apply keep_alloc) | exact HK.out)⟩
def spec_DrawGather.f (k : Nat) (l0 : List Int) : Option ((List (S36))):=(spec_l01New.f k l0).bind fun bt652=>((spec_l10Found.f k bt652.1 bt652.2.1 bt652.2.2).bind fun bt656=>(some bt656.1))
theorem spec_DrawGather.mono : ∀ a0 k,LeO (spec_DrawGather.f k a0) (spec_DrawGather.f (k + 1) a0):=by
 intro a0 k;unfold spec_DrawGather.f
 repeat' first
   | (with_reducible exact spec_l01New.mono _ _)
   | (with_reducible exact spec_l10Found.mono _ _ _ _)
   | (with_reducible exact LeO.refl _)
   | (with_reducible exact LeO.none _)
   | (with_reducible refine LeO.ite ?_ ?_)
   | (with_reducible refine LeO.bind ?_ (fun _=>?_))
   | exact spec_l01New.mono _ _
   | exact spec_l10Found.mono _ _ _ _
   | exact LeO.none _
   | refine LeO.ite ?_ ?_
   | refine LeO.bind ?_ (fun _=>?_)
set_option maxHeartbeats 8000000 in
set_option maxRecDepth 100000 in
theorem spec_DrawGather.calls (k : Nat) (A0 : Option Addr) (c0 : Nat) (l0 : List Int) (r : List (S36)) (w : World) (hr0 : Kd.C (Kd.int .u8) w A0 l0.length l0) (hc0 : l0.length ≤ c0) (h : spec_DrawGather.f k l0 = some r) :
  Calls Try.prog 17 #[.slice A0 l0.length c0] w fun e w'=>∃ v0_ : Value,e = .returned (v0_) ∧ Kd.R k36 36 w' w.heap.size (fun _=>True) v0_ r ∧ Below w.heap.size w w':=by
 have HR0:=zMk hr0;have HC0:=zMk hc0;clear hr0 hc0;have HB:=zMk (Below.refl w.heap.size w);have H : ((spec_l01New.f k l0).bind fun bt652=>((spec_l10Found.f k bt652.1 bt652.2.1 bt652.2.2).bind fun bt656=>(some bt656.1))) = some r:=h;clear h;replace H:=Option.bind_eq_some_iff.mp H;obtain ⟨⟨t652,t653,t654⟩,A20,H⟩:=H;replace H : ((spec_l10Found.f k t652 t653 t654).bind fun bt656=>(some bt656.1)) = some r:=H;have A2:=zMk A20;clear A20;replace H:=Option.bind_eq_some_iff.mp H;obtain ⟨⟨t656,t659,t660⟩,A30,H⟩:=H;replace H : (some t656) = some r:=H;have A3:=zMk A30;clear A30;obtain rfl:=Option.some.inj H
 go_enter Try.func17,Try.ntmps17
 go_wp2_with (first | ((with_reducible refine gate_callee (f:=26) rfl ?_);refine goesL_ (some 4) rfl rfl Try.func26 (by kernel_rfl) rfl #[.slice A0 l0.length c0] rfl (by (try simp only [List.map_toArray,List.map_cons,List.map_nil]);first | done | rfl | (simp only [List.length_drop,List.length_take];rfl)) ?_;(with_reducible refine (spec_l01New.calls k _ _ l0 t652 t653 t654 w _ ?side1 ?side2 ?side3 A2.out).mono ?_);(case side1=>repeat (first | (with_reducible first | exact HB.out | apply below_alloc | apply pw_below_drewN | apply below_drew1) | exact HB.out));(case side2=>exact HR0.out);(case side3=>exact HC0.out);rintro e w4 ⟨g655,rfl,hi,hb,hb2⟩;refine ⟨_,rfl,?_⟩;have n0_:=zMk (hb);have n1_:=zMk (hi);clear HB;have HB:=n0_;have HI655:=n1_;clear n0_ n1_;(try clear hb);(try clear hb2);(try clear hk);(try clear hi)) | ((with_reducible refine gate_callee (f:=39) rfl ?_);refine goesL_ (some 5) rfl rfl Try.func39 (by kernel_rfl) rfl #[.pointer (some ⟨g655,0,none⟩)] rfl (by (try simp only [List.map_toArray,List.map_cons,List.map_nil]);first | done | rfl | (simp only [List.length_drop,List.length_take];rfl)) ?_;(with_reducible refine (spec_l10Found.calls k g655 t652 t653 t654 t656 t659 t660 w _ ?side1 ?side2 A3.out).mono ?_);(case side1=>repeat (first | (with_reducible first | exact HI655.out | apply IsS80.alloc | apply IsS80.drewN | apply IsS80.drew | apply IsS80.set_1 | apply IsS80.set_2) | exact HI655.out));(case side2=>repeat (first | (with_reducible first | exact HB.out | apply below_alloc | apply pw_below_drewN | apply below_drew1 | refine below_set ?_ (IsS80.ge HI655.out)) | exact HB.out));rintro e w5 ⟨v657,rfl,ho0,hi,hb,hk⟩;refine ⟨_,rfl,?_⟩;have n0_:=zMk (Kd.R_lower ho0 (below_size (by repeat (first | (with_reducible first | exact HB.out | apply below_alloc | apply pw_below_drewN | apply below_drew1 | refine below_set ?_ (IsS80.ge HI655.out)) | exact HB.out))));have n1_:=zMk (hb);have n2_:=zMk (hi);clear HB;clear HI655;have HO658:=n0_;have HB:=n1_;have HI655:=n2_;clear n0_ n1_ n2_;(try clear hb);(try clear hb2);(try clear hk);(try clear hi);(try clear ho0)))
 go_ret
 exact ⟨_,by first | rfl | (simp [errW_none,errW_some] <;> rfl) | (simp [*,errW_none,errW_some] <;> rfl),rs HO658,by repeat (first | (with_reducible first | exact HB.out | apply below_alloc | apply pw_below_drewN | apply below_drew1 | refine below_set ?_ (IsS80.ge HI655.out)) | exact HB.out)⟩
mutual
def spec_ReadVar.l0 : Nat → ByteArray → Int → Int → Int → Int → Option (Int × Int × Bool)
 | 0,_,_,_,_,_=>none
 | k + 1,x0,x1,x7,x8,x9=>if x9 < (x0.size : Int) then (spec_ReadVar.j1 k x0 x1 x7 x8 x9 (decide (x9 < (wrap64 (x1 + 5))))) else (spec_ReadVar.j1 k x0 x1 x7 x8 x9 false)
def spec_ReadVar.j1 : Nat → ByteArray → Int → Int → Int → Int → Bool → Option (Int × Int × Bool)
 | 0,_,_,_,_,_,_=>none
 | k + 1,x0,x1,x7,x8,x9,x25=>if x25 = true then (if 0 ≤ x9 then (if x9 < (x0.size : Int) then (if (bt x0 x9) < 128 then (if (wrap64 (x7 + (wrap64 ((Int.tmod (wrap64 (bt x0 x9)) 128) * x8)))) > 1000000000 then (some (0,0,false)) else ((spec_l01Var.f k (wrap64 (x7 + (wrap64 ((Int.tmod (wrap64 (bt x0 x9)) 128) * x8))))).bind fun t662=>(if 0 ≤ x1 then (if x1 ≤ (wrap64 (x9 + 1)) then (if (wrap64 (x9 + 1)) ≤ (x0.size : Int) then (if t662.toList = (x0.extract (x1 : Int).toNat ((wrap64 (x9 + 1)) : Int).toNat).toList then (some (wrap64 (x7 + (wrap64 ((Int.tmod (wrap64 (bt x0 x9)) 128) * x8))),wrap64 (x9 + 1),true)) else (some (0,0,false))) else (none)) else (none)) else (none)))) else (spec_ReadVar.l0 k x0 x1 (wrap64 (x7 + (wrap64 ((Int.tmod (wrap64 (bt x0 x9)) 128) * x8)))) (wrap64 (x8 * 128)) (wrap64 (x9 + 1)))) else (none)) else (none)) else (some (0,0,false))
end
def spec_ReadVar.f (k : Nat) (a0 : ByteArray) (a1 : Int) : Option (Int × Int × Bool):=(spec_l01In.f a1 0 (a0.size : Int)).bind fun t661=>(if t661 = true then (spec_ReadVar.l0 k a0 a1 0 1 a1) else (some (0,0,false)))
theorem spec_ReadVar.mono_l : ∀ k,(∀ y0 y1 y2 y3 y4,LeO (spec_ReadVar.l0 k y0 y1 y2 y3 y4) (spec_ReadVar.l0 (k + 1) y0 y1 y2 y3 y4)) ∧ (∀ y0 y1 y2 y3 y4 y5,LeO (spec_ReadVar.j1 k y0 y1 y2 y3 y4 y5) (spec_ReadVar.j1 (k + 1) y0 y1 y2 y3 y4 y5))
 | 0=>⟨fun _ _ _ _ _ r h=>by simp [spec_ReadVar.l0] at h,fun _ _ _ _ _ _ r h=>by simp [spec_ReadVar.j1] at h⟩
 | k + 1=>by
  obtain ⟨ih0,ih1⟩:=spec_ReadVar.mono_l k;refine ⟨?_,?_⟩
  ·intro y0 y1 y2 y3 y4;unfold spec_ReadVar.l0
   repeat' first
   | (with_reducible exact ih0 _ _ _ _ _)
   | (with_reducible exact ih1 _ _ _ _ _ _)
   | (with_reducible exact spec_l01Var.mono _ _)
   | (with_reducible exact LeO.refl _)
   | (with_reducible exact LeO.none _)
   | (with_reducible refine LeO.ite ?_ ?_)
   | (with_reducible refine LeO.bind ?_ (fun _=>?_))
   | exact ih0 _ _ _ _ _
   | exact ih1 _ _ _ _ _ _
   | exact spec_l01Var.mono _ _
   | exact LeO.none _
   | refine LeO.ite ?_ ?_
   | refine LeO.bind ?_ (fun _=>?_)
  intro y0 y1 y2 y3 y4 y5;unfold spec_ReadVar.j1
  repeat' first
  | (with_reducible exact ih0 _ _ _ _ _)
  | (with_reducible exact ih1 _ _ _ _ _ _)
  | (with_reducible exact spec_l01Var.mono _ _)
  | (with_reducible exact LeO.refl _)
  | (with_reducible exact LeO.none _)
  | (with_reducible refine LeO.ite ?_ ?_)
  | (with_reducible refine LeO.bind ?_ (fun _=>?_))
  | exact ih0 _ _ _ _ _
  | exact ih1 _ _ _ _ _ _
  | exact spec_l01Var.mono _ _
  | exact LeO.none _
  | refine LeO.ite ?_ ?_
  | refine LeO.bind ?_ (fun _=>?_)
theorem spec_ReadVar.mono : ∀ a0 a1 k,LeO (spec_ReadVar.f k a0 a1) (spec_ReadVar.f (k + 1) a0 a1):=by
 intro a0 a1 k;obtain ⟨ih0,ih1⟩:=spec_ReadVar.mono_l k;unfold spec_ReadVar.f
 repeat' first
   | (with_reducible exact ih0 _ _ _ _ _)
   | (with_reducible exact ih1 _ _ _ _ _ _)
   | (with_reducible exact spec_l01Var.mono _ _)
   | (with_reducible exact LeO.refl _)
   | (with_reducible exact LeO.none _)
   | (with_reducible refine LeO.ite ?_ ?_)
   | (with_reducible refine LeO.bind ?_ (fun _=>?_))
   | exact ih0 _ _ _ _ _
   | exact ih1 _ _ _ _ _ _
   | exact spec_l01Var.mono _ _
   | exact LeO.none _
   | refine LeO.ite ?_ ?_
   | refine LeO.bind ?_ (fun _=>?_)
def spec_ReadVar.T11 : Bool × List (List Nat × List Nat):=(true,[([],[]),([0],[0]),([1],[1]),([2],[2]),([3,2,2],[2,3]),([2],[2]),([2],[2]),([2],[2]),([7,2],[2,7]),([5,6,8,2],[2,5,6,8]),([4,9,2],[2,4,9]),([2,10],[2,10])])
def spec_ReadVar.B11 : List Nat:=[0,1,3,7,15,7,7,7,135,487,1023,2047]
theorem spec_ReadVar.tab11 : rtab .any (opsOf Try.f80 11) = spec_ReadVar.T11:=by kernel_rfl
theorem spec_ReadVar.bits11 : waitsOk spec_ReadVar.T11.2 spec_ReadVar.B11 = true:=by kernel_rfl
set_option maxHeartbeats 8000000 in
set_option maxRecDepth 100000 in
theorem spec_ReadVar.calls (k : Nat) (a0 : ByteArray) (a1 : Int) (r1 : Int) (r2 : Int) (r3 : Bool) (w : World) (h : spec_ReadVar.f k a0 a1 = some (r1,r2,r3)) :
  Calls Try.prog 80 #[.string a0,.int .i64 a1] w fun e w'=>e = .returned (.tuple #[.int .i64 r1,.int .i64 r2,.bool r3]) ∧ Below w.heap.size w w':=by
 have HB:=zMk (Below.refl w.heap.size w);have H : ((spec_l01In.f a1 0 (a0.size : Int)).bind fun t661=>(if t661 = true then (spec_ReadVar.l0 k a0 a1 0 1 a1) else (some (0,0,false)))) = some (r1,r2,r3):=h;clear h;replace H:=Option.bind_eq_some_iff.mp H;obtain ⟨t661,A30,H⟩:=H;replace H : (if t661 = true then (spec_ReadVar.l0 k a0 a1 0 1 a1) else (some (0,0,false))) = some (r1,r2,r3):=H;have A3:=zMk A30;clear A30
 go_enter Try.func80,Try.ntmps80
 go_upto_if 14 with (first | ((with_reducible refine gate_callee (f:=34) rfl ?_);refine goesL_ (some 13) rfl rfl Try.func34 (by kernel_rfl) rfl #[.int .i64 a1,.int .i64 0,.int .i64 (a0.size : Int)] rfl (by (try simp only [List.map_toArray,List.map_cons,List.map_nil]);first | done | rfl | (simp only [List.length_drop,List.length_take];rfl)) ?_;(with_reducible refine (spec_l01In.calls a1 0 (a0.size : Int) t661 _ A3.out).mono ?_);rintro e w' ⟨rfl,⟨nd,rfl⟩⟩;refine ⟨_,rfl,?_⟩))
 (try simp only [Act.put,zS1,zS2,zS3])
 by_cases c4 : t661 = true
 ·subst c4;have H1 : (spec_ReadVar.l0 k a0 a1 0 1 a1) = some (r1,r2,r3):=by rw [if_pos rfl] at H;exact H
  clear H;have H:=H1;clear H1;have H':=zMk H;clear H
  go_wp2
  go_loopg [7,8,9] k (fun kq v7 v8 v9 w'=>∃ (x7_1 : Int) (x8_1 : Int) (x9_1 : Int),v7 = .int .i64 x7_1 ∧ v8 = .int .i64 x8_1 ∧ v9 = .int .i64 x9_1 ∧ Aside0 (spec_ReadVar.l0 kq a0 a1 x7_1 x8_1 x9_1 = some (r1,r2,r3)) ∧ Aside0 (kq ≤ k) ∧ Aside0 (Below w.heap.size w w'));case atStart=>exact ⟨(0),(1),(a1),(by first | rfl | (simp;done) | (simp [*];done)),(by first | rfl | (simp;done) | (simp [*];done)),(by first | rfl | (simp;done) | (simp [*];done)),H',⟨Nat.le_refl _⟩,⟨hs HB⟩⟩
  case round =>
   clear H'
   try clear p2
   try clear c3
   try clear c4
   obtain ⟨x7_1,x8_1,x9_1,rfl,rfl,rfl,HA,HK1,HB⟩:=hrel;cases gk with
   | zero=>exact absurd HA.out (by simp [spec_ReadVar.l0])
   | succ k1 =>
    have H:=HA.out;clear HA;simp only [spec_ReadVar.l0] at H;have HC5:=zMk H;clear H;go_upto_region 6 with (fail);go_cut [25] (fun v25 wc=>∃ (kq : Nat) (x25_4 : Bool),v25 = .bool x25_4 ∧ Aside0 (spec_ReadVar.j1 kq a0 a1 x7_1 x8_1 x9_1 x25_4 = some (r1,r2,r3)) ∧ Aside0 (kq ≤ k1) ∧ Aside0 (Below w.heap.size w wc))
    case first =>
     have H:=HC5.out;clear HC5
     by_cases c6 : x9_1 < (a0.size : Int)
     ·rw [if_pos c6] at H;have c6b0 : decide (x9_1 < (a0.size : Int)) = true:=decide_eq_true c6;clear c6
      (first | rw [c6b0] | (simp only [i64_w,i32_w];rw [c6b0]) | skip)
      have H':=zMk H;clear H
      go_wp2
      go_meet
      case rel=>exact ⟨_,(decide (x9_1 < (wrap64 (a1 + 5)))),(by first | rfl | (simp;done) | (simp [*];done)),H',⟨by have:=HK1.out;first | omega | exact Nat.le_refl _⟩,⟨hs HB⟩⟩
     rw [if_neg c6] at H;have c6b0 : decide (x9_1 < (a0.size : Int)) = false:=decide_eq_false c6;clear c6
     (first | rw [c6b0] | (simp only [i64_w,i32_w];rw [c6b0]) | skip)
     have H':=zMk H;clear H
     go_wp2
     go_meet
     case rel=>exact ⟨_,(false),(by first | rfl | (simp;done) | (simp [*];done)),H',⟨by have:=HK1.out;first | omega | exact Nat.le_refl _⟩,⟨hs HB⟩⟩
    case rest =>
     clear HC5
     try clear p2
     try clear c3
     try clear c4
     try clear c6
     try clear c6b0
     try clear p6
     try clear p2
     obtain ⟨kq,x25_4,rfl,HA,HJ4,HB⟩:=hcut;cases kq with
     | zero=>exact absurd HA.out (by simp [spec_ReadVar.j1])
     | succ kj4 =>
      have H:=HA.out;clear HA;simp only [spec_ReadVar.j1] at H
      by_cases c7 : x25_4 = true
      ·subst c7;have H1 : (if 0 ≤ x9_1 then (if x9_1 < (a0.size : Int) then (if (bt a0 x9_1) < 128 then (if (wrap64 (x7_1 + (wrap64 ((Int.tmod (wrap64 (bt a0 x9_1)) 128) * x8_1)))) > 1000000000 then (some (0,0,false)) else ((spec_l01Var.f kj4 (wrap64 (x7_1 + (wrap64 ((Int.tmod (wrap64 (bt a0 x9_1)) 128) * x8_1))))).bind fun t662=>(if 0 ≤ a1 then (if a1 ≤ (wrap64 (x9_1 + 1)) then (if (wrap64 (x9_1 + 1)) ≤ (a0.size : Int) then (if t662.toList = (a0.extract (a1 : Int).toNat ((wrap64 (x9_1 + 1)) : Int).toNat).toList then (some (wrap64 (x7_1 + (wrap64 ((Int.tmod (wrap64 (bt a0 x9_1)) 128) * x8_1))),wrap64 (x9_1 + 1),true)) else (some (0,0,false))) else (none)) else (none)) else (none)))) else (spec_ReadVar.l0 kj4 a0 a1 (wrap64 (x7_1 + (wrap64 ((Int.tmod (wrap64 (bt a0 x9_1)) 128) * x8_1)))) (wrap64 (x8_1 * 128)) (wrap64 (x9_1 + 1)))) else (none)) else (none)) = some (r1,r2,r3):=by rw [if_pos rfl] at H;exact H
       clear H;have H:=H1;clear H1
       by_cases c8 : 0 ≤ x9_1
       ·rw [if_pos c8] at H;have c8b0 : decide (0 ≤ x9_1) = true:=decide_eq_true c8;clear c8
        by_cases c9 : x9_1 < (a0.size : Int)
        ·rw [if_pos c9] at H;have c9b0 : decide (x9_1 < (a0.size : Int)) = true:=decide_eq_true c9;clear c9
         by_cases c12 : (bt a0 x9_1) < 128
         ·rw [if_pos c12] at H;have c12b0 : decide ((bt a0 x9_1) < 128) = true:=decide_eq_true c12;clear c12
          by_cases c13 : (wrap64 (x7_1 + (wrap64 ((Int.tmod (wrap64 (bt a0 x9_1)) 128) * x8_1)))) > 1000000000
          ·rw [if_pos c13] at H;have c13b0 : decide (1000000000 < (wrap64 (x7_1 + (wrap64 ((Int.tmod (wrap64 (bt a0 x9_1)) 128) * x8_1))))) = true:=decide_eq_true c13;clear c13;simp only [Option.some.injEq,Prod.mk.injEq] at H;obtain ⟨rfl,rfl,rfl⟩:=H;have p10 : 0 ≤ (x9_1 : Int):=zDe (by first | (with_reducible assumption) | assumption);have q10 : x9_1 < (a0.size : Int):=zDe (by first | (with_reducible assumption) | assumption);have hx10:=bt_at a0 x9_1;replace p10:=eq_true p10;replace q10:=eq_true q10;have p11 : 0 ≤ (x9_1 : Int):=zDe (by first | (with_reducible assumption) | assumption);have q11 : x9_1 < (a0.size : Int):=zDe (by first | (with_reducible assumption) | assumption);have hx11:=bt_at a0 x9_1;replace p11:=eq_true p11;replace q11:=eq_true q11
           try go_wp2
           have n0_:=zMk (below_drew1 HB.out);clear HB;have HB:=n0_;clear n0_;refine start_ (n:=12) (S:=fun w'=>True) (ds:=[]) (zA 12 0) (by kernel_rfl) rfl rfl trivial (fun hHeld=>?_);refine with_tabW spec_ReadVar.tab11 spec_ReadVar.bits11 (fun HT_ HW_=>?_);generalize wc.drew = w14 at HB hHeld ⊢;refine zP 0 43 (zA 12 1) (any_of HT_.out (by kernel_rfl)) ?_;refine zP 1 44 (zA 12 3) (any_of HT_.out (by kernel_rfl)) ?_;refine zP 2 45 (zA 12 7) (any_of HT_.out (by kernel_rfl)) ?_;refine pure_ (i:=3) (N:=some 46) (v:=undef) (a':=?_) #[true,true,true,true,false,false,false,false,false,false,false,false] rfl rfl (any_of HT_.out (by kernel_rfl)) (fun _ _ _ h=>h) (Or.inr ⟨by rfl,rfl⟩) ?_ ?_;rotate_left
           ·simp only [Act.put,zS1,zS2,zS3,i64_w,i32_w];rfl
           refine pure_ (i:=4) (N:=some 47) (v:=undef) (a':=?_) #[true,true,true,true,true,false,false,false,false,false,false,false] rfl rfl (any_of HT_.out (by kernel_rfl)) (fun _ _ _ h=>h) (Or.inr ⟨by rfl,rfl⟩) ?_ ?_;rotate_left
           ·simp only [Act.put,zS1,zS2,zS3,i64_w,i32_w];rfl
           refine pure_ (i:=5) (N:=some 48) (v:=undef) (a':=?_) #[true,true,true,true,true,true,false,false,false,false,false,false] rfl rfl (any_of HT_.out (by kernel_rfl)) (fun _ _ _ h=>h) (Or.inr ⟨by rfl,rfl⟩) ?_ ?_;rotate_left
           ·simp only [Act.put,zS1,zS2,zS3,i64_w,i32_w];rfl
           refine pure_ (i:=6) (N:=some 49) (v:=undef) (a':=?_) #[true,true,true,true,true,true,true,false,false,false,false,false] rfl rfl (any_of HT_.out (by kernel_rfl)) (fun _ _ _ h=>h) (Or.inr ⟨by rfl,rfl⟩) ?_ ?_;rotate_left
           ·simp only [Act.put,zS1,zS2,zS3,i64_w,i32_w];rfl
           refine pure_ (i:=7) (N:=some 50) (v:=undef) (a':=?_) #[true,true,true,true,true,true,true,true,false,false,false,false] rfl rfl (any_of HT_.out (by kernel_rfl)) (fun _ _ _ h=>h) (Or.inr ⟨by rfl,rfl⟩) ?_ ?_;rotate_left
           ·simp only [Act.put,zS1,zS2,zS3,i64_w,i32_w];rfl
           refine pure_ (i:=8) (N:=some 51) (v:=undef) (a':=?_) #[true,true,true,true,true,true,true,true,true,false,false,false] rfl rfl (any_of HT_.out (by kernel_rfl)) (fun _ _ _ h=>h) (Or.inr ⟨by rfl,rfl⟩) ?_ ?_;rotate_left
           ·simp only [Act.put,zS1,zS2,zS3,i64_w,i32_w];rfl
           refine pure_ (i:=9) (N:=some 52) (v:=undef) (a':=?_) #[true,true,true,true,true,true,true,true,true,true,false,false] rfl rfl (any_of HT_.out (by kernel_rfl)) (fun _ _ _ h=>h) (Or.inr ⟨by rfl,rfl⟩) ?_ ?_;rotate_left
           ·simp only [Act.put,zS1,zS2,zS3,i64_w,i32_w];rfl
           refine pure_ (i:=10) (N:=some 53) (v:=undef) (a':=?_) #[true,true,true,true,true,true,true,true,true,true,true,false] rfl rfl (any_of HT_.out (by kernel_rfl)) (fun _ _ _ h=>h) (Or.inr ⟨by rfl,rfl⟩) ?_ ?_;rotate_left
           ·simp only [Act.put,zS1,zS2,zS3,i64_w,i32_w];rfl
           refine zP 11 54 (zA 12 4095) (any_of HT_.out (by kernel_rfl)) ?_;refine done_ (done_of HT_.out (by kernel_rfl)) ?_
           try go_wp2
           go_ret3
           exact ⟨by first | rfl | (simp [errW_none,errW_some] <;> rfl) | (simp [*,errW_none,errW_some] <;> rfl),hs HB⟩
          rw [if_neg c13] at H;have c13b0 : decide (1000000000 < (wrap64 (x7_1 + (wrap64 ((Int.tmod (wrap64 (bt a0 x9_1)) 128) * x8_1))))) = false:=decide_eq_false c13;clear c13;replace H:=Option.bind_eq_some_iff.mp H;obtain ⟨t662,A150,H⟩:=H;replace H : (if 0 ≤ a1 then (if a1 ≤ (wrap64 (x9_1 + 1)) then (if (wrap64 (x9_1 + 1)) ≤ (a0.size : Int) then (if t662.toList = (a0.extract (a1 : Int).toNat ((wrap64 (x9_1 + 1)) : Int).toNat).toList then (some (wrap64 (x7_1 + (wrap64 ((Int.tmod (wrap64 (bt a0 x9_1)) 128) * x8_1))),wrap64 (x9_1 + 1),true)) else (some (0,0,false))) else (none)) else (none)) else (none)) = some (r1,r2,r3):=H;have A15:=zMk A150;clear A150
          by_cases c16 : 0 ≤ a1
          ·rw [if_pos c16] at H;have c16b0:=eq_true c16;have c16b1 : decide (0 ≤ a1) = true:=decide_eq_true c16;clear c16
           by_cases c17 : a1 ≤ (wrap64 (x9_1 + 1))
           ·rw [if_pos c17] at H;have c17b0:=eq_true c17;have c17b1 : decide (a1 ≤ (wrap64 (x9_1 + 1))) = true:=decide_eq_true c17
            by_cases c18 : (wrap64 (x9_1 + 1)) ≤ (a0.size : Int)
            ·rw [if_pos c18] at H;have c18b0:=eq_true c18;have c18b1 : decide ((wrap64 (x9_1 + 1)) ≤ (a0.size : Int)) = true:=decide_eq_true c18;have p10 : 0 ≤ (x9_1 : Int):=zDe (by first | (with_reducible assumption) | assumption);have q10 : x9_1 < (a0.size : Int):=zDe (by first | (with_reducible assumption) | assumption);have hx10:=bt_at a0 x9_1;replace p10:=eq_true p10;replace q10:=eq_true q10;have p11 : 0 ≤ (x9_1 : Int):=zDe (by first | (with_reducible assumption) | assumption);have q11 : x9_1 < (a0.size : Int):=zDe (by first | (with_reducible assumption) | assumption);have hx11:=bt_at a0 x9_1;replace p11:=eq_true p11;replace q11:=eq_true q11
             try go_wp2
             have n0_:=zMk (below_drew1 HB.out);clear HB;have HB:=n0_;clear n0_;refine start_ (n:=12) (S:=fun w'=>True) (ds:=[]) (zA 12 0) (by kernel_rfl) rfl rfl trivial (fun hHeld=>?_);refine with_tabW spec_ReadVar.tab11 spec_ReadVar.bits11 (fun HT_ HW_=>?_);generalize wc.drew = w20 at HB hHeld ⊢;refine zP 0 43 (zA 12 1) (any_of HT_.out (by kernel_rfl)) ?_;refine zP 1 44 (zA 12 3) (any_of HT_.out (by kernel_rfl)) ?_;refine zP 2 45 (zA 12 7) (any_of HT_.out (by kernel_rfl)) ?_;refine zP 3 46 (zA 12 15) (any_of HT_.out (by kernel_rfl)) ?_;refine zP 5 48 (zA 12 47) (any_of HT_.out (by kernel_rfl)) ?_;refine zP 6 49 (zA 12 111) (any_of HT_.out (by kernel_rfl)) ?_;refine zP 7 50 (zA 12 239) (any_of HT_.out (by kernel_rfl)) ?_;refine zP 8 51 (zA 12 495) (any_of HT_.out (by kernel_rfl)) ?_;refine zP 9 52 (zA 12 1007) (any_of HT_.out (by kernel_rfl)) ?_;refine one_ (i:=4) (N:=some 47) (zA 12 1023) rfl rfl (one_of HT_.out (by kernel_rfl)) (by decide) (fun K hK=>?_);refine goes_ Try.func53 (by kernel_rfl) rfl #[.int .i64 (wrap64 (x7_1 + (wrap64 ((Int.tmod (wrap64 (bt a0 x9_1)) 128) * x8_1))))] (by rfl) rfl rfl (by (try simp only [List.map_toArray,List.map_cons,List.map_nil]);first | done | rfl | (simp only [List.length_drop,List.length_take];rfl)) ?_;with_reducible refine (spec_l01Var.calls kj4 (wrap64 (x7_1 + (wrap64 ((Int.tmod (wrap64 (bt a0 x9_1)) 128) * x8_1)))) t662 _ A15.out).mono ?_
             rintro e w21 ⟨rfl,hb⟩;refine ⟨_,rfl,?_⟩;have n0_:=zMk (below_step (hs HB) hb);clear HB;have HB:=n0_;clear n0_
             (try clear hb)
             (try clear hb2)
             (try clear hk)
             (try clear hi)
             refine hK.out _ _ trivial (fun hHeld=>?_);clear hK K;refine norm_ (a':=?_) ?_ ?_;rotate_left
             ·show Act.put _ (some 47) _ = _;simp only [Act.put,zS1,zS2,zS3,i64_w,i32_w];rfl
             refine zP 10 53 (zA 12 2047) (any_of HT_.out (by kernel_rfl)) ?_;refine zP 11 54 (zA 12 4095) (any_of HT_.out (by kernel_rfl)) ?_;refine done_ (done_of HT_.out (by kernel_rfl)) ?_
             go_upto_if 54 with (fail)
             (try simp only [Act.put,zS1,zS2,zS3])
             by_cases c19 : t662.toList = (a0.extract (a1 : Int).toNat ((wrap64 (x9_1 + 1)) : Int).toNat).toList
             ·rw [if_pos c19] at H;have c19b0 : (t662.toList == (a0.extract (a1 : Int).toNat ((wrap64 (x9_1 + 1)) : Int).toNat).toList) = true:=beq_iff_eq.mpr c19;have c19b1 : (t662.toList != (a0.extract (a1 : Int).toNat ((wrap64 (x9_1 + 1)) : Int).toNat).toList) = false:=bne_eq_false_iff_eq.mpr c19;clear c19
              (first | rw [c19b0] | rw [c19b1] | (simp only [i64_w,i32_w];rw [c19b0]) | skip)
              simp only [Option.some.injEq,Prod.mk.injEq] at H;obtain ⟨rfl,rfl,rfl⟩:=H
              try go_wp2
              go_ret3
              exact ⟨by first | rfl | (simp [errW_none,errW_some] <;> rfl) | (simp [*,errW_none,errW_some] <;> rfl),hs HB⟩
             rw [if_neg c19] at H;have c19b0 : (t662.toList == (a0.extract (a1 : Int).toNat ((wrap64 (x9_1 + 1)) : Int).toNat).toList) = false:=beq_eq_false_iff_ne.mpr c19;have c19b1 : (t662.toList != (a0.extract (a1 : Int).toNat ((wrap64 (x9_1 + 1)) : Int).toNat).toList) = true:=bne_iff_ne.mpr c19
             (first | rw [c19b0] | rw [c19b1] | (simp only [i64_w,i32_w];rw [c19b0]) | skip)
             simp only [Option.some.injEq,Prod.mk.injEq] at H;obtain ⟨rfl,rfl,rfl⟩:=H
             try go_wp2
             go_ret3
             exact ⟨by first | rfl | (simp [errW_none,errW_some] <;> rfl) | (simp [*,errW_none,errW_some] <;> rfl),hs HB⟩
            rw [if_neg c18] at H;exact absurd H (by simp)
           rw [if_neg c17] at H;exact absurd H (by simp)
          rw [if_neg c16] at H;exact absurd H (by simp)
         rw [if_neg c12] at H;have c12b0 : decide ((bt a0 x9_1) < 128) = false:=decide_eq_false c12;clear c12;have H':=zMk H;clear H;have p10 : 0 ≤ (x9_1 : Int):=zDe (by first | (with_reducible assumption) | assumption);have q10 : x9_1 < (a0.size : Int):=zDe (by first | (with_reducible assumption) | assumption);have hx10:=bt_at a0 x9_1;replace p10:=eq_true p10;replace q10:=eq_true q10;have p11 : 0 ≤ (x9_1 : Int):=zDe (by first | (with_reducible assumption) | assumption);have q11 : x9_1 < (a0.size : Int):=zDe (by first | (with_reducible assumption) | assumption);have hx11:=bt_at a0 x9_1;replace p11:=eq_true p11;replace q11:=eq_true q11
         go_wp2
         go_roundg kj4;case measure=>have:=HK1.out;have:=HJ4.out;omega
         case rel=>exact ⟨(wrap64 (x7_1 + (wrap64 ((Int.tmod (wrap64 (bt a0 x9_1)) 128) * x8_1)))),(wrap64 (x8_1 * 128)),(wrap64 (x9_1 + 1)),(by first | rfl | (simp;done) | (simp [*];done)),(by first | rfl | (simp;done) | (simp [*];done)),(by first | rfl | (simp;done) | (simp [*];done)),H',⟨by have:=HK1.out;have:=HJ4.out;omega⟩,⟨hs HB⟩⟩
        rw [if_neg c9] at H;exact absurd H (by simp)
       rw [if_neg c8] at H;exact absurd H (by simp)
      replace c7:=Bool.eq_false_iff.mpr c7;subst c7;have H1 : (some (0,0,false)) = some (r1,r2,r3):=by rw [if_neg (show ¬ (false = true) by decide)] at H;exact H
      clear H;have H:=H1;clear H1;simp only [Option.some.injEq,Prod.mk.injEq] at H;obtain ⟨rfl,rfl,rfl⟩:=H
      go_wp2
      go_ret3
      exact ⟨by first | rfl | (simp [errW_none,errW_some] <;> rfl) | (simp [*,errW_none,errW_some] <;> rfl),hs HB⟩
 replace c4:=Bool.eq_false_iff.mpr c4;subst c4;have H1 : (some (0,0,false)) = some (r1,r2,r3):=by rw [if_neg (show ¬ (false = true) by decide)] at H;exact H
 clear H;have H:=H1;clear H1;simp only [Option.some.injEq,Prod.mk.injEq] at H;obtain ⟨rfl,rfl,rfl⟩:=H
 go_wp2
 go_ret3
 exact ⟨by first | rfl | (simp [errW_none,errW_some] <;> rfl) | (simp [*,errW_none,errW_some] <;> rfl),hs HB⟩
def IsS99 (w0 W : World) (g : Nat) (f0 : ByteArray) (f1 : Int) (f2 : Bool) : Prop:=W.heap[g]? = some (.cells #[.string f0,.int .i64 f1,.bool f2] 99 (0,0)) ∧ w0.heap.size ≤ g
theorem IsS99.grown {w0 W : World} {g : Nat} {f0 : ByteArray} {f1 : Int} {f2 : Bool} {W1 : World} {row : Option Nat} (h : IsS99 w0 W g f0 f1 f2) (hw : W.grownBy W1 row) (hne : some g ≠ row) : IsS99 w0 W1 g f0 f1 f2:=by
 obtain ⟨hb,hg⟩:=h;exact ⟨blk_grown hb hw hne,hg⟩
theorem IsS99.own_neN {w0 W : World} {g : Nat} {f0 : ByteArray} {f1 : Int} {f2 : Bool} {α : Type} {d : Kd α} {e : Nat} {base : Nat} {ok : Nat → Prop} {v : Value} {xs : List α} (h : IsS99 w0 W g f0 f1 f2) (ho : Kd.N d e W base ok v xs) (ht : e ≠ 99) : some g ≠ v.ownBlock:=by
 obtain ⟨hb,hg⟩:=h;exact Kd.N_ne ho hb ht
theorem IsS99.fresh {w0 W : World} {g : Nat} {f0 : ByteArray} {f1 : Int} {f2 : Bool} (h : IsS99 w0 W g f0 f1 f2) : ∀ k,W.heap.size ≤ k → k ≠ g:=by
 obtain ⟨hb,hg⟩:=h;exact Kd.freshB hb
theorem IsS99.kept {w0 W : World} {g : Nat} {f0 : ByteArray} {f1 : Int} {f2 : Bool} {W1 : World} {S : Nat → Prop} (h : IsS99 w0 W g f0 f1 f2) (hk : Kept W W1 S) (hne : ¬ S g) : IsS99 w0 W1 g f0 f1 f2:=by
 obtain ⟨hb,hg⟩:=h;exact ⟨blk_kept hb hk hne,hg⟩
theorem IsS99.below {w0 W : World} {g : Nat} {f0 : ByteArray} {f1 : Int} {f2 : Bool} {W1 : World} (h : IsS99 w0 W g f0 f1 f2) (hw : Below W.heap.size W W1) : IsS99 w0 W1 g f0 f1 f2:=h.grown (grown_of_below hw none) (by simp)
theorem IsS99.alloc {w0 W : World} {g : Nat} {f0 : ByteArray} {f1 : Int} {f2 : Bool} (h : IsS99 w0 W g f0 f1 f2) (o : Obj) : IsS99 w0 (W.alloc o) g f0 f1 f2:=h.below (below_alloc (Below.refl _ _) o)
theorem IsS99.drewN {w0 W : World} {g : Nat} {f0 : ByteArray} {f1 : Int} {f2 : Bool} (h : IsS99 w0 W g f0 f1 f2) (m : Nat) : IsS99 w0 (W.drewN m) g f0 f1 f2:=h
theorem IsS99.drew {w0 W : World} {g : Nat} {f0 : ByteArray} {f1 : Int} {f2 : Bool} (h : IsS99 w0 W g f0 f1 f2) : IsS99 w0 W.drew g f0 f1 f2:=h
theorem IsS99.at_ {w0 W : World} {g : Nat} {f0 : ByteArray} {f1 : Int} {f2 : Bool} {w' : World} {m : Nat} (hq : W.drewN m = w') (h : IsS99 w0 W g f0 f1 f2) : IsS99 w0 w' g f0 f1 f2:=by subst hq;exact IsS99.drewN h m
theorem IsS99.apart {w0 W : World} {g : Nat} {f0 : ByteArray} {f1 : Int} {f2 : Bool} {α : Type} {d : Kd α} {e : Nat} {base : Nat} {ok : Nat → Prop} {v : Value} {xs : List α} (h : IsS99 w0 W g f0 f1 f2) (ho : d.R e W base ok v xs) (ht : ∀ q,q ∈ e :: d.E → q ≠ 99) : d.R e W base (fun k=>ok k ∧ k ≠ g) v xs:=by
 obtain ⟨hb,hg⟩:=h;exact Kd.R_types ho hb ht
theorem IsS99.own_ne {w0 W : World} {g : Nat} {f0 : ByteArray} {f1 : Int} {f2 : Bool} {α : Type} {d : Kd α} {e : Nat} {base : Nat} {ok : Nat → Prop} {v : Value} {xs : List α} (h : IsS99 w0 W g f0 f1 f2) (ho : d.R e W base ok v xs) (ht : e ≠ 99) : some g ≠ v.ownBlock:=by
 obtain ⟨hb,hg⟩:=h;exact Kd.R_ne ho hb ht
theorem IsS99.apartQ {w0 W : World} {g : Nat} {f0 : ByteArray} {f1 : Int} {f2 : Bool} {α : Type} {d : Kd α} {e : Nat} {base : Nat} {ok : Nat → Prop} {v : Value} {xs : List α} (h : IsS99 w0 W g f0 f1 f2) (ho : d.Q e W base ok v xs) (ht : ∀ q,q ∈ e :: d.E → q ≠ 99) : d.Q e W base (fun k=>ok k ∧ k ≠ g) v xs:=by
 obtain ⟨hb,hg⟩:=h;exact Kd.Q_types ho hb ht
theorem IsS99.own_neQ {w0 W : World} {g : Nat} {f0 : ByteArray} {f1 : Int} {f2 : Bool} {α : Type} {d : Kd α} {e : Nat} {base : Nat} {ok : Nat → Prop} {v : Value} {xs : List α} (h : IsS99 w0 W g f0 f1 f2) (ho : d.Q e W base ok v xs) (ht : e ≠ 99) : some g ≠ v.ownBlock:=by
 obtain ⟨hb,hg⟩:=h;exact Kd.Q_ne ho hb ht
theorem IsS99.apartS {w0 W : World} {g : Nat} {f0 : ByteArray} {f1 : Int} {f2 : Bool} {α : Type} {d : Kd α} {e : Nat} {base : Nat} {ok : Nat → Prop} {v : Value} {xs : List α} (h : IsS99 w0 W g f0 f1 f2) (ho : d.S e W base ok v xs) (ht : ∀ q,q ∈ e :: d.E → q ≠ 99) : d.S e W base (fun k=>ok k ∧ k ≠ g) v xs:=by
 obtain ⟨hb,hg⟩:=h;exact Kd.S_types ho hb ht
theorem IsS99.own_neS {w0 W : World} {g : Nat} {f0 : ByteArray} {f1 : Int} {f2 : Bool} {α : Type} {d : Kd α} {e : Nat} {base : Nat} {ok : Nat → Prop} {v : Value} {xs : List α} (h : IsS99 w0 W g f0 f1 f2) (ho : d.S e W base ok v xs) (ht : e ≠ 99) : some g ≠ v.ownBlock:=by
 obtain ⟨hb,hg⟩:=h;exact Kd.S_ne ho hb ht
theorem IsS99.lt {w0 W : World} {g : Nat} {f0 : ByteArray} {f1 : Int} {f2 : Bool} (h : IsS99 w0 W g f0 f1 f2) : g < W.heap.size:=by
 obtain ⟨hb,hg⟩:=h;exact blk_lt hb
theorem IsS99.ge {w0 W : World} {g : Nat} {f0 : ByteArray} {f1 : Int} {f2 : Bool} (h : IsS99 w0 W g f0 f1 f2) : w0.heap.size ≤ g:=by
 obtain ⟨hb,hg⟩:=h;exact hg
theorem IsS99.ne_blk {w0 W : World} {g : Nat} {f0 : ByteArray} {f1 : Int} {f2 : Bool} {a : Nat} {cs : Array Value} {t : TypeId} {fr : Nat × Nat} (h : IsS99 w0 W g f0 f1 f2) (hb2 : W.heap[a]? = some (.cells cs t fr)) (ht : t ≠ 99) : g ≠ a:=by
 obtain ⟨hb,hg⟩:=h;rintro rfl;rw [hb] at hb2;injection hb2 with hb2;injection hb2 with _ ht2;exact ht ht2.symm
theorem IsS99.far {w0 W : World} {g : Nat} {f0 : ByteArray} {f1 : Int} {f2 : Bool} {p : Addr} (h : IsS99 w0 W g f0 f1 f2) (hne : g ≠ p.block) (u : Value) : IsS99 w0 (W.setCell p u) g f0 f1 f2:=by
 obtain ⟨hb,hg⟩:=h;exact ⟨blk_far hb hne u,hg⟩
theorem cellS99_0 {W : World} {g : Nat} {f0 : ByteArray} {f1 : Int} {f2 : Bool} (h : W.heap[g]? = some (.cells #[.string f0,.int .i64 f1,.bool f2] 99 (0,0))) : W.cell? ⟨g,0,none⟩ = some (.string f0):=(zCl h 0).trans rfl
theorem IsS99.set_0 {w0 W : World} {g : Nat} {f0 : ByteArray} {f1 : Int} {f2 : Bool} (h : IsS99 w0 W g f0 f1 f2) (x : ByteArray) : IsS99 w0 (W.setCell ⟨g,0,none⟩ (.string x)) g x f1 f2:=by
 obtain ⟨hb,hg⟩:=h;exact ⟨by simpa using blk_set hb 0 (.string x),hg⟩
theorem cellS99_1 {W : World} {g : Nat} {f0 : ByteArray} {f1 : Int} {f2 : Bool} (h : W.heap[g]? = some (.cells #[.string f0,.int .i64 f1,.bool f2] 99 (0,0))) : W.cell? ⟨g,1,none⟩ = some (.int .i64 f1):=(zCl h 1).trans rfl
theorem IsS99.set_1 {w0 W : World} {g : Nat} {f0 : ByteArray} {f1 : Int} {f2 : Bool} (h : IsS99 w0 W g f0 f1 f2) (x : Int) : IsS99 w0 (W.setCell ⟨g,1,none⟩ (.int .i64 x)) g f0 x f2:=by
 obtain ⟨hb,hg⟩:=h;exact ⟨by simpa using blk_set hb 1 (.int .i64 x),hg⟩
theorem cellS99_2 {W : World} {g : Nat} {f0 : ByteArray} {f1 : Int} {f2 : Bool} (h : W.heap[g]? = some (.cells #[.string f0,.int .i64 f1,.bool f2] 99 (0,0))) : W.cell? ⟨g,2,none⟩ = some (.bool f2):=(zCl h 2).trans rfl
theorem IsS99.set_2 {w0 W : World} {g : Nat} {f0 : ByteArray} {f1 : Int} {f2 : Bool} (h : IsS99 w0 W g f0 f1 f2) (x : Bool) : IsS99 w0 (W.setCell ⟨g,2,none⟩ (.bool x)) g f0 f1 x:=by
 obtain ⟨hb,hg⟩:=h;exact ⟨by simpa using blk_set hb 2 (.bool x),hg⟩
theorem IsS99.new (w0 W : World) (f0 : ByteArray) (f1 : Int) (f2 : Bool) (hB : Below w0.heap.size w0 W) : IsS99 w0 (W.alloc (.cells #[.string f0,.int .i64 f1,.bool f2] 99)) W.heap.size f0 f1 f2:=⟨by simpa using heap_alloc_new W _,hB.size⟩
def spec_l06Var.f (k : Nat) (s0_0 : ByteArray) (s0_1 : Int) (s0_2 : Bool) : Option (Int × ByteArray × Int × Bool):=(spec_ReadVar.f k s0_0 s0_1).bind fun bt663=>(if s0_2 = true then (some (0,s0_0,s0_1,true)) else (if bt663.2.2 = true then (some (bt663.1,s0_0,bt663.2.1,s0_2)) else (some (0,s0_0,s0_1,true))))
theorem spec_l06Var.mono : ∀ a0 a1 a2 k,LeO (spec_l06Var.f k a0 a1 a2) (spec_l06Var.f (k + 1) a0 a1 a2):=by
 intro a0 a1 a2 k;unfold spec_l06Var.f
 repeat' first
   | (with_reducible exact spec_ReadVar.mono _ _ _)
   | (with_reducible exact LeO.refl _)
   | (with_reducible exact LeO.none _)
   | (with_reducible refine LeO.ite ?_ ?_)
   | (with_reducible refine LeO.bind ?_ (fun _=>?_))
   | exact spec_ReadVar.mono _ _ _
   | exact LeO.none _
   | refine LeO.ite ?_ ?_
   | refine LeO.bind ?_ (fun _=>?_)
def spec_l06Var.T1 : Bool × List (List Nat × List Nat):=(true,[([],[]),([0],[0]),([1],[1]),([2],[2]),([],[]),([4],[4]),([5],[5]),([6],[6]),([3,7],[3,7]),([8],[8]),([9],[9]),([9],[9]),([9],[9]),([10,8,0,1,2,3,4,5,6,7,8,9,10],[10]),([11,13,0,1,2,3,4,5,6,7,8,9,10,11,13],[11]),([12,14,0,1,2,3,4,5,6,7,8,9,10,11,12,13,14],[12])])
def spec_l06Var.B1 : List Nat:=[0,1,3,7,0,16,48,112,255,511,1023,1023,1023,2047,12287,32767]
theorem spec_l06Var.tab1 : rtab .any (opsOf Try.f67 1) = spec_l06Var.T1:=by kernel_rfl
theorem spec_l06Var.bits1 : waitsOk spec_l06Var.T1.2 spec_l06Var.B1 = true:=by kernel_rfl
set_option maxHeartbeats 8000000 in
set_option maxRecDepth 100000 in
theorem spec_l06Var.calls (k : Nat) (g : Nat) (s0_0 : ByteArray) (s0_1 : Int) (s0_2 : Bool) (r1 : Int) (r2 : ByteArray) (r3 : Int) (r4 : Bool) (w0 w : World) (hI : IsS99 w0 w g s0_0 s0_1 s0_2) (hB : Below w0.heap.size w0 w) (h : spec_l06Var.f k s0_0 s0_1 s0_2 = some (r1,r2,r3,r4)) :
  Calls Try.prog 67 #[.pointer (some ⟨g,0,none⟩)] w fun e w'=>e = .returned (.int .i64 r1) ∧ IsS99 w0 w' g r2 r3 r4 ∧ Below w0.heap.size w0 w' ∧ KeepBut w w' g none:=by
 have HI0:=zMk hI;have HK:=zMk (KeepBut.refl w g none);have HL:=zMk hB.size;clear hI;have HW0:=zMk hB.size;have HB:=zMk hB;clear hB;have H : ((spec_ReadVar.f k s0_0 s0_1).bind fun bt663=>(if s0_2 = true then (some (0,s0_0,s0_1,true)) else (if bt663.2.2 = true then (some (bt663.1,s0_0,bt663.2.1,s0_2)) else (some (0,s0_0,s0_1,true))))) = some (r1,r2,r3,r4):=h;clear h;replace H:=Option.bind_eq_some_iff.mp H;obtain ⟨⟨t663,t664,t665⟩,A20,H⟩:=H;replace H : (if s0_2 = true then (some (0,s0_0,s0_1,true)) else (if t665 = true then (some (t663,s0_0,t664,s0_2)) else (some (0,s0_0,s0_1,true)))) = some (r1,r2,r3,r4):=H;have A2:=zMk A20;clear A20
 by_cases c3 : s0_2 = true
 ·subst c3;have H1 : (some (0,s0_0,s0_1,true)) = some (r1,r2,r3,r4):=by rw [if_pos rfl] at H;exact H
  clear H;have H:=H1;clear H1;simp only [Option.some.injEq,Prod.mk.injEq] at H;obtain ⟨rfl,rfl,rfl,rfl⟩:=H
  go_enter Try.func67,Try.ntmps67
  try go_wp2
  have n0_:=zMk (IsS99.drew HI0.out);have n1_:=zMk (keep_drew HK.out);have n2_:=zMk (below_drew1 HB.out);clear HI0;clear HK;clear HB;have HI0:=n0_;have HK:=n1_;have HB:=n2_;clear n0_ n1_ n2_;refine start_ (n:=16) (S:=fun w'=>w'.cell? ⟨g,0,none⟩ = some (.string s0_0) ∧ w'.cell? ⟨g,1,none⟩ = some (.int .i64 s0_1) ∧ w'.cell? ⟨g,2,none⟩ = some (.bool true)) (ds:=[]) (zA 16 0) (by kernel_rfl) rfl rfl ⟨cellS99_0 HI0.out.1,cellS99_1 HI0.out.1,cellS99_2 HI0.out.1⟩ (fun hHeld=>?_);refine with_tabW spec_l06Var.tab1 spec_l06Var.bits1 (fun HT_ HW_=>?_);generalize w.drew = w4 at HI0 HK HB hHeld ⊢;refine zP 0 7 (zA 16 1) (any_of HT_.out (by kernel_rfl)) ?_;refine zP 1 8 (zA 16 3) (any_of HT_.out (by kernel_rfl)) ?_;refine zP 2 9 (zA 16 7) (any_of HT_.out (by kernel_rfl)) ?_;refine zP 4 11 (zA 16 23) (any_of HT_.out (by kernel_rfl)) ?_;refine zP 5 12 (zA 16 55) (any_of HT_.out (by kernel_rfl)) ?_;refine zP 6 13 (zA 16 119) (any_of HT_.out (by kernel_rfl)) ?_;refine zT 3 10 (zA 16 127) (take_ofW HT_.out HW_.out (by kernel_rfl)) hHeld ?_;refine zT 7 14 (zA 16 255) (take_ofW HT_.out HW_.out (by kernel_rfl)) hHeld ?_;refine one_ (i:=8) (N:=some 15) (zA 16 511) rfl rfl (one_of HT_.out (by kernel_rfl)) (by decide) (fun K hK=>?_);refine goes_ Try.func80 (by kernel_rfl) rfl #[.string s0_0,.int .i64 s0_1] (by rfl) rfl rfl (by (try simp only [List.map_toArray,List.map_cons,List.map_nil]);first | done | rfl | (simp only [List.length_drop,List.length_take];rfl)) ?_;with_reducible refine (spec_ReadVar.calls k s0_0 s0_1 t663 t664 t665 _ A2.out).mono ?_
  rintro e w5 ⟨rfl,hb⟩;refine ⟨_,rfl,?_⟩;have n0_:=zMk (IsS99.below (by repeat (first | (with_reducible first | exact HI0.out | apply IsS99.alloc | apply IsS99.drewN | apply IsS99.drew | apply IsS99.set_0 | apply IsS99.set_1 | apply IsS99.set_2) | exact HI0.out)) hb);have n1_:=zMk (KeepBut.trans (by repeat (first | (with_reducible first | exact HK.out | apply KeepBut.set_ | apply keep_drewN | apply keep_drew | apply keep_alloc) | exact HK.out)) (KeepBut.of_below hb g none) (.inl rfl));have n2_:=zMk (below_step (by repeat (first | (with_reducible first | exact HB.out | apply below_alloc | apply pw_below_drewN | apply below_drew1 | refine below_set ?_ (IsS99.ge HI0.out)) | exact HB.out)) hb);clear HI0;clear HK;clear HB;have HI0:=n0_;have HK:=n1_;have HB:=n2_;clear n0_ n1_ n2_
  (try clear hb)
  (try clear hb2)
  (try clear hk)
  (try clear hi)
  refine hK.out _ _ ⟨cellS99_0 HI0.out.1,cellS99_1 HI0.out.1,cellS99_2 HI0.out.1⟩ (fun hHeld=>?_);clear hK K;refine norm_ (a':=?_) ?_ ?_;rotate_left
  ·show Act.put _ (some 15) _ = _;simp only [Act.put,zS1,zS2,zS3,i64_w,i32_w];rfl
  refine zP 9 6 (zA 16 1023) (any_of HT_.out (by kernel_rfl)) ?_;refine zP 10 16 (zA 16 2047) (any_of HT_.out (by kernel_rfl)) ?_;refine zP 11 17 (zA 16 4095) (any_of HT_.out (by kernel_rfl)) ?_;refine zP 12 18 (zA 16 8191) (any_of HT_.out (by kernel_rfl)) ?_;refine zP 13 3 (zA 16 16383) (any_of HT_.out (by kernel_rfl)) ?_;refine zP 14 4 (zA 16 32767) (any_of HT_.out (by kernel_rfl)) ?_;refine zP 15 5 (zA 16 65535) (any_of HT_.out (by kernel_rfl)) ?_;refine done_ (done_of HT_.out (by kernel_rfl)) ?_;obtain ⟨HGz6,hgz6⟩:=HI0.out;have hcz6_0:=cellS99_0 HGz6;have hcz6_1:=cellS99_1 HGz6;have hcz6_2:=cellS99_2 HGz6;have hfz6_0:=zFr HGz6 0;have hfz6_1:=zFr HGz6 1;have hfz6_2:=zFr HGz6 2;clear HGz6 hgz6
  try go_wp2
  go_ret
  exact ⟨by first | rfl | (simp [errW_none,errW_some] <;> rfl) | (simp [*,errW_none,errW_some] <;> rfl),by repeat (first | (with_reducible first | exact HI0.out | apply IsS99.alloc | apply IsS99.drewN | apply IsS99.drew | apply IsS99.set_0 | apply IsS99.set_1 | apply IsS99.set_2) | exact HI0.out),by repeat (first | (with_reducible first | exact HB.out | apply below_alloc | apply pw_below_drewN | apply below_drew1 | refine below_set ?_ (IsS99.ge HI0.out)) | exact HB.out),by repeat (first | (with_reducible first | exact HK.out | apply KeepBut.set_ | apply keep_drewN | apply keep_drew | apply keep_alloc) | exact HK.out)⟩
 replace c3:=Bool.eq_false_iff.mpr c3;subst c3;have H1 : (if t665 = true then (some (t663,s0_0,t664,false)) else (some (0,s0_0,s0_1,true))) = some (r1,r2,r3,r4):=by rw [if_neg (show ¬ (false = true) by decide)] at H;exact H
 clear H;have H:=H1;clear H1
 by_cases c7 : t665 = true
 ·subst c7;have H1 : (some (t663,s0_0,t664,false)) = some (r1,r2,r3,r4):=by rw [if_pos rfl] at H;exact H
  clear H;have H:=H1;clear H1;simp only [Option.some.injEq,Prod.mk.injEq] at H;obtain ⟨rfl,rfl,rfl,rfl⟩:=H
  go_enter Try.func67,Try.ntmps67
  try go_wp2
  have n0_:=zMk (IsS99.drew HI0.out);have n1_:=zMk (keep_drew HK.out);have n2_:=zMk (below_drew1 HB.out);clear HI0;clear HK;clear HB;have HI0:=n0_;have HK:=n1_;have HB:=n2_;clear n0_ n1_ n2_;refine start_ (n:=16) (S:=fun w'=>w'.cell? ⟨g,0,none⟩ = some (.string s0_0) ∧ w'.cell? ⟨g,1,none⟩ = some (.int .i64 s0_1) ∧ w'.cell? ⟨g,2,none⟩ = some (.bool false)) (ds:=[]) (zA 16 0) (by kernel_rfl) rfl rfl ⟨cellS99_0 HI0.out.1,cellS99_1 HI0.out.1,cellS99_2 HI0.out.1⟩ (fun hHeld=>?_);refine with_tabW spec_l06Var.tab1 spec_l06Var.bits1 (fun HT_ HW_=>?_);generalize w.drew = w8 at HI0 HK HB hHeld ⊢;refine zP 0 7 (zA 16 1) (any_of HT_.out (by kernel_rfl)) ?_;refine zP 1 8 (zA 16 3) (any_of HT_.out (by kernel_rfl)) ?_;refine zP 2 9 (zA 16 7) (any_of HT_.out (by kernel_rfl)) ?_;refine zP 4 11 (zA 16 23) (any_of HT_.out (by kernel_rfl)) ?_;refine zP 5 12 (zA 16 55) (any_of HT_.out (by kernel_rfl)) ?_;refine zP 6 13 (zA 16 119) (any_of HT_.out (by kernel_rfl)) ?_;refine zT 3 10 (zA 16 127) (take_ofW HT_.out HW_.out (by kernel_rfl)) hHeld ?_;refine zT 7 14 (zA 16 255) (take_ofW HT_.out HW_.out (by kernel_rfl)) hHeld ?_;refine one_ (i:=8) (N:=some 15) (zA 16 511) rfl rfl (one_of HT_.out (by kernel_rfl)) (by decide) (fun K hK=>?_);refine goes_ Try.func80 (by kernel_rfl) rfl #[.string s0_0,.int .i64 s0_1] (by rfl) rfl rfl (by (try simp only [List.map_toArray,List.map_cons,List.map_nil]);first | done | rfl | (simp only [List.length_drop,List.length_take];rfl)) ?_;with_reducible refine (spec_ReadVar.calls k s0_0 s0_1 t663 t664 true _ A2.out).mono ?_
  rintro e w9 ⟨rfl,hb⟩;refine ⟨_,rfl,?_⟩;have n0_:=zMk (IsS99.below (by repeat (first | (with_reducible first | exact HI0.out | apply IsS99.alloc | apply IsS99.drewN | apply IsS99.drew | apply IsS99.set_0 | apply IsS99.set_1 | apply IsS99.set_2) | exact HI0.out)) hb);have n1_:=zMk (KeepBut.trans (by repeat (first | (with_reducible first | exact HK.out | apply KeepBut.set_ | apply keep_drewN | apply keep_drew | apply keep_alloc) | exact HK.out)) (KeepBut.of_below hb g none) (.inl rfl));have n2_:=zMk (below_step (by repeat (first | (with_reducible first | exact HB.out | apply below_alloc | apply pw_below_drewN | apply below_drew1 | refine below_set ?_ (IsS99.ge HI0.out)) | exact HB.out)) hb);clear HI0;clear HK;clear HB;have HI0:=n0_;have HK:=n1_;have HB:=n2_;clear n0_ n1_ n2_
  (try clear hb)
  (try clear hb2)
  (try clear hk)
  (try clear hi)
  refine hK.out _ _ ⟨cellS99_0 HI0.out.1,cellS99_1 HI0.out.1,cellS99_2 HI0.out.1⟩ (fun hHeld=>?_);clear hK K;refine norm_ (a':=?_) ?_ ?_;rotate_left
  ·show Act.put _ (some 15) _ = _;simp only [Act.put,zS1,zS2,zS3,i64_w,i32_w];rfl
  refine zP 9 6 (zA 16 1023) (any_of HT_.out (by kernel_rfl)) ?_;refine zP 10 16 (zA 16 2047) (any_of HT_.out (by kernel_rfl)) ?_;refine zP 11 17 (zA 16 4095) (any_of HT_.out (by kernel_rfl)) ?_;refine zP 12 18 (zA 16 8191) (any_of HT_.out (by kernel_rfl)) ?_;refine zP 13 3 (zA 16 16383) (any_of HT_.out (by kernel_rfl)) ?_;refine zP 14 4 (zA 16 32767) (any_of HT_.out (by kernel_rfl)) ?_;refine zP 15 5 (zA 16 65535) (any_of HT_.out (by kernel_rfl)) ?_;refine done_ (done_of HT_.out (by kernel_rfl)) ?_;obtain ⟨HGz10,hgz10⟩:=HI0.out;have hcz10_0:=cellS99_0 HGz10;have hcz10_1:=cellS99_1 HGz10;have hcz10_2:=cellS99_2 HGz10;have hfz10_0:=zFr HGz10 0;have hfz10_1:=zFr HGz10 1;have hfz10_2:=zFr HGz10 2;clear HGz10 hgz10
  try go_wp2
  go_ret
  exact ⟨by first | rfl | (simp [errW_none,errW_some] <;> rfl) | (simp [*,errW_none,errW_some] <;> rfl),by repeat (first | (with_reducible first | exact HI0.out | apply IsS99.alloc | apply IsS99.drewN | apply IsS99.drew | apply IsS99.set_0 | apply IsS99.set_1 | apply IsS99.set_2) | exact HI0.out),by repeat (first | (with_reducible first | exact HB.out | apply below_alloc | apply pw_below_drewN | apply below_drew1 | refine below_set ?_ (IsS99.ge HI0.out)) | exact HB.out),by repeat (first | (with_reducible first | exact HK.out | apply KeepBut.set_ | apply keep_drewN | apply keep_drew | apply keep_alloc) | exact HK.out)⟩
 replace c7:=Bool.eq_false_iff.mpr c7;subst c7;have H1 : (some (0,s0_0,s0_1,true)) = some (r1,r2,r3,r4):=by rw [if_neg (show ¬ (false = true) by decide)] at H;exact H
 clear H;have H:=H1;clear H1;simp only [Option.some.injEq,Prod.mk.injEq] at H;obtain ⟨rfl,rfl,rfl,rfl⟩:=H
 go_enter Try.func67,Try.ntmps67
 try go_wp2
 have n0_:=zMk (IsS99.drew HI0.out);have n1_:=zMk (keep_drew HK.out);have n2_:=zMk (below_drew1 HB.out);clear HI0;clear HK;clear HB;have HI0:=n0_;have HK:=n1_;have HB:=n2_;clear n0_ n1_ n2_;refine start_ (n:=16) (S:=fun w'=>w'.cell? ⟨g,0,none⟩ = some (.string s0_0) ∧ w'.cell? ⟨g,1,none⟩ = some (.int .i64 s0_1) ∧ w'.cell? ⟨g,2,none⟩ = some (.bool false)) (ds:=[]) (zA 16 0) (by kernel_rfl) rfl rfl ⟨cellS99_0 HI0.out.1,cellS99_1 HI0.out.1,cellS99_2 HI0.out.1⟩ (fun hHeld=>?_);refine with_tabW spec_l06Var.tab1 spec_l06Var.bits1 (fun HT_ HW_=>?_);generalize w.drew = w11 at HI0 HK HB hHeld ⊢;refine zP 0 7 (zA 16 1) (any_of HT_.out (by kernel_rfl)) ?_;refine zP 1 8 (zA 16 3) (any_of HT_.out (by kernel_rfl)) ?_;refine zP 2 9 (zA 16 7) (any_of HT_.out (by kernel_rfl)) ?_;refine zP 4 11 (zA 16 23) (any_of HT_.out (by kernel_rfl)) ?_;refine zP 5 12 (zA 16 55) (any_of HT_.out (by kernel_rfl)) ?_;refine zP 6 13 (zA 16 119) (any_of HT_.out (by kernel_rfl)) ?_;refine zT 3 10 (zA 16 127) (take_ofW HT_.out HW_.out (by kernel_rfl)) hHeld ?_;refine zT 7 14 (zA 16 255) (take_ofW HT_.out HW_.out (by kernel_rfl)) hHeld ?_;refine one_ (i:=8) (N:=some 15) (zA 16 511) rfl rfl (one_of HT_.out (by kernel_rfl)) (by decide) (fun K hK=>?_);refine goes_ Try.func80 (by kernel_rfl) rfl #[.string s0_0,.int .i64 s0_1] (by rfl) rfl rfl (by (try simp only [List.map_toArray,List.map_cons,List.map_nil]);first | done | rfl | (simp only [List.length_drop,List.length_take];rfl)) ?_;with_reducible refine (spec_ReadVar.calls k s0_0 s0_1 t663 t664 false _ A2.out).mono ?_
 rintro e w12 ⟨rfl,hb⟩;refine ⟨_,rfl,?_⟩;have n0_:=zMk (IsS99.below (by repeat (first | (with_reducible first | exact HI0.out | apply IsS99.alloc | apply IsS99.drewN | apply IsS99.drew | apply IsS99.set_0 | apply IsS99.set_1 | apply IsS99.set_2) | exact HI0.out)) hb);have n1_:=zMk (KeepBut.trans (by repeat (first | (with_reducible first | exact HK.out | apply KeepBut.set_ | apply keep_drewN | apply keep_drew | apply keep_alloc) | exact HK.out)) (KeepBut.of_below hb g none) (.inl rfl));have n2_:=zMk (below_step (by repeat (first | (with_reducible first | exact HB.out | apply below_alloc | apply pw_below_drewN | apply below_drew1 | refine below_set ?_ (IsS99.ge HI0.out)) | exact HB.out)) hb);clear HI0;clear HK;clear HB;have HI0:=n0_;have HK:=n1_;have HB:=n2_;clear n0_ n1_ n2_
 (try clear hb)
 (try clear hb2)
 (try clear hk)
 (try clear hi)
 refine hK.out _ _ ⟨cellS99_0 HI0.out.1,cellS99_1 HI0.out.1,cellS99_2 HI0.out.1⟩ (fun hHeld=>?_);clear hK K;refine norm_ (a':=?_) ?_ ?_;rotate_left
 ·show Act.put _ (some 15) _ = _;simp only [Act.put,zS1,zS2,zS3,i64_w,i32_w];rfl
 refine zP 9 6 (zA 16 1023) (any_of HT_.out (by kernel_rfl)) ?_;refine zP 10 16 (zA 16 2047) (any_of HT_.out (by kernel_rfl)) ?_;refine zP 11 17 (zA 16 4095) (any_of HT_.out (by kernel_rfl)) ?_;refine zP 12 18 (zA 16 8191) (any_of HT_.out (by kernel_rfl)) ?_;refine zP 13 3 (zA 16 16383) (any_of HT_.out (by kernel_rfl)) ?_;refine zP 14 4 (zA 16 32767) (any_of HT_.out (by kernel_rfl)) ?_;refine zP 15 5 (zA 16 65535) (any_of HT_.out (by kernel_rfl)) ?_;refine done_ (done_of HT_.out (by kernel_rfl)) ?_;obtain ⟨HGz13,hgz13⟩:=HI0.out;have hcz13_0:=cellS99_0 HGz13;have hcz13_1:=cellS99_1 HGz13;have hcz13_2:=cellS99_2 HGz13;have hfz13_0:=zFr HGz13 0;have hfz13_1:=zFr HGz13 1;have hfz13_2:=zFr HGz13 2;clear HGz13 hgz13
 try go_wp2
 go_ret
 exact ⟨by first | rfl | (simp [errW_none,errW_some] <;> rfl) | (simp [*,errW_none,errW_some] <;> rfl),by repeat (first | (with_reducible first | exact HI0.out | apply IsS99.alloc | apply IsS99.drewN | apply IsS99.drew | apply IsS99.set_0 | apply IsS99.set_1 | apply IsS99.set_2) | exact HI0.out),by repeat (first | (with_reducible first | exact HB.out | apply below_alloc | apply pw_below_drewN | apply below_drew1 | refine below_set ?_ (IsS99.ge HI0.out)) | exact HB.out),by repeat (first | (with_reducible first | exact HK.out | apply KeepBut.set_ | apply keep_drewN | apply keep_drew | apply keep_alloc) | exact HK.out)⟩
mutual
def spec_ReadRecs.l0 : Nat → ByteArray → List (S45) → ByteArray → Int → Bool → Option ((List (S45)) × Bool)
 | 0,_,_,_,_,_=>none
 | k + 1,x0,x4,x670000,x670001,x670002=>if x670001 < (x0.size : Int) then (spec_ReadRecs.j1 k x0 x4 (!x670002) x670000 x670001 x670002) else (spec_ReadRecs.j1 k x0 x4 false x670000 x670001 x670002)
def spec_ReadRecs.j1 : Nat → ByteArray → List (S45) → Bool → ByteArray → Int → Bool → Option ((List (S45)) × Bool)
 | 0,_,_,_,_,_,_=>none
 | k + 1,x0,x4,x25,x670000,x670001,x670002=>if x25 = true then (if 0 ≤ x670001 then (if x670001 < (x0.size : Int) then ((spec_l06Var.f k x670000 (wrap64 (x670001 + 1)) x670002).bind fun bt670=>((spec_l06Var.f k bt670.2.1 bt670.2.2.1 bt670.2.2.2).bind fun bt675=>(if bt675.2.2.2 = true then (some ((([] : List (S45))),false)) else ((spec_RecOk.f k (wrap64 (Int.tdiv (wrap64 (bt x0 x670001)) 16)) (Int.tmod (wrap64 (bt x0 x670001)) 16) bt670.1 bt675.1).bind fun t682=>(if t682 = true then (if x4.length < 4398046511104 then (spec_ReadRecs.l0 k x0 (x4 ++ [(⟨wrap64 (Int.tdiv (wrap64 (bt x0 x670001)) 16),Int.tmod (wrap64 (bt x0 x670001)) 16,bt670.1,bt675.1⟩ : S45)]) bt675.2.1 bt675.2.2.1 bt675.2.2.2) else (none)) else (some ((([] : List (S45))),false))))))) else (none)) else (none)) else (some (x4,true))
end
def spec_ReadRecs.f (k : Nat) (a0 : ByteArray) : Option ((List (S45)) × Bool):=spec_ReadRecs.l0 k a0 (([] : List (S45))) a0 0 false
theorem spec_ReadRecs.mono_l : ∀ k,(∀ y0 y1 y2 y3 y4,LeO (spec_ReadRecs.l0 k y0 y1 y2 y3 y4) (spec_ReadRecs.l0 (k + 1) y0 y1 y2 y3 y4)) ∧ (∀ y0 y1 y2 y3 y4 y5,LeO (spec_ReadRecs.j1 k y0 y1 y2 y3 y4 y5) (spec_ReadRecs.j1 (k + 1) y0 y1 y2 y3 y4 y5))
 | 0=>⟨fun _ _ _ _ _ r h=>by simp [spec_ReadRecs.l0] at h,fun _ _ _ _ _ _ r h=>by simp [spec_ReadRecs.j1] at h⟩
 | k + 1=>by
  obtain ⟨ih0,ih1⟩:=spec_ReadRecs.mono_l k;refine ⟨?_,?_⟩
  ·intro y0 y1 y2 y3 y4;unfold spec_ReadRecs.l0
   repeat' first
   | (with_reducible exact ih0 _ _ _ _ _)
   | (with_reducible exact ih1 _ _ _ _ _ _)
   | (with_reducible exact spec_RecOk.mono _ _ _ _ _)
   | (with_reducible exact spec_l06Var.mono _ _ _ _)
   | (with_reducible exact LeO.refl _)
   | (with_reducible exact LeO.none _)
   | (with_reducible refine LeO.ite ?_ ?_)
   | (with_reducible refine LeO.bind ?_ (fun _=>?_))
   | exact ih0 _ _ _ _ _
   | exact ih1 _ _ _ _ _ _
   | exact spec_RecOk.mono _ _ _ _ _
   | exact spec_l06Var.mono _ _ _ _
   | exact LeO.none _
   | refine LeO.ite ?_ ?_
   | refine LeO.bind ?_ (fun _=>?_)
  intro y0 y1 y2 y3 y4 y5;unfold spec_ReadRecs.j1
  repeat' first
  | (with_reducible exact ih0 _ _ _ _ _)
  | (with_reducible exact ih1 _ _ _ _ _ _)
  | (with_reducible exact spec_RecOk.mono _ _ _ _ _)
  | (with_reducible exact spec_l06Var.mono _ _ _ _)
  | (with_reducible exact LeO.refl _)
  | (with_reducible exact LeO.none _)
  | (with_reducible refine LeO.ite ?_ ?_)
  | (with_reducible refine LeO.bind ?_ (fun _=>?_))
  | exact ih0 _ _ _ _ _
  | exact ih1 _ _ _ _ _ _
  | exact spec_RecOk.mono _ _ _ _ _
  | exact spec_l06Var.mono _ _ _ _
  | exact LeO.none _
  | refine LeO.ite ?_ ?_
  | refine LeO.bind ?_ (fun _=>?_)
theorem spec_ReadRecs.mono : ∀ a0 k,LeO (spec_ReadRecs.f k a0) (spec_ReadRecs.f (k + 1) a0):=by
 intro a0 k;obtain ⟨ih0,ih1⟩:=spec_ReadRecs.mono_l k;unfold spec_ReadRecs.f
 repeat' first
   | (with_reducible exact ih0 _ _ _ _ _)
   | (with_reducible exact ih1 _ _ _ _ _ _)
   | (with_reducible exact spec_RecOk.mono _ _ _ _ _)
   | (with_reducible exact spec_l06Var.mono _ _ _ _)
   | (with_reducible exact LeO.refl _)
   | (with_reducible exact LeO.none _)
   | (with_reducible refine LeO.ite ?_ ?_)
   | (with_reducible refine LeO.bind ?_ (fun _=>?_))
   | exact ih0 _ _ _ _ _
   | exact ih1 _ _ _ _ _ _
   | exact spec_RecOk.mono _ _ _ _ _
   | exact spec_l06Var.mono _ _ _ _
   | exact LeO.none _
   | refine LeO.ite ?_ ?_
   | refine LeO.bind ?_ (fun _=>?_)
set_option maxHeartbeats 8000000 in
set_option maxRecDepth 100000 in
theorem spec_ReadRecs.calls (k : Nat) (a0 : ByteArray) (r1 : List (S45)) (r2 : Bool) (w : World) (h : spec_ReadRecs.f k a0 = some (r1,r2)) :
  Calls Try.prog 57 #[.string a0] w fun e w'=>∃ v0_ : Value,e = .returned (.tuple #[v0_,.bool r2]) ∧ Kd.R k45 45 w' w.heap.size (fun _=>True) v0_ r1 ∧ Below w.heap.size w w':=by
 have hu99:=Try.underlying99;have hu45:=Try.underlying45;have HB:=zMk (Below.refl w.heap.size w);have H : (spec_ReadRecs.l0 k a0 (([] : List (S45))) a0 0 false) = some (r1,r2):=h;clear h;obtain ⟨y666,hy666⟩ : ∃ y_ : List (S45),y_ = (([] : List (S45))):=⟨_,rfl⟩;replace H : (spec_ReadRecs.l0 k a0 y666 a0 0 false) = some (r1,r2):=by first | (rw [hy666];with_reducible exact H) | (have H2_:=(Option.bind_some _ _).symm.trans H;rw [hy666];with_reducible exact H2_) | (have H2_:=(Option.bind_some _ _).symm.trans H;with_reducible exact H2_) | with_reducible exact H | (rw [hy666];exact H) | exact H
 have Ny666:=zMk hy666;clear hy666;have H':=zMk H;clear H
 go_enter Try.func57,Try.ntmps57
 go_wp2_with (first | ((with_reducible refine gate_dst (N:=8) rfl ?_);refine Kd.R_lit k45 _ 45 ?hg (N:=8) ?hd (xs:=([] : List (S45))) (inner:=[]) (ok:=fun _=>True) (okp:=fun _=>True) ?hr ?hp (fun _ hk=>hk) trivial (Below.refl _ _) (Nat.le_refl _) (by simp) ?_;(case hd=>rfl);(case hg=>rfl);(case hr=>first | (go_simp;done) | (go_simp;rfl));(case hp=>exact (Reps.none _ _));intro v667 w2 ho3 hb hg_ hnew_;clear hg_ hnew_;(first | rw [← Ny666.out] at ho3 | (simp only [Int.reduceToNat] at ho3;rw [← Ny666.out] at ho3));have n0_:=zMk (Kd.R_lower ho3 (below_size (hs HB)));have n1_:=zMk (below_step (hs HB) hb);clear HB;have HO668:=n0_;have HB:=n1_;clear n0_ n1_;clear hb ho3) | ((with_reducible refine gate_dst (N:=11) rfl ?_);refine box_event ?hg (N:=11) ?hd (cs:=#[.string a0,.int .i64 0,.bool false]) (t:=99) ?hr ?_;(case hd=>rfl);(case hg=>rfl);(case hr=>first | (go_simp;done) | (go_simp;rfl));intro gb669 hg w4 hbox hb;have n0_:=zMk (Kd.R_below (rs HO668) hb);have n1_:=zMk (below_step (hs HB) hb);have n2_:=zMk ((⟨hbox,(by rw [hg];exact (below_size (hs HB)) : w.heap.size ≤ gb669)⟩ : IsS99 w _ gb669 a0 0 false));have n3_:=zMk ((by rw [hg];exact (below_size (hs HB)) : w.heap.size ≤ gb669));have n4_:=zMk ((by rw [hg];exact (below_size (hs HB)) : w.heap.size ≤ gb669));clear HO668;clear HB;have HO668:=n0_;have HB:=n1_;have HI669:=n2_;have GW669:=n3_;have GE669:=n4_;clear n0_ n1_ n2_ n3_ n4_;clear hb hbox hg));go_loopg [4] k (fun kq v4 w'=>∃ (x4_1 : List (S45)) (x670000_1 : ByteArray) (x670001_1 : Int) (x670002_1 : Bool),Aside0 (spec_ReadRecs.l0 kq a0 x4_1 x670000_1 x670001_1 x670002_1 = some (r1,r2)) ∧ Aside0 (kq ≤ k) ∧ Aside0 (Kd.R k45 45 w' w.heap.size (fun _=>True) v4 x4_1) ∧ Aside0 (IsS99 w w' gb669 x670000_1 x670001_1 x670002_1) ∧ Aside0 (Below w.heap.size w w'));case atStart=>exact ⟨(y666),(a0),(0),(false),H',⟨Nat.le_refl _⟩,⟨rs HO668⟩,⟨by repeat (first | (with_reducible first | exact HI669.out | apply IsS99.alloc | apply IsS99.drewN | apply IsS99.drew | apply IsS99.set_0 | apply IsS99.set_1 | apply IsS99.set_2) | exact HI669.out)⟩,⟨by repeat (first | (with_reducible first | exact HB.out | apply below_alloc | apply pw_below_drewN | apply below_drew1 | refine below_set ?_ (IsS99.ge HI669.out)) | exact HB.out)⟩⟩
 case round =>
  clear H'
  try clear p2
  obtain ⟨x4_1,x670000_1,x670001_1,x670002_1,HA,HK1,HO_4,HI669,HB⟩:=hrel;cases gk with
  | zero=>exact absurd HA.out (by simp [spec_ReadRecs.l0])
  | succ k1 =>
   have H:=HA.out;clear HA;simp only [spec_ReadRecs.l0] at H;have HC5:=zMk H;clear H;go_upto_region 3 with (fail);go_cut [25] (fun v25 wc=>∃ (kq : Nat) (x25_4 : Bool),v25 = .bool x25_4 ∧ Aside0 (spec_ReadRecs.j1 kq a0 x4_1 x25_4 x670000_1 x670001_1 x670002_1 = some (r1,r2)) ∧ Aside0 (kq ≤ k1) ∧ Aside0 (Kd.R k45 45 wc w.heap.size (fun _=>True) u4 x4_1) ∧ Aside0 (IsS99 w wc gb669 x670000_1 x670001_1 x670002_1) ∧ Aside0 (Below w.heap.size w wc))
   case first =>
    have H:=HC5.out;clear HC5
    by_cases c6 : x670001_1 < (a0.size : Int)
    ·rw [if_pos c6] at H;have c6b0 : decide (x670001_1 < (a0.size : Int)) = true:=decide_eq_true c6;clear c6
     (first | rw [c6b0] | (simp only [i64_w,i32_w];rw [c6b0]) | skip)
     have H':=zMk H;clear H;obtain ⟨HGz7,hgz7⟩:=HI669.out;have hcz7_0:=cellS99_0 HGz7;have hcz7_1:=cellS99_1 HGz7;have hcz7_2:=cellS99_2 HGz7;have hfz7_0:=zFr HGz7 0;have hfz7_1:=zFr HGz7 1;have hfz7_2:=zFr HGz7 2;clear HGz7 hgz7
     go_wp2
     go_meet
     case rel=>exact ⟨_,(!x670002_1),(by first | rfl | (simp;done) | (simp [*];done)),H',⟨by have:=HK1.out;first | omega | exact Nat.le_refl _⟩,⟨rs HO_4⟩,⟨by repeat (first | (with_reducible first | exact HI669.out | apply IsS99.alloc | apply IsS99.drewN | apply IsS99.drew | apply IsS99.set_0 | apply IsS99.set_1 | apply IsS99.set_2) | exact HI669.out)⟩,⟨by repeat (first | (with_reducible first | exact HB.out | apply below_alloc | apply pw_below_drewN | apply below_drew1 | refine below_set ?_ (IsS99.ge HI669.out)) | exact HB.out)⟩⟩
    rw [if_neg c6] at H;have c6b0 : decide (x670001_1 < (a0.size : Int)) = false:=decide_eq_false c6;clear c6
    (first | rw [c6b0] | (simp only [i64_w,i32_w];rw [c6b0]) | skip)
    have H':=zMk H;clear H;obtain ⟨HGz8,hgz8⟩:=HI669.out;have hcz8_0:=cellS99_0 HGz8;have hcz8_1:=cellS99_1 HGz8;have hcz8_2:=cellS99_2 HGz8;have hfz8_0:=zFr HGz8 0;have hfz8_1:=zFr HGz8 1;have hfz8_2:=zFr HGz8 2;clear HGz8 hgz8
    go_wp2
    go_meet
    case rel=>exact ⟨_,(false),(by first | rfl | (simp;done) | (simp [*];done)),H',⟨by have:=HK1.out;first | omega | exact Nat.le_refl _⟩,⟨rs HO_4⟩,⟨by repeat (first | (with_reducible first | exact HI669.out | apply IsS99.alloc | apply IsS99.drewN | apply IsS99.drew | apply IsS99.set_0 | apply IsS99.set_1 | apply IsS99.set_2) | exact HI669.out)⟩,⟨by repeat (first | (with_reducible first | exact HB.out | apply below_alloc | apply pw_below_drewN | apply below_drew1 | refine below_set ?_ (IsS99.ge HI669.out)) | exact HB.out)⟩⟩
   case rest =>
    clear HC5
    try clear p2
    try clear c5
    try clear c6
    try clear c6b0
    try clear hcz7_0
    try clear hcz7_1
    try clear hcz7_2
    try clear hcz8_0
    try clear hcz8_1
    try clear hcz8_2
    try clear hfz7_0
    try clear hfz7_1
    try clear hfz7_2
    try clear hfz8_0
    try clear hfz8_1
    try clear hfz8_2
    try clear p2
    obtain ⟨kq,x25_4,rfl,HA,HJ4,HO_4,HI669,HB⟩:=hcut;cases kq with
    | zero=>exact absurd HA.out (by simp [spec_ReadRecs.j1])
    | succ kj4 =>
     have H:=HA.out;clear HA;simp only [spec_ReadRecs.j1] at H
     by_cases c9 : x25_4 = true
     ·subst c9;have H1 : (if 0 ≤ x670001_1 then (if x670001_1 < (a0.size : Int) then ((spec_l06Var.f kj4 x670000_1 (wrap64 (x670001_1 + 1)) x670002_1).bind fun bt670=>((spec_l06Var.f kj4 bt670.2.1 bt670.2.2.1 bt670.2.2.2).bind fun bt675=>(if bt675.2.2.2 = true then (some ((([] : List (S45))),false)) else ((spec_RecOk.f kj4 (wrap64 (Int.tdiv (wrap64 (bt a0 x670001_1)) 16)) (Int.tmod (wrap64 (bt a0 x670001_1)) 16) bt670.1 bt675.1).bind fun t682=>(if t682 = true then (if x4_1.length < 4398046511104 then (spec_ReadRecs.l0 kj4 a0 (x4_1 ++ [(⟨wrap64 (Int.tdiv (wrap64 (bt a0 x670001_1)) 16),Int.tmod (wrap64 (bt a0 x670001_1)) 16,bt670.1,bt675.1⟩ : S45)]) bt675.2.1 bt675.2.2.1 bt675.2.2.2) else (none)) else (some ((([] : List (S45))),false))))))) else (none)) else (none)) = some (r1,r2):=by rw [if_pos rfl] at H;exact H
      clear H;have H:=H1;clear H1
      by_cases c10 : 0 ≤ x670001_1
      ·rw [if_pos c10] at H;have c10b0 : decide (0 ≤ x670001_1) = true:=decide_eq_true c10;clear c10
       by_cases c11 : x670001_1 < (a0.size : Int)
       ·rw [if_pos c11] at H;have c11b0 : decide (x670001_1 < (a0.size : Int)) = true:=decide_eq_true c11;clear c11;replace H:=Option.bind_eq_some_iff.mp H;obtain ⟨⟨t670,t671,t672,t673⟩,A130,H⟩:=H;replace H : ((spec_l06Var.f kj4 t671 t672 t673).bind fun bt675=>(if bt675.2.2.2 = true then (some ((([] : List (S45))),false)) else ((spec_RecOk.f kj4 (wrap64 (Int.tdiv (wrap64 (bt a0 x670001_1)) 16)) (Int.tmod (wrap64 (bt a0 x670001_1)) 16) t670 bt675.1).bind fun t682=>(if t682 = true then (if x4_1.length < 4398046511104 then (spec_ReadRecs.l0 kj4 a0 (x4_1 ++ [(⟨wrap64 (Int.tdiv (wrap64 (bt a0 x670001_1)) 16),Int.tmod (wrap64 (bt a0 x670001_1)) 16,t670,bt675.1⟩ : S45)]) bt675.2.1 bt675.2.2.1 bt675.2.2.2) else (none)) else (some ((([] : List (S45))),false)))))) = some (r1,r2):=H;have A13:=zMk A130;clear A130;replace H:=Option.bind_eq_some_iff.mp H;obtain ⟨⟨t675,t676,t677,t678⟩,A140,H⟩:=H;replace H : (if t678 = true then (some ((([] : List (S45))),false)) else ((spec_RecOk.f kj4 (wrap64 (Int.tdiv (wrap64 (bt a0 x670001_1)) 16)) (Int.tmod (wrap64 (bt a0 x670001_1)) 16) t670 t675).bind fun t682=>(if t682 = true then (if x4_1.length < 4398046511104 then (spec_ReadRecs.l0 kj4 a0 (x4_1 ++ [(⟨wrap64 (Int.tdiv (wrap64 (bt a0 x670001_1)) 16),Int.tmod (wrap64 (bt a0 x670001_1)) 16,t670,t675⟩ : S45)]) t676 t677 t678) else (none)) else (some ((([] : List (S45))),false))))) = some (r1,r2):=H;have A14:=zMk A140;clear A140;obtain ⟨HGz16,hgz16⟩:=HI669.out;have hcz16_0:=cellS99_0 HGz16;have hcz16_1:=cellS99_1 HGz16;have hcz16_2:=cellS99_2 HGz16;have hfz16_0:=zFr HGz16 0;have hfz16_1:=zFr HGz16 1;have hfz16_2:=zFr HGz16 2;clear HGz16 hgz16;have p12 : 0 ≤ (x670001_1 : Int):=zDe (by first | (with_reducible assumption) | assumption);have q12 : x670001_1 < (a0.size : Int):=zDe (by first | (with_reducible assumption) | assumption);have hx12:=bt_at a0 x670001_1;replace p12:=eq_true p12;replace q12:=eq_true q12;go_upto_region 8 with (first | ((with_reducible refine gate_callee (f:=67) rfl ?_);refine goesL_ (some 46) rfl rfl Try.func67 (by kernel_rfl) rfl #[.pointer (some ⟨gb669,0,none⟩)] rfl (by (try simp only [List.map_toArray,List.map_cons,List.map_nil]);first | done | rfl | (simp only [List.length_drop,List.length_take];rfl)) ?_;(with_reducible refine (spec_l06Var.calls kj4 gb669 x670000_1 (wrap64 (x670001_1 + 1)) x670002_1 t670 t671 t672 t673 w _ ?side1 ?side2 A13.out).mono ?_);(case side1=>repeat (first | (with_reducible first | exact HI669.out | apply IsS99.alloc | apply IsS99.drewN | apply IsS99.drew | apply IsS99.set_0 | apply IsS99.set_1 | apply IsS99.set_2) | exact HI669.out));(case side2=>repeat (first | (with_reducible first | exact HB.out | apply below_alloc | apply pw_below_drewN | apply below_drew1 | refine below_set ?_ (IsS99.ge HI669.out)) | exact HB.out));rintro e w17 ⟨rfl,hi,hb,hk⟩;refine ⟨_,rfl,?_⟩;have n0_:=zMk (Kd.R_mono (Kd.R_keep (IsS99.apart (show IsS99 w _ gb669 x670000_1 (wrap64 (x670001_1 + 1)) x670002_1 from by repeat (first | (with_reducible first | exact HI669.out | apply IsS99.alloc | apply IsS99.drewN | apply IsS99.drew | apply IsS99.set_0 | apply IsS99.set_1 | apply IsS99.set_2) | exact HI669.out)) (by (with_reducible repeat (first | apply Kd.R_alloc | apply Kd.R_drewN | apply Kd.R_drew));exact (Kd.R_mono (Kd.R_far (p:=⟨gb669,1,none⟩) (IsS99.apart HI669.out HO_4.out (by decide)) (fun _ hk=>hk.2) (.int .i64 (wrap64 (x670001_1 + 1)))) (fun _ h_=>h_.1))) (by decide)) hk (fun _ h=>h.2)) (fun _ h=>h.1));have n1_:=zMk (hb);have n2_:=zMk (hi);clear HO_4;clear HB;clear HI669;have HO_4:=n0_;have HB:=n1_;have HI669:=n2_;clear n0_ n1_ n2_;(try clear hb);(try clear hb2);(try clear hk);(try clear hi)) | ((with_reducible refine gate_dst (N:=7) rfl ?_);refine box_event ?hg (N:=7) ?hd (cs:=#[.int .i64 0,.int .i64 0,.int .i64 0,.int .i64 0]) (t:=45) ?hr ?_;(case hd=>rfl);(case hg=>rfl);(case hr=>first | (go_simp;done) | (go_simp;rfl));intro gb674 hg w18 hbox hb;have n0_:=zMk (Kd.R_below (Kd.R_elderB (rs HO_4) gb674 (Nat.le_of_eq hg.symm)) hb);have n1_:=zMk (IsS99.below (by repeat (first | (with_reducible first | exact HI669.out | apply IsS99.alloc | apply IsS99.drewN | apply IsS99.drew | apply IsS99.set_0 | apply IsS99.set_1 | apply IsS99.set_2) | exact HI669.out)) hb);have n2_:=zMk (below_step (by repeat (first | (with_reducible first | exact HB.out | apply below_alloc | apply pw_below_drewN | apply below_drew1 | refine below_set ?_ (IsS99.ge HI669.out)) | exact HB.out)) hb);have n3_:=zMk (hbox);have n4_:=zMk ((by rw [hg];exact (below_size (by repeat (first | (with_reducible first | exact HB.out | apply below_alloc | apply pw_below_drewN | apply below_drew1 | refine below_set ?_ (IsS99.ge HI669.out)) | exact HB.out))) : w.heap.size ≤ gb674));have n5_:=zMk ((by rw [hg];exact (below_size (by repeat (first | (with_reducible first | exact HB.out | apply below_alloc | apply pw_below_drewN | apply below_drew1 | refine below_set ?_ (IsS99.ge HI669.out)) | exact HB.out))) : w.heap.size ≤ gb674));have n6_:=zMk ((by rw [hg];exact Nat.ne_of_lt (IsS99.lt (show IsS99 w _ gb669 t671 t672 t673 from by repeat (first | (with_reducible first | exact HI669.out | apply IsS99.alloc | apply IsS99.drewN | apply IsS99.drew | apply IsS99.set_0 | apply IsS99.set_1 | apply IsS99.set_2) | exact HI669.out))) : gb669 ≠ gb674));have n7_:=zMk ((by rw [hg];exact Nat.ne_of_gt (IsS99.lt (show IsS99 w _ gb669 t671 t672 t673 from by repeat (first | (with_reducible first | exact HI669.out | apply IsS99.alloc | apply IsS99.drewN | apply IsS99.drew | apply IsS99.set_0 | apply IsS99.set_1 | apply IsS99.set_2) | exact HI669.out))) : gb674 ≠ gb669));clear HO_4;clear HI669;clear HB;have HO_4:=n0_;have HI669:=n1_;have HB:=n2_;have BK674:=n3_;have GW674:=n4_;have GE674:=n5_;have NB669_674:=n6_;have NB674_669:=n7_;clear n0_ n1_ n2_ n3_ n4_ n5_ n6_ n7_;clear hb hbox hg;have hnb19:=NB674_669.out;have hnc19:=NB669_674.out;have hcz20_0 : w18.cell? ⟨gb674,0,none⟩ = some (.int .i64 0):=(zCl BK674.out 0).trans rfl;have hcz20_1 : w18.cell? ⟨gb674,1,none⟩ = some (.int .i64 0):=(zCl BK674.out 1).trans rfl;have hcz20_2 : w18.cell? ⟨gb674,2,none⟩ = some (.int .i64 0):=(zCl BK674.out 2).trans rfl;have hcz20_3 : w18.cell? ⟨gb674,3,none⟩ = some (.int .i64 0):=(zCl BK674.out 3).trans rfl;have hfz20_0:=zFr BK674.out 0;have hfz20_1:=zFr BK674.out 1;have hfz20_2:=zFr BK674.out 2;have hfz20_3:=zFr BK674.out 3) | ((with_reducible refine gate_callee (f:=67) rfl ?_);refine goesL_ (some 49) rfl rfl Try.func67 (by kernel_rfl) rfl #[.pointer (some ⟨gb669,0,none⟩)] rfl (by (try simp only [List.map_toArray,List.map_cons,List.map_nil]);first | done | rfl | (simp only [List.length_drop,List.length_take];rfl)) ?_;(with_reducible refine (spec_l06Var.calls kj4 gb669 t671 t672 t673 t675 t676 t677 t678 w _ ?side1 ?side2 A14.out).mono ?_);(case side1=>repeat (first | (with_reducible first | exact HI669.out | apply IsS99.alloc | apply IsS99.drewN | apply IsS99.drew | apply IsS99.set_0 | apply IsS99.set_1 | apply IsS99.set_2 | refine IsS99.far ?_ NB669_674.out _) | exact HI669.out));(case side2=>repeat (first | (with_reducible first | exact HB.out | apply below_alloc | apply pw_below_drewN | apply below_drew1 | refine below_set ?_ (IsS99.ge HI669.out) | refine below_set ?_ GE674.out) | exact HB.out));rintro e w21 ⟨rfl,hi,hb,hk⟩;refine ⟨_,rfl,?_⟩;have n0_:=zMk (Kd.R_mono (Kd.R_keep (IsS99.apart (show IsS99 w _ gb669 t671 t672 t673 from by repeat (first | (with_reducible first | exact HI669.out | apply IsS99.alloc | apply IsS99.drewN | apply IsS99.drew | apply IsS99.set_0 | apply IsS99.set_1 | apply IsS99.set_2 | refine IsS99.far ?_ NB669_674.out _) | exact HI669.out)) (by (with_reducible repeat (first | apply Kd.R_alloc | apply Kd.R_drewN | apply Kd.R_drew));exact (Kd.R_mono (Kd.R_far (p:=⟨gb674,3,none⟩) (Kd.R_far (p:=⟨gb674,2,none⟩) (Kd.R_far (p:=⟨gb674,1,none⟩) (Kd.R_far (p:=⟨gb674,0,none⟩) (Kd.R_mono HO_4.out (fun k_ hk=>(⟨hk,hk.2⟩ : _ ∧ k_ ≠ gb674))) (fun _ hk=>hk.2) (.int .i64 (wrap64 (Int.tdiv (wrap64 (bt a0 x670001_1)) 16)))) (fun _ hk=>hk.2) (.int .i64 (Int.tmod (wrap64 (bt a0 x670001_1)) 16))) (fun _ hk=>hk.2) (.int .i64 t670)) (fun _ hk=>hk.2) (.int .i64 0)) (fun _ h_=>h_.1))) (by decide)) hk (fun _ h=>h.2)) (fun _ h=>h.1));have n1_:=zMk (KeepBut.blk hk (g':=gb674) (o:=.cells #[.int .i64 (wrap64 (Int.tdiv (wrap64 (bt a0 x670001_1)) 16)),.int .i64 (Int.tmod (wrap64 (bt a0 x670001_1)) 16),.int .i64 t670,.int .i64 0] 45 (0,0)) (by (with_reducible repeat (first | refine blk_drewN ?_ _ | refine blk_drew ?_ | refine blk_alloc ?_ _));refine blk_put (cs:=#[.int .i64 (wrap64 (Int.tdiv (wrap64 (bt a0 x670001_1)) 16)),.int .i64 (Int.tmod (wrap64 (bt a0 x670001_1)) 16),.int .i64 t670,.int .i64 0]) ?_ 3 _ rfl;(with_reducible repeat (first | refine blk_drewN ?_ _ | refine blk_drew ?_ | refine blk_alloc ?_ _));refine blk_put (cs:=#[.int .i64 (wrap64 (Int.tdiv (wrap64 (bt a0 x670001_1)) 16)),.int .i64 (Int.tmod (wrap64 (bt a0 x670001_1)) 16),.int .i64 0,.int .i64 0]) ?_ 2 _ rfl;(with_reducible repeat (first | refine blk_drewN ?_ _ | refine blk_drew ?_ | refine blk_alloc ?_ _));refine blk_put (cs:=#[.int .i64 (wrap64 (Int.tdiv (wrap64 (bt a0 x670001_1)) 16)),.int .i64 0,.int .i64 0,.int .i64 0]) ?_ 1 _ rfl;(with_reducible repeat (first | refine blk_drewN ?_ _ | refine blk_drew ?_ | refine blk_alloc ?_ _));refine blk_put (cs:=#[.int .i64 0,.int .i64 0,.int .i64 0,.int .i64 0]) ?_ 0 _ rfl;(with_reducible repeat (first | refine blk_drewN ?_ _ | refine blk_drew ?_ | refine blk_alloc ?_ _));exact BK674.out) NB674_669.out (by simp));have n2_:=zMk (hb);have n3_:=zMk (hi);clear HO_4;clear BK674;clear HB;clear HI669;have HO_4:=n0_;have BK674:=n1_;have HB:=n2_;have HI669:=n3_;clear n0_ n1_ n2_ n3_;(try clear hb);(try clear hb2);(try clear hk);(try clear hi);have hcz22_0 : w21.cell? ⟨gb674,0,none⟩ = some (.int .i64 (wrap64 (Int.tdiv (wrap64 (bt a0 x670001_1)) 16))):=(zCl BK674.out 0).trans rfl;have hcz22_1 : w21.cell? ⟨gb674,1,none⟩ = some (.int .i64 (Int.tmod (wrap64 (bt a0 x670001_1)) 16)):=(zCl BK674.out 1).trans rfl;have hcz22_2 : w21.cell? ⟨gb674,2,none⟩ = some (.int .i64 t670):=(zCl BK674.out 2).trans rfl;have hcz22_3 : w21.cell? ⟨gb674,3,none⟩ = some (.int .i64 0):=(zCl BK674.out 3).trans rfl;have hfz22_0:=zFr BK674.out 0;have hfz22_1:=zFr BK674.out 1;have hfz22_2:=zFr BK674.out 2;have hfz22_3:=zFr BK674.out 3;obtain ⟨HGz23,hgz23⟩:=HI669.out;have hcz23_0:=cellS99_0 HGz23;have hcz23_1:=cellS99_1 HGz23;have hcz23_2:=cellS99_2 HGz23;have hfz23_0:=zFr HGz23 0;have hfz23_1:=zFr HGz23 1;have hfz23_2:=zFr HGz23 2;clear HGz23 hgz23))
        (try simp only [Act.put,zS1,zS2,zS3])
        by_cases c15 : t678 = true
        ·subst c15;have H1 : (some ((([] : List (S45))),false)) = some (r1,r2):=by rw [if_pos rfl] at H;exact H
         clear H;have H:=H1;clear H1;obtain ⟨y679,hy679⟩ : ∃ y_ : List (S45),y_ = (([] : List (S45))):=⟨_,rfl⟩;replace H : (some (y679,false)) = some (r1,r2):=by first | (rw [hy679];with_reducible exact H) | (have H2_:=(Option.bind_some _ _).symm.trans H;rw [hy679];with_reducible exact H2_) | (have H2_:=(Option.bind_some _ _).symm.trans H;with_reducible exact H2_) | with_reducible exact H | (rw [hy679];exact H) | exact H
         have Ny679:=zMk hy679;clear hy679;simp only [Option.some.injEq,Prod.mk.injEq] at H;obtain ⟨rfl,rfl⟩:=H;go_wp2_with (first | ((with_reducible refine gate_dst (N:=60) rfl ?_);refine Kd.R_lit k45 _ 45 ?hg (N:=60) ?hd (xs:=([] : List (S45))) (inner:=[]) (ok:=fun _=>True) (okp:=fun _=>True) ?hr ?hp (fun _ hk=>hk) trivial (Below.refl _ _) (Nat.le_refl _) (by simp) ?_;(case hd=>rfl);(case hg=>rfl);(case hr=>first | (go_simp;done) | (go_simp;rfl));(case hp=>exact (Reps.none _ _));intro v680 w24 ho25 hb hg_ hnew_;clear hg_ hnew_;(first | rw [← Ny679.out] at ho25 | (simp only [Int.reduceToNat] at ho25;rw [← Ny679.out] at ho25));have n0_:=zMk (Kd.R_elder' (by (with_reducible repeat (first | apply Kd.R_alloc | apply Kd.R_drewN | apply Kd.R_drew));exact (Kd.R_mono (Kd.R_far (p:=⟨gb674,3,none⟩) (Kd.R_mono HO_4.out (fun k_ hk=>(⟨hk,hk.2⟩ : _ ∧ k_ ≠ gb674))) (fun _ hk=>hk.2) (.int .i64 t675)) (fun _ h_=>h_.1))) (Kd.R_base ho25) hb);have n1_:=zMk (Kd.R_lower (Kd.R_newB (Kd.R_new' ho25 (Kd.R_lt (by (with_reducible repeat (first | apply Kd.R_alloc | apply Kd.R_drewN | apply Kd.R_drew));exact (Kd.R_mono (Kd.R_far (p:=⟨gb674,3,none⟩) (Kd.R_mono HO_4.out (fun k_ hk=>(⟨hk,hk.2⟩ : _ ∧ k_ ≠ gb674))) (fun _ hk=>hk.2) (.int .i64 t675)) (fun _ h_=>h_.1))))) (g:=gb674) (o:=.cells #[.int .i64 (wrap64 (Int.tdiv (wrap64 (bt a0 x670001_1)) 16)),.int .i64 (Int.tmod (wrap64 (bt a0 x670001_1)) 16),.int .i64 t670,.int .i64 t675] 45 (0,0)) (by (with_reducible repeat (first | refine blk_drewN ?_ _ | refine blk_drew ?_ | refine blk_alloc ?_ _));refine blk_put (cs:=#[.int .i64 (wrap64 (Int.tdiv (wrap64 (bt a0 x670001_1)) 16)),.int .i64 (Int.tmod (wrap64 (bt a0 x670001_1)) 16),.int .i64 t670,.int .i64 0]) ?_ 3 _ rfl;(with_reducible repeat (first | refine blk_drewN ?_ _ | refine blk_drew ?_ | refine blk_alloc ?_ _));exact BK674.out)) (below_size (by repeat (first | (with_reducible first | exact HB.out | apply below_alloc | apply pw_below_drewN | apply below_drew1 | refine below_set ?_ (IsS99.ge HI669.out) | refine below_set ?_ GE674.out) | exact HB.out))));have n2_:=zMk (IsS99.below (show IsS99 w (w21.setCell ⟨gb674,3,none⟩ (.int .i64 t675)) gb669 t676 t677 true from by repeat (first | (with_reducible first | exact HI669.out | apply IsS99.alloc | apply IsS99.drewN | apply IsS99.drew | apply IsS99.set_0 | apply IsS99.set_1 | apply IsS99.set_2 | refine IsS99.far ?_ NB669_674.out _) | exact HI669.out)) hb);have n3_:=zMk (blk_below (g:=gb674) (o:=.cells #[.int .i64 (wrap64 (Int.tdiv (wrap64 (bt a0 x670001_1)) 16)),.int .i64 (Int.tmod (wrap64 (bt a0 x670001_1)) 16),.int .i64 t670,.int .i64 t675] 45 (0,0)) (by (with_reducible repeat (first | refine blk_drewN ?_ _ | refine blk_drew ?_ | refine blk_alloc ?_ _));refine blk_put (cs:=#[.int .i64 (wrap64 (Int.tdiv (wrap64 (bt a0 x670001_1)) 16)),.int .i64 (Int.tmod (wrap64 (bt a0 x670001_1)) 16),.int .i64 t670,.int .i64 0]) ?_ 3 _ rfl;(with_reducible repeat (first | refine blk_drewN ?_ _ | refine blk_drew ?_ | refine blk_alloc ?_ _));exact BK674.out) hb);have n4_:=zMk (below_step (by repeat (first | (with_reducible first | exact HB.out | apply below_alloc | apply pw_below_drewN | apply below_drew1 | refine below_set ?_ (IsS99.ge HI669.out) | refine below_set ?_ GE674.out) | exact HB.out)) hb);clear HO_4;clear HI669;clear BK674;clear HB;have HO_4:=n0_;have HO681:=n1_;have HI669:=n2_;have BK674:=n3_;have HB:=n4_;clear n0_ n1_ n2_ n3_ n4_;clear hb ho25))
         go_ret2
         exact ⟨_,by first | rfl | (simp [errW_none,errW_some] <;> rfl) | (simp [*,errW_none,errW_some] <;> rfl),by (with_reducible repeat (first | apply Kd.R_alloc | apply Kd.R_drewN | apply Kd.R_drew));exact Kd.R_mono HO681.out (fun _ hk=>trivial),by repeat (first | (with_reducible first | exact HB.out | apply below_alloc | apply pw_below_drewN | apply below_drew1 | refine below_set ?_ (IsS99.ge HI669.out) | refine below_set ?_ GE674.out) | exact HB.out)⟩
        replace c15:=Bool.eq_false_iff.mpr c15;subst c15;have H1 : ((spec_RecOk.f kj4 (wrap64 (Int.tdiv (wrap64 (bt a0 x670001_1)) 16)) (Int.tmod (wrap64 (bt a0 x670001_1)) 16) t670 t675).bind fun t682=>(if t682 = true then (if x4_1.length < 4398046511104 then (spec_ReadRecs.l0 kj4 a0 (x4_1 ++ [(⟨wrap64 (Int.tdiv (wrap64 (bt a0 x670001_1)) 16),Int.tmod (wrap64 (bt a0 x670001_1)) 16,t670,t675⟩ : S45)]) t676 t677 false) else (none)) else (some ((([] : List (S45))),false)))) = some (r1,r2):=by rw [if_neg (show ¬ (false = true) by decide)] at H;exact H
        clear H;have H:=H1;clear H1;replace H:=Option.bind_eq_some_iff.mp H;obtain ⟨t682,A260,H⟩:=H;replace H : (if t682 = true then (if x4_1.length < 4398046511104 then (spec_ReadRecs.l0 kj4 a0 (x4_1 ++ [(⟨wrap64 (Int.tdiv (wrap64 (bt a0 x670001_1)) 16),Int.tmod (wrap64 (bt a0 x670001_1)) 16,t670,t675⟩ : S45)]) t676 t677 false) else (none)) else (some ((([] : List (S45))),false))) = some (r1,r2):=H;have A26:=zMk A260;clear A260
        go_upto_if 59 with (first | (go_at_call 51;(with_reducible refine (spec_RecOk.calls kj4 (wrap64 (Int.tdiv (wrap64 (bt a0 x670001_1)) 16)) (Int.tmod (wrap64 (bt a0 x670001_1)) 16) t670 t675 t682 _ A26.out).mono ?_);rintro e w37 ⟨rfl,hb⟩;have n0_:=zMk (Kd.R_below (by (with_reducible repeat (first | apply Kd.R_alloc | apply Kd.R_drewN | apply Kd.R_drew));exact (Kd.R_mono (Kd.R_far (p:=⟨gb674,3,none⟩) (Kd.R_mono HO_4.out (fun k_ hk=>(⟨hk,hk.2⟩ : _ ∧ k_ ≠ gb674))) (fun _ hk=>hk.2) (.int .i64 t675)) (fun _ h_=>h_.1))) hb);have n1_:=zMk (IsS99.below (show IsS99 w (w21.setCell ⟨gb674,3,none⟩ (.int .i64 t675)) gb669 t676 t677 false from by repeat (first | (with_reducible first | exact HI669.out | apply IsS99.alloc | apply IsS99.drewN | apply IsS99.drew | apply IsS99.set_0 | apply IsS99.set_1 | apply IsS99.set_2 | refine IsS99.far ?_ NB669_674.out _) | exact HI669.out)) hb);have n2_:=zMk (blk_below (g:=gb674) (o:=.cells #[.int .i64 (wrap64 (Int.tdiv (wrap64 (bt a0 x670001_1)) 16)),.int .i64 (Int.tmod (wrap64 (bt a0 x670001_1)) 16),.int .i64 t670,.int .i64 t675] 45 (0,0)) (by (with_reducible repeat (first | refine blk_drewN ?_ _ | refine blk_drew ?_ | refine blk_alloc ?_ _));refine blk_put (cs:=#[.int .i64 (wrap64 (Int.tdiv (wrap64 (bt a0 x670001_1)) 16)),.int .i64 (Int.tmod (wrap64 (bt a0 x670001_1)) 16),.int .i64 t670,.int .i64 0]) ?_ 3 _ rfl;(with_reducible repeat (first | refine blk_drewN ?_ _ | refine blk_drew ?_ | refine blk_alloc ?_ _));exact BK674.out) hb);have n3_:=zMk (below_step (by repeat (first | (with_reducible first | exact HB.out | apply below_alloc | apply pw_below_drewN | apply below_drew1 | refine below_set ?_ (IsS99.ge HI669.out) | refine below_set ?_ GE674.out) | exact HB.out)) hb);clear HO_4;clear HI669;clear BK674;clear HB;have HO_4:=n0_;have HI669:=n1_;have BK674:=n2_;have HB:=n3_;clear n0_ n1_ n2_ n3_;(try clear hb);(try clear hb2);(try clear hk);(try clear hi)))
        (try simp only [Act.put,zS1,zS2,zS3])
        by_cases c27 : t682 = true
        ·subst c27;have H1 : (if x4_1.length < 4398046511104 then (spec_ReadRecs.l0 kj4 a0 (x4_1 ++ [(⟨wrap64 (Int.tdiv (wrap64 (bt a0 x670001_1)) 16),Int.tmod (wrap64 (bt a0 x670001_1)) 16,t670,t675⟩ : S45)]) t676 t677 false) else (none)) = some (r1,r2):=by rw [if_pos rfl] at H;exact H
         clear H;have H:=H1;clear H1
         by_cases c28 : x4_1.length < 4398046511104
         ·rw [if_pos c28] at H;have LMc28:=zMk c28;clear c28;obtain ⟨y683,hy683⟩ : ∃ y_ : List (S45),y_ = (x4_1 ++ [(⟨wrap64 (Int.tdiv (wrap64 (bt a0 x670001_1)) 16),Int.tmod (wrap64 (bt a0 x670001_1)) 16,t670,t675⟩ : S45)]):=⟨_,rfl⟩;replace H : (spec_ReadRecs.l0 kj4 a0 y683 t676 t677 false) = some (r1,r2):=by first | (rw [hy683];with_reducible exact H) | (have H2_:=(Option.bind_some _ _).symm.trans H;rw [hy683];with_reducible exact H2_) | (have H2_:=(Option.bind_some _ _).symm.trans H;with_reducible exact H2_) | with_reducible exact H | (rw [hy683];exact H) | exact H
          have Ny683:=zMk hy683;clear hy683;have H':=zMk H;clear H;have hcz38_0 : w37.cell? ⟨gb674,0,none⟩ = some (.int .i64 (wrap64 (Int.tdiv (wrap64 (bt a0 x670001_1)) 16))):=(zCl BK674.out 0).trans rfl;have hcz38_1 : w37.cell? ⟨gb674,1,none⟩ = some (.int .i64 (Int.tmod (wrap64 (bt a0 x670001_1)) 16)):=(zCl BK674.out 1).trans rfl;have hcz38_2 : w37.cell? ⟨gb674,2,none⟩ = some (.int .i64 t670):=(zCl BK674.out 2).trans rfl;have hcz38_3 : w37.cell? ⟨gb674,3,none⟩ = some (.int .i64 t675):=(zCl BK674.out 3).trans rfl;have hfz38_0:=zFr BK674.out 0;have hfz38_1:=zFr BK674.out 1;have hfz38_2:=zFr BK674.out 2;have hfz38_3:=zFr BK674.out 3;go_wp2_with (first | ((with_reducible refine gate_builtin (b:=.append) (xs:=#[.tmp 61,.tmp 63]) rfl ?_);at_builtin;refine Kd.R_append k45 (w0:=w) w.heap.size rfl (.tmp 61) (.tmp 63) 24 45 (.agg #[(.int .i64 0),(.int .i64 0),(.int .i64 0),(.int .i64 0)]) 32 rfl Try.underlying24 info45 rfl (by decide) (by omega) u4 x4_1 (⟨wrap64 (Int.tdiv (wrap64 (bt a0 x670001_1)) 16),Int.tmod (wrap64 (bt a0 x670001_1)) 16,t670,t675⟩ : S45) [.int .i64 (wrap64 (Int.tdiv (wrap64 (bt a0 x670001_1)) 16)),.int .i64 (Int.tmod (wrap64 (bt a0 x670001_1)) 16),.int .i64 t670,.int .i64 t675] (fun k_=>k_ ≠ gb674) (fun _=>False) rfl rfl ?aP (fun _ hk=>hk.elim) ?aF ?aO ?aB ?aS ?aL ?_;(case aP=>exact k45_mkM _ _ _ (⟨wrap64 (Int.tdiv (wrap64 (bt a0 x670001_1)) 16),Int.tmod (wrap64 (bt a0 x670001_1)) 16,t670,t675⟩ : S45));(case aB=>exact (by repeat (first | (with_reducible first | exact HB.out | apply below_alloc | apply pw_below_drewN | apply below_drew1 | refine below_set ?_ (IsS99.ge HI669.out) | refine below_set ?_ GE674.out) | exact HB.out)));(case aF=>exact (fun k_ hk=>Kd.freshB (g:=gb674) (o:=.cells #[.int .i64 (wrap64 (Int.tdiv (wrap64 (bt a0 x670001_1)) 16)),.int .i64 (Int.tmod (wrap64 (bt a0 x670001_1)) 16),.int .i64 t670,.int .i64 t675] 45 (0,0)) (bs BK674) k_ hk));(case aO=>exact (by (with_reducible repeat (first | apply Kd.R_alloc | apply Kd.R_drewN | apply Kd.R_drew));exact Kd.R_mono HO_4.out (fun _ hk=>hk.2)));(case aS=>exact (below_size (by repeat (first | (with_reducible first | exact HB.out | apply below_alloc | apply pw_below_drewN | apply below_drew1 | refine below_set ?_ (IsS99.ge HI669.out) | refine below_set ?_ GE674.out) | exact HB.out))));(case aL=>have:=LMc28.out;omega);intro v684 w39 ho hb hg hat;rw [← Ny683.out] at ho;have n0_:=zMk (IsS99.grown (by repeat (first | (with_reducible first | exact HI669.out | apply IsS99.alloc | apply IsS99.drewN | apply IsS99.drew | apply IsS99.set_0 | apply IsS99.set_1 | apply IsS99.set_2 | refine IsS99.far ?_ NB669_674.out _) | exact HI669.out)) hg (IsS99.own_ne HI669.out HO_4.out (by decide)));have n1_:=zMk (blk_grown (g:=gb674) (o:=.cells #[.int .i64 (wrap64 (Int.tdiv (wrap64 (bt a0 x670001_1)) 16)),.int .i64 (Int.tmod (wrap64 (bt a0 x670001_1)) 16),.int .i64 t670,.int .i64 t675] 45 (0,0)) (bs BK674) hg (Kd.R_away HO_4.out (fun _ hk=>hk.2)));have n2_:=zMk (hb);have n3_:=zMk (ho);clear HI669;clear BK674;clear HB;clear HO_4;have HI669:=n0_;have BK674:=n1_;have HB:=n2_;have HO685:=n3_;clear n0_ n1_ n2_ n3_;clear ho hb hg hat));go_roundg kj4;case measure=>have:=HK1.out;have:=HJ4.out;omega
          case rel=>exact ⟨(y683),(t676),(t677),(false),H',⟨by have:=HK1.out;have:=HJ4.out;omega⟩,⟨by (with_reducible repeat (first | apply Kd.R_alloc | apply Kd.R_drewN | apply Kd.R_drew));exact Kd.R_mono HO685.out (fun _ hk=>trivial)⟩,⟨by repeat (first | (with_reducible first | exact HI669.out | apply IsS99.alloc | apply IsS99.drewN | apply IsS99.drew | apply IsS99.set_0 | apply IsS99.set_1 | apply IsS99.set_2 | refine IsS99.far ?_ NB669_674.out _) | exact HI669.out)⟩,⟨by repeat (first | (with_reducible first | exact HB.out | apply below_alloc | apply pw_below_drewN | apply below_drew1 | refine below_set ?_ (IsS99.ge HI669.out) | refine below_set ?_ GE674.out) | exact HB.out)⟩⟩
         rw [if_neg c28] at H;exact absurd H (by simp)
        replace c27:=Bool.eq_false_iff.mpr c27;subst c27;have H1 : (some ((([] : List (S45))),false)) = some (r1,r2):=by rw [if_neg (show ¬ (false = true) by decide)] at H;exact H
        clear H;have H:=H1;clear H1;obtain ⟨y686,hy686⟩ : ∃ y_ : List (S45),y_ = (([] : List (S45))):=⟨_,rfl⟩;replace H : (some (y686,false)) = some (r1,r2):=by first | (rw [hy686];with_reducible exact H) | (have H2_:=(Option.bind_some _ _).symm.trans H;rw [hy686];with_reducible exact H2_) | (have H2_:=(Option.bind_some _ _).symm.trans H;with_reducible exact H2_) | with_reducible exact H | (rw [hy686];exact H) | exact H
        have Ny686:=zMk hy686;clear hy686;simp only [Option.some.injEq,Prod.mk.injEq] at H;obtain ⟨rfl,rfl⟩:=H;go_wp2_with (first | ((with_reducible refine gate_dst (N:=60) rfl ?_);refine Kd.R_lit k45 _ 45 ?hg (N:=60) ?hd (xs:=([] : List (S45))) (inner:=[]) (ok:=fun _=>True) (okp:=fun _=>True) ?hr ?hp (fun _ hk=>hk) trivial (Below.refl _ _) (Nat.le_refl _) (by simp) ?_;(case hd=>rfl);(case hg=>rfl);(case hr=>first | (go_simp;done) | (go_simp;rfl));(case hp=>exact (Reps.none _ _));intro v687 w49 ho50 hb hg_ hnew_;clear hg_ hnew_;(first | rw [← Ny686.out] at ho50 | (simp only [Int.reduceToNat] at ho50;rw [← Ny686.out] at ho50));have n0_:=zMk (Kd.R_elder' (rs HO_4) (Kd.R_base ho50) hb);have n1_:=zMk (Kd.R_lower (Kd.R_newB (Kd.R_new' ho50 (Kd.R_lt (rs HO_4))) (g:=gb674) (o:=.cells #[.int .i64 (wrap64 (Int.tdiv (wrap64 (bt a0 x670001_1)) 16)),.int .i64 (Int.tmod (wrap64 (bt a0 x670001_1)) 16),.int .i64 t670,.int .i64 t675] 45 (0,0)) (bs BK674)) (below_size (by repeat (first | (with_reducible first | exact HB.out | apply below_alloc | apply pw_below_drewN | apply below_drew1 | refine below_set ?_ (IsS99.ge HI669.out) | refine below_set ?_ GE674.out) | exact HB.out))));have n2_:=zMk (IsS99.below (by repeat (first | (with_reducible first | exact HI669.out | apply IsS99.alloc | apply IsS99.drewN | apply IsS99.drew | apply IsS99.set_0 | apply IsS99.set_1 | apply IsS99.set_2 | refine IsS99.far ?_ NB669_674.out _) | exact HI669.out)) hb);have n3_:=zMk (blk_below (g:=gb674) (o:=.cells #[.int .i64 (wrap64 (Int.tdiv (wrap64 (bt a0 x670001_1)) 16)),.int .i64 (Int.tmod (wrap64 (bt a0 x670001_1)) 16),.int .i64 t670,.int .i64 t675] 45 (0,0)) (bs BK674) hb);have n4_:=zMk (below_step (by repeat (first | (with_reducible first | exact HB.out | apply below_alloc | apply pw_below_drewN | apply below_drew1 | refine below_set ?_ (IsS99.ge HI669.out) | refine below_set ?_ GE674.out) | exact HB.out)) hb);clear HO_4;clear HI669;clear BK674;clear HB;have HO_4:=n0_;have HO688:=n1_;have HI669:=n2_;have BK674:=n3_;have HB:=n4_;clear n0_ n1_ n2_ n3_ n4_;clear hb ho50))
        go_ret2
        exact ⟨_,by first | rfl | (simp [errW_none,errW_some] <;> rfl) | (simp [*,errW_none,errW_some] <;> rfl),by (with_reducible repeat (first | apply Kd.R_alloc | apply Kd.R_drewN | apply Kd.R_drew));exact Kd.R_mono HO688.out (fun _ hk=>trivial),by repeat (first | (with_reducible first | exact HB.out | apply below_alloc | apply pw_below_drewN | apply below_drew1 | refine below_set ?_ (IsS99.ge HI669.out) | refine below_set ?_ GE674.out) | exact HB.out)⟩
       rw [if_neg c11] at H;exact absurd H (by simp)
      rw [if_neg c10] at H;exact absurd H (by simp)
     replace c9:=Bool.eq_false_iff.mpr c9;subst c9;have H1 : (some (x4_1,true)) = some (r1,r2):=by rw [if_neg (show ¬ (false = true) by decide)] at H;exact H
     clear H;have H:=H1;clear H1;simp only [Option.some.injEq,Prod.mk.injEq] at H;obtain ⟨rfl,rfl⟩:=H
     go_wp2
     go_ret2
     exact ⟨_,by first | rfl | (simp [errW_none,errW_some] <;> rfl) | (simp [*,errW_none,errW_some] <;> rfl),rs HO_4,by repeat (first | (with_reducible first | exact HB.out | apply below_alloc | apply pw_below_drewN | apply below_drew1 | refine below_set ?_ (IsS99.ge HI669.out)) | exact HB.out)⟩
mutual
def spec_l10Tx.l0 : Nat → List (S36) → Int → Int → ByteArray → Int → Int → Int → Option (Int × Int × (List (S45)) × Bool)
 | 0,_,_,_,_,_,_,_=>none
 | k + 1,x0,x1,x7,x8,x9,x691000,x691001=>if x9 = 0 then (spec_l10Tx.j1 k x0 x1 x7 x8 x9 true x691000 x691001) else (spec_l10Tx.j1 k x0 x1 x7 x8 x9 (decide (x9 < x7)) x691000 x691001)
def spec_l10Tx.j1 : Nat → List (S36) → Int → Int → ByteArray → Int → Bool → Int → Int → Option (Int × Int × (List (S45)) × Bool)
 | 0,_,_,_,_,_,_,_,_=>none
 | k + 1,x0,x1,x7,x8,x9,x23,x691000,x691001=>if x23 = true then (spec_l10Tx.l1 k x0 x1 x7 x8 x9 false 0 x691000 x691001) else ((spec_ReadRecs.f k x8).bind fun bt691=>(some (x691000,x691001,bt691.1,bt691.2)))
def spec_l10Tx.l1 : Nat → List (S36) → Int → Int → ByteArray → Int → Bool → Int → Int → Int → Option (Int × Int × (List (S45)) × Bool)
 | 0,_,_,_,_,_,_,_,_,_=>none
 | k + 1,x0,x1,x7,x8,x9,x10,x11,x691000,x691001=>if x11 < (x0.length : Int) then (spec_l10Tx.j3 k x0 x1 x7 x8 x9 x10 x11 (!x10) x691000 x691001) else (spec_l10Tx.j3 k x0 x1 x7 x8 x9 x10 x11 false x691000 x691001)
def spec_l10Tx.j3 : Nat → List (S36) → Int → Int → ByteArray → Int → Bool → Int → Bool → Int → Int → Option (Int × Int × (List (S45)) × Bool)
 | 0,_,_,_,_,_,_,_,_,_,_=>none
 | k + 1,x0,x1,x7,x8,x9,x10,x11,x33,x691000,x691001=>if x33 = true then (if 0 ≤ x11 then (if x11 < (x0.length : Int) then (if ((rd_T36 x0 x11).f2.f0) = 2 then (if ((rd_T36 x0 x11).f2.f2) = x1 then (if ((rd_T36 x0 x11).f2.f3) = x9 then (if x9 > 0 then (spec_l10Tx.j4 k x0 x1 x7 x8 x9 x10 x11 (((rd_T36 x0 x11).f2.f4) != x7) x691000 x691001 ((rd_T36 x0 x11).f2.f0) ((rd_T36 x0 x11).f2.f1) ((rd_T36 x0 x11).f2.f2) ((rd_T36 x0 x11).f2.f3) ((rd_T36 x0 x11).f2.f4) ((rd_T36 x0 x11).f2.f5)) else (spec_l10Tx.j4 k x0 x1 x7 x8 x9 x10 x11 false x691000 x691001 ((rd_T36 x0 x11).f2.f0) ((rd_T36 x0 x11).f2.f1) ((rd_T36 x0 x11).f2.f2) ((rd_T36 x0 x11).f2.f3) ((rd_T36 x0 x11).f2.f4) ((rd_T36 x0 x11).f2.f5))) else (spec_l10Tx.j4 k x0 x1 x7 x8 x9 x10 x11 true x691000 x691001 ((rd_T36 x0 x11).f2.f0) ((rd_T36 x0 x11).f2.f1) ((rd_T36 x0 x11).f2.f2) ((rd_T36 x0 x11).f2.f3) ((rd_T36 x0 x11).f2.f4) ((rd_T36 x0 x11).f2.f5))) else (spec_l10Tx.j4 k x0 x1 x7 x8 x9 x10 x11 true x691000 x691001 ((rd_T36 x0 x11).f2.f0) ((rd_T36 x0 x11).f2.f1) ((rd_T36 x0 x11).f2.f2) ((rd_T36 x0 x11).f2.f3) ((rd_T36 x0 x11).f2.f4) ((rd_T36 x0 x11).f2.f5))) else (spec_l10Tx.j4 k x0 x1 x7 x8 x9 x10 x11 true x691000 x691001 ((rd_T36 x0 x11).f2.f0) ((rd_T36 x0 x11).f2.f1) ((rd_T36 x0 x11).f2.f2) ((rd_T36 x0 x11).f2.f3) ((rd_T36 x0 x11).f2.f4) ((rd_T36 x0 x11).f2.f5))) else (none)) else (none)) else (if x10 = true then (spec_l10Tx.l0 k x0 x1 x7 x8 (wrap64 (x9 + 1)) x691000 x691001) else (some (x691000,x691001,([] : List (S45)),false)))
def spec_l10Tx.j4 : Nat → List (S36) → Int → Int → ByteArray → Int → Bool → Int → Bool → Int → Int → Int → Int → Int → Int → Int → ByteArray → Option (Int × Int × (List (S45)) × Bool)
 | 0,_,_,_,_,_,_,_,_,_,_,_,_,_,_,_,_=>none
 | k + 1,x0,x1,x7,x8,x9,x10,x11,x65,x691000,x691001,x697000,x697001,x697002,x697003,x697004,x697005=>if x65 = true then (spec_l10Tx.l1 k x0 x1 x7 x8 x9 x10 (wrap64 (x11 + 1)) x691000 x691001) else (if x8.size + x697005.size ≤ 9223372036854775807 then (if x9 = 0 then (spec_l10Tx.l1 k x0 x1 x697004 (x8 ++ x697005) x9 true (wrap64 (x11 + 1)) x691000 x697001) else (if x697001 < x691001 then (spec_l10Tx.l1 k x0 x1 x697004 (x8 ++ x697005) x9 true (wrap64 (x11 + 1)) x691000 x697001) else (spec_l10Tx.l1 k x0 x1 x697004 (x8 ++ x697005) x9 true (wrap64 (x11 + 1)) x691000 x691001))) else (none))
end
def spec_l10Tx.f (k : Nat) (l0 : List (S36)) (a1 : Int) : Option (Int × Int × (List (S45)) × Bool):=spec_l10Tx.l0 k l0 a1 0 (⟨#[]⟩ : ByteArray) 0 a1 0
theorem spec_l10Tx.mono_l : ∀ k,(∀ y0 y1 y2 y3 y4 y5 y6,LeO (spec_l10Tx.l0 k y0 y1 y2 y3 y4 y5 y6) (spec_l10Tx.l0 (k + 1) y0 y1 y2 y3 y4 y5 y6)) ∧ (∀ y0 y1 y2 y3 y4 y5 y6 y7,LeO (spec_l10Tx.j1 k y0 y1 y2 y3 y4 y5 y6 y7) (spec_l10Tx.j1 (k + 1) y0 y1 y2 y3 y4 y5 y6 y7)) ∧ (∀ y0 y1 y2 y3 y4 y5 y6 y7 y8,LeO (spec_l10Tx.l1 k y0 y1 y2 y3 y4 y5 y6 y7 y8) (spec_l10Tx.l1 (k + 1) y0 y1 y2 y3 y4 y5 y6 y7 y8)) ∧ (∀ y0 y1 y2 y3 y4 y5 y6 y7 y8 y9,LeO (spec_l10Tx.j3 k y0 y1 y2 y3 y4 y5 y6 y7 y8 y9) (spec_l10Tx.j3 (k + 1) y0 y1 y2 y3 y4 y5 y6 y7 y8 y9)) ∧ (∀ y0 y1 y2 y3 y4 y5 y6 y7 y8 y9 y10 y11 y12 y13 y14 y15,LeO (spec_l10Tx.j4 k y0 y1 y2 y3 y4 y5 y6 y7 y8 y9 y10 y11 y12 y13 y14 y15) (spec_l10Tx.j4 (k + 1) y0 y1 y2 y3 y4 y5 y6 y7 y8 y9 y10 y11 y12 y13 y14 y15))
 | 0=>⟨fun _ _ _ _ _ _ _ r h=>by simp [spec_l10Tx.l0] at h,fun _ _ _ _ _ _ _ _ r h=>by simp [spec_l10Tx.j1] at h,fun _ _ _ _ _ _ _ _ _ r h=>by simp [spec_l10Tx.l1] at h,fun _ _ _ _ _ _ _ _ _ _ r h=>by simp [spec_l10Tx.j3] at h,fun _ _ _ _ _ _ _ _ _ _ _ _ _ _ _ _ r h=>by simp [spec_l10Tx.j4] at h⟩
 | k + 1=>by
  obtain ⟨ih0,ih1,ih2,ih3,ih4⟩:=spec_l10Tx.mono_l k;refine ⟨?_,?_,?_,?_,?_⟩
  ·intro y0 y1 y2 y3 y4 y5 y6;unfold spec_l10Tx.l0
   repeat' first
   | (with_reducible exact ih0 _ _ _ _ _ _ _)
   | (with_reducible exact ih1 _ _ _ _ _ _ _ _)
   | (with_reducible exact ih2 _ _ _ _ _ _ _ _ _)
   | (with_reducible exact ih3 _ _ _ _ _ _ _ _ _ _)
   | (with_reducible exact ih4 _ _ _ _ _ _ _ _ _ _ _ _ _ _ _ _)
   | (with_reducible exact spec_ReadRecs.mono _ _)
   | (with_reducible exact LeO.refl _)
   | (with_reducible exact LeO.none _)
   | (with_reducible refine LeO.ite ?_ ?_)
   | (with_reducible refine LeO.bind ?_ (fun _=>?_))
   | exact ih0 _ _ _ _ _ _ _
   | exact ih1 _ _ _ _ _ _ _ _
   | exact ih2 _ _ _ _ _ _ _ _ _
   | exact ih3 _ _ _ _ _ _ _ _ _ _
   | exact ih4 _ _ _ _ _ _ _ _ _ _ _ _ _ _ _ _
   | exact spec_ReadRecs.mono _ _
   | exact LeO.none _
   | refine LeO.ite ?_ ?_
   | refine LeO.bind ?_ (fun _=>?_)
  ·intro y0 y1 y2 y3 y4 y5 y6 y7;unfold spec_l10Tx.j1
   repeat' first
   | (with_reducible exact ih0 _ _ _ _ _ _ _)
   | (with_reducible exact ih1 _ _ _ _ _ _ _ _)
   | (with_reducible exact ih2 _ _ _ _ _ _ _ _ _)
   | (with_reducible exact ih3 _ _ _ _ _ _ _ _ _ _)
   | (with_reducible exact ih4 _ _ _ _ _ _ _ _ _ _ _ _ _ _ _ _)
   | (with_reducible exact spec_ReadRecs.mono _ _)
   | (with_reducible exact LeO.refl _)
   | (with_reducible exact LeO.none _)
   | (with_reducible refine LeO.ite ?_ ?_)
   | (with_reducible refine LeO.bind ?_ (fun _=>?_))
   | exact ih0 _ _ _ _ _ _ _
   | exact ih1 _ _ _ _ _ _ _ _
   | exact ih2 _ _ _ _ _ _ _ _ _
   | exact ih3 _ _ _ _ _ _ _ _ _ _
   | exact ih4 _ _ _ _ _ _ _ _ _ _ _ _ _ _ _ _
   | exact spec_ReadRecs.mono _ _
   | exact LeO.none _
   | refine LeO.ite ?_ ?_
   | refine LeO.bind ?_ (fun _=>?_)
  ·intro y0 y1 y2 y3 y4 y5 y6 y7 y8;unfold spec_l10Tx.l1
   repeat' first
   | (with_reducible exact ih0 _ _ _ _ _ _ _)
   | (with_reducible exact ih1 _ _ _ _ _ _ _ _)
   | (with_reducible exact ih2 _ _ _ _ _ _ _ _ _)
   | (with_reducible exact ih3 _ _ _ _ _ _ _ _ _ _)
   | (with_reducible exact ih4 _ _ _ _ _ _ _ _ _ _ _ _ _ _ _ _)
   | (with_reducible exact spec_ReadRecs.mono _ _)
   | (with_reducible exact LeO.refl _)
   | (with_reducible exact LeO.none _)
   | (with_reducible refine LeO.ite ?_ ?_)
   | (with_reducible refine LeO.bind ?_ (fun _=>?_))
   | exact ih0 _ _ _ _ _ _ _
   | exact ih1 _ _ _ _ _ _ _ _
   | exact ih2 _ _ _ _ _ _ _ _ _
   | exact ih3 _ _ _ _ _ _ _ _ _ _
   | exact ih4 _ _ _ _ _ _ _ _ _ _ _ _ _ _ _ _
   | exact spec_ReadRecs.mono _ _
   | exact LeO.none _
   | refine LeO.ite ?_ ?_
   | refine LeO.bind ?_ (fun _=>?_)
  ·intro y0 y1 y2 y3 y4 y5 y6 y7 y8 y9;unfold spec_l10Tx.j3
   repeat' first
   | (with_reducible exact ih0 _ _ _ _ _ _ _)
   | (with_reducible exact ih1 _ _ _ _ _ _ _ _)
   | (with_reducible exact ih2 _ _ _ _ _ _ _ _ _)
   | (with_reducible exact ih3 _ _ _ _ _ _ _ _ _ _)
   | (with_reducible exact ih4 _ _ _ _ _ _ _ _ _ _ _ _ _ _ _ _)
   | (with_reducible exact spec_ReadRecs.mono _ _)
   | (with_reducible exact LeO.refl _)
   | (with_reducible exact LeO.none _)
   | (with_reducible refine LeO.ite ?_ ?_)
   | (with_reducible refine LeO.bind ?_ (fun _=>?_))
   | exact ih0 _ _ _ _ _ _ _
   | exact ih1 _ _ _ _ _ _ _ _
   | exact ih2 _ _ _ _ _ _ _ _ _
   | exact ih3 _ _ _ _ _ _ _ _ _ _
   | exact ih4 _ _ _ _ _ _ _ _ _ _ _ _ _ _ _ _
   | exact spec_ReadRecs.mono _ _
   | exact LeO.none _
   | refine LeO.ite ?_ ?_
   | refine LeO.bind ?_ (fun _=>?_)
  intro y0 y1 y2 y3 y4 y5 y6 y7 y8 y9 y10 y11 y12 y13 y14 y15;unfold spec_l10Tx.j4
  repeat' first
  | (with_reducible exact ih0 _ _ _ _ _ _ _)
  | (with_reducible exact ih1 _ _ _ _ _ _ _ _)
  | (with_reducible exact ih2 _ _ _ _ _ _ _ _ _)
  | (with_reducible exact ih3 _ _ _ _ _ _ _ _ _ _)
  | (with_reducible exact ih4 _ _ _ _ _ _ _ _ _ _ _ _ _ _ _ _)
  | (with_reducible exact spec_ReadRecs.mono _ _)
  | (with_reducible exact LeO.refl _)
  | (with_reducible exact LeO.none _)
  | (with_reducible refine LeO.ite ?_ ?_)
  | (with_reducible refine LeO.bind ?_ (fun _=>?_))
  | exact ih0 _ _ _ _ _ _ _
  | exact ih1 _ _ _ _ _ _ _ _
  | exact ih2 _ _ _ _ _ _ _ _ _
  | exact ih3 _ _ _ _ _ _ _ _ _ _
  | exact ih4 _ _ _ _ _ _ _ _ _ _ _ _ _ _ _ _
  | exact spec_ReadRecs.mono _ _
  | exact LeO.none _
  | refine LeO.ite ?_ ?_
  | refine LeO.bind ?_ (fun _=>?_)
theorem spec_l10Tx.mono : ∀ a0 a1 k,LeO (spec_l10Tx.f k a0 a1) (spec_l10Tx.f (k + 1) a0 a1):=by
 intro a0 a1 k;obtain ⟨ih0,ih1,ih2,ih3,ih4⟩:=spec_l10Tx.mono_l k;unfold spec_l10Tx.f
 repeat' first
   | (with_reducible exact ih0 _ _ _ _ _ _ _)
   | (with_reducible exact ih1 _ _ _ _ _ _ _ _)
   | (with_reducible exact ih2 _ _ _ _ _ _ _ _ _)
   | (with_reducible exact ih3 _ _ _ _ _ _ _ _ _ _)
   | (with_reducible exact ih4 _ _ _ _ _ _ _ _ _ _ _ _ _ _ _ _)
   | (with_reducible exact spec_ReadRecs.mono _ _)
   | (with_reducible exact LeO.refl _)
   | (with_reducible exact LeO.none _)
   | (with_reducible refine LeO.ite ?_ ?_)
   | (with_reducible refine LeO.bind ?_ (fun _=>?_))
   | exact ih0 _ _ _ _ _ _ _
   | exact ih1 _ _ _ _ _ _ _ _
   | exact ih2 _ _ _ _ _ _ _ _ _
   | exact ih3 _ _ _ _ _ _ _ _ _ _
   | exact ih4 _ _ _ _ _ _ _ _ _ _ _ _ _ _ _ _
   | exact spec_ReadRecs.mono _ _
   | exact LeO.none _
   | refine LeO.ite ?_ ?_
   | refine LeO.bind ?_ (fun _=>?_)
set_option maxHeartbeats 8000000 in
set_option maxRecDepth 100000 in
theorem spec_l10Tx.calls (k : Nat) (A0 : Option Addr) (c0 : Nat) (l0 : List (S36)) (a1 : Int) (r1 : Int) (r2 : Int) (r3 : List (S45)) (r4 : Bool) (w : World) (hr0 : Kd.C k36 w A0 l0.length l0) (hc0 : l0.length ≤ c0) (h : spec_l10Tx.f k l0 a1 = some (r1,r2,r3,r4)) :
  Calls Try.prog 40 #[.slice A0 l0.length c0,.int .i64 a1] w fun e w'=>∃ v2_ : Value,e = .returned (.tuple #[.agg #[.int .i64 r1,.int .i64 r2,v2_],.bool r4]) ∧ Kd.R k45 45 w' w.heap.size (fun _=>True) v2_ r3 ∧ Below w.heap.size w w':=by
 have hu40:=Try.underlying40;have hu33:=Try.underlying33;have HR0:=zMk hr0;have HC0:=zMk hc0;clear hr0 hc0;have HB:=zMk (Below.refl w.heap.size w);have H : (spec_l10Tx.l0 k l0 a1 0 (⟨#[]⟩ : ByteArray) 0 a1 0) = some (r1,r2,r3,r4):=h;clear h;have H':=zMk H;clear H
 go_enter Try.func40,Try.ntmps40
 go_wp2_with (first | ((with_reducible refine gate_dst (N:=4) rfl ?_);refine box_event ?hg (N:=4) ?hd (cs:=#[.int .i64 0,.int .i64 0,.slice none 0 0]) (t:=40) ?hr ?_;(case hd=>rfl);(case hg=>rfl);(case hr=>first | (go_simp;done) | (go_simp;rfl));intro gb689 hg w3 hbox hb;have n0_:=zMk (below_step (hs HB) hb);have n1_:=zMk (hbox);have n2_:=zMk ((by rw [hg];exact (below_size (hs HB)) : w.heap.size ≤ gb689));have n3_:=zMk ((by rw [hg];exact (below_size (hs HB)) : w.heap.size ≤ gb689));clear HB;have HB:=n0_;have BK689:=n1_;have GW689:=n2_;have GE689:=n3_;clear n0_ n1_ n2_ n3_;clear hb hbox hg) | ((with_reducible refine gate_dst (N:=6) rfl ?_);refine box_event ?hg (N:=6) ?hd (cs:=#[.int .i64 0,.int .i64 0,.slice none 0 0]) (t:=40) ?hr ?_;(case hd=>rfl);(case hg=>rfl);(case hr=>first | (go_simp;done) | (go_simp;rfl));intro gb690 hg w4 hbox hb;have n0_:=zMk (blk_below (g:=gb689) (o:=.cells #[.int .i64 0,.int .i64 0,.slice none 0 0] 40 (0,0)) (bs BK689) hb);have n1_:=zMk (below_step (hs1 HB GE689) hb);have n2_:=zMk (hbox);have n3_:=zMk ((by rw [hg];exact (below_size (hs1 HB GE689)) : w.heap.size ≤ gb690));have n4_:=zMk ((by rw [hg];exact (below_size (hs1 HB GE689)) : w.heap.size ≤ gb690));have n5_:=zMk ((by rw [hg];exact Nat.ne_of_lt (blk_lt (g:=gb689) (o:=.cells #[.int .i64 0,.int .i64 0,.slice none 0 0] 40 (0,0)) (bs BK689)) : gb689 ≠ gb690));have n6_:=zMk ((by rw [hg];exact Nat.ne_of_gt (blk_lt (g:=gb689) (o:=.cells #[.int .i64 0,.int .i64 0,.slice none 0 0] 40 (0,0)) (bs BK689)) : gb690 ≠ gb689));clear BK689;clear HB;have BK689:=n0_;have HB:=n1_;have BK690:=n2_;have GW690:=n3_;have GE690:=n4_;have NB689_690:=n5_;have NB690_689:=n6_;clear n0_ n1_ n2_ n3_ n4_ n5_ n6_;clear hb hbox hg;have hnb5:=NB690_689.out;have hnc5:=NB689_690.out;have hcz6_0 : w4.cell? ⟨gb690,0,none⟩ = some (.int .i64 0):=(zCl BK690.out 0).trans rfl;have hcz6_1 : w4.cell? ⟨gb690,1,none⟩ = some (.int .i64 0):=(zCl BK690.out 1).trans rfl;have hcz6_2 : w4.cell? ⟨gb690,2,none⟩ = some (.slice none 0 0):=(zCl BK690.out 2).trans rfl;have hfz6_0:=zFr BK690.out 0;have hfz6_1:=zFr BK690.out 1;have hfz6_2:=zFr BK690.out 2));go_loopg [7,8,9] k (fun kq v7 v8 v9 w'=>∃ (x7_1 : Int) (x8_1 : ByteArray) (x9_1 : Int) (x690000_1 : Int) (x690001_1 : Int) (x691001_1 : Int),v7 = .int .i64 x7_1 ∧ v8 = .string x8_1 ∧ v9 = .int .i64 x9_1 ∧ Aside0 (spec_l10Tx.l0 kq l0 a1 x7_1 x8_1 x9_1 a1 x691001_1 = some (r1,r2,r3,r4)) ∧ Aside0 (kq ≤ k) ∧ Aside0 (w'.heap[gb689]? = some (.cells #[.int .i64 x690000_1,.int .i64 x690001_1,(.slice none 0 0)] 40 (0,0))) ∧ Aside0 (w'.heap[gb690]? = some (.cells #[.int .i64 a1,.int .i64 x691001_1,(.slice none 0 0)] 40 (0,0))) ∧ Aside0 (Below w.heap.size w w'));case atStart=>exact ⟨(0),((⟨#[]⟩ : ByteArray)),(0),(0),(0),(0),(by first | rfl | (simp;done) | (simp [*];done)),(by first | rfl | (simp;done) | (simp [*];done)),(by first | rfl | (simp;done) | (simp [*];done)),H',⟨Nat.le_refl _⟩,⟨by (with_reducible repeat (first | refine blk_drewN ?_ _ | refine blk_drew ?_ | refine blk_alloc ?_ _));refine blk_far ?_ NB689_690.out _;(with_reducible repeat (first | refine blk_drewN ?_ _ | refine blk_drew ?_ | refine blk_alloc ?_ _));refine blk_far ?_ NB689_690.out _;(with_reducible repeat (first | refine blk_drewN ?_ _ | refine blk_drew ?_ | refine blk_alloc ?_ _));refine blk_far ?_ NB689_690.out _;(with_reducible repeat (first | refine blk_drewN ?_ _ | refine blk_drew ?_ | refine blk_alloc ?_ _));exact BK689.out⟩,⟨by (with_reducible repeat (first | refine blk_drewN ?_ _ | refine blk_drew ?_ | refine blk_alloc ?_ _));refine blk_put (cs:=#[.int .i64 a1,.int .i64 0,.slice none 0 0]) ?_ 2 _ rfl;(with_reducible repeat (first | refine blk_drewN ?_ _ | refine blk_drew ?_ | refine blk_alloc ?_ _));refine blk_put (cs:=#[.int .i64 a1,.int .i64 0,.slice none 0 0]) ?_ 1 _ rfl;(with_reducible repeat (first | refine blk_drewN ?_ _ | refine blk_drew ?_ | refine blk_alloc ?_ _));refine blk_put (cs:=#[.int .i64 0,.int .i64 0,.slice none 0 0]) ?_ 0 _ rfl;(with_reducible repeat (first | refine blk_drewN ?_ _ | refine blk_drew ?_ | refine blk_alloc ?_ _));exact BK690.out⟩,⟨hs2 HB GE689 GE690⟩⟩
 case round =>
  clear H'
  try clear p2
  try clear c4
  try clear c5
  try clear hcz6_0
  try clear hcz6_1
  try clear hcz6_2
  try clear hfz6_0
  try clear hfz6_1
  try clear hfz6_2
  obtain ⟨x7_1,x8_1,x9_1,x690000_1,x690001_1,x691001_1,rfl,rfl,rfl,HA,HK1,BK689,BK690,HB⟩:=hrel;cases gk with
  | zero=>exact absurd HA.out (by simp [spec_l10Tx.l0])
  | succ k1 =>
   have H:=HA.out;clear HA;simp only [spec_l10Tx.l0] at H;have HC7:=zMk H;clear H;go_upto_region 5 with (fail);go_cut [23] (fun v23 wc=>∃ (kq : Nat) (x23_6 : Bool),v23 = .bool x23_6 ∧ Aside0 (spec_l10Tx.j1 kq l0 a1 x7_1 x8_1 x9_1 x23_6 a1 x691001_1 = some (r1,r2,r3,r4)) ∧ Aside0 (kq ≤ k1) ∧ Aside0 (wc.heap[gb689]? = some (.cells #[.int .i64 x690000_1,.int .i64 x690001_1,(.slice none 0 0)] 40 (0,0))) ∧ Aside0 (wc.heap[gb690]? = some (.cells #[.int .i64 a1,.int .i64 x691001_1,(.slice none 0 0)] 40 (0,0))) ∧ Aside0 (Below w.heap.size w wc))
   case first =>
    have H:=HC7.out;clear HC7
    by_cases c8 : x9_1 = 0
    ·rw [if_pos c8] at H;have c8b0 : (x9_1 == 0) = true:=beq_iff_eq.mpr c8;have c8b1 : (x9_1 != 0) = false:=bne_eq_false_iff_eq.mpr c8;clear c8
     (first | rw [c8b0] | (simp only [i64_w,i32_w];rw [c8b0]) | skip)
     have H':=zMk H;clear H
     go_wp2
     go_meet
     case rel=>exact ⟨_,(true),(by first | rfl | (simp;done) | (simp [*];done)),H',⟨by have:=HK1.out;first | omega | exact Nat.le_refl _⟩,⟨bs BK689⟩,⟨bs BK690⟩,⟨hs2 HB GE689 GE690⟩⟩
    rw [if_neg c8] at H;have c8b0 : (x9_1 == 0) = false:=beq_eq_false_iff_ne.mpr c8;have c8b1 : (x9_1 != 0) = true:=bne_iff_ne.mpr c8
    (first | rw [c8b0] | (simp only [i64_w,i32_w];rw [c8b0]) | skip)
    have H':=zMk H;clear H
    go_wp2
    go_meet
    case rel=>exact ⟨_,(decide (x9_1 < x7_1)),(by first | rfl | (simp;done) | (simp [*];done)),H',⟨by have:=HK1.out;first | omega | exact Nat.le_refl _⟩,⟨bs BK689⟩,⟨bs BK690⟩,⟨hs2 HB GE689 GE690⟩⟩
   case rest =>
    clear HC7
    try clear p2
    try clear c4
    try clear c5
    try clear c8
    try clear c8b0
    try clear c8b1
    try clear hcz6_0
    try clear hcz6_1
    try clear hcz6_2
    try clear hfz6_0
    try clear hfz6_1
    try clear hfz6_2
    try clear p2
    obtain ⟨kq,x23_6,rfl,HA,HJ6,BK689,BK690,HB⟩:=hcut;cases kq with
    | zero=>exact absurd HA.out (by simp [spec_l10Tx.j1])
    | succ kj6 =>
     have H:=HA.out;clear HA;simp only [spec_l10Tx.j1] at H
     by_cases c9 : x23_6 = true
     ·subst c9;have H1 : (spec_l10Tx.l1 kj6 l0 a1 x7_1 x8_1 x9_1 false 0 a1 x691001_1) = some (r1,r2,r3,r4):=by rw [if_pos rfl] at H;exact H
      clear H;have H:=H1;clear H1;have H':=zMk H;clear H
      go_wp2
      go_loopg [7,8,10,11] kj6 (fun kq v7 v8 v10 v11 w'=>∃ (x7_3 : Int) (x8_3 : ByteArray) (x10_3 : Bool) (x11_3 : Int) (x691001_3 : Int),v7 = .int .i64 x7_3 ∧ v8 = .string x8_3 ∧ v10 = .bool x10_3 ∧ v11 = .int .i64 x11_3 ∧ Aside0 (spec_l10Tx.l1 kq l0 a1 x7_3 x8_3 x9_1 x10_3 x11_3 a1 x691001_3 = some (r1,r2,r3,r4)) ∧ Aside0 (kq ≤ kj6) ∧ Aside0 (w'.heap[gb689]? = some (.cells #[.int .i64 x690000_1,.int .i64 x690001_1,(.slice none 0 0)] 40 (0,0))) ∧ Aside0 (w'.heap[gb690]? = some (.cells #[.int .i64 a1,.int .i64 x691001_3,(.slice none 0 0)] 40 (0,0))) ∧ Aside0 (Below w.heap.size w w'));case atStart=>exact ⟨(x7_1),(x8_1),(false),(0),(x691001_1),(by first | rfl | (simp;done) | (simp [*];done)),(by first | rfl | (simp;done) | (simp [*];done)),(by first | rfl | (simp;done) | (simp [*];done)),(by first | rfl | (simp;done) | (simp [*];done)),H',⟨Nat.le_refl _⟩,⟨bs BK689⟩,⟨bs BK690⟩,⟨hs2 HB GE689 GE690⟩⟩
      case round =>
       clear H'
       try clear p2
       try clear c4
       try clear c5
       try clear c8
       try clear c8b0
       try clear c8b1
       try clear c9
       try clear hcz6_0
       try clear hcz6_1
       try clear hcz6_2
       try clear hfz6_0
       try clear hfz6_1
       try clear hfz6_2
       try clear p2
       obtain ⟨x7_3,x8_3,x10_3,x11_3,x691001_3,rfl,rfl,rfl,rfl,HA,HK3,BK689,BK690,HB⟩:=hrel;cases gk with
       | zero=>exact absurd HA.out (by simp [spec_l10Tx.l1])
       | succ k3 =>
        have H:=HA.out;clear HA;simp only [spec_l10Tx.l1] at H;have HC10:=zMk H;clear H;go_upto_region 9 with (fail);go_cut [33] (fun v33 wc=>∃ (kq : Nat) (x33_9 : Bool),v33 = .bool x33_9 ∧ Aside0 (spec_l10Tx.j3 kq l0 a1 x7_3 x8_3 x9_1 x10_3 x11_3 x33_9 a1 x691001_3 = some (r1,r2,r3,r4)) ∧ Aside0 (kq ≤ k3) ∧ Aside0 (wc.heap[gb689]? = some (.cells #[.int .i64 x690000_1,.int .i64 x690001_1,(.slice none 0 0)] 40 (0,0))) ∧ Aside0 (wc.heap[gb690]? = some (.cells #[.int .i64 a1,.int .i64 x691001_3,(.slice none 0 0)] 40 (0,0))) ∧ Aside0 (Below w.heap.size w wc))
        case first =>
         have H:=HC10.out;clear HC10
         by_cases c11 : x11_3 < (l0.length : Int)
         ·rw [if_pos c11] at H;have c11b0 : decide (x11_3 < (l0.length : Int)) = true:=decide_eq_true c11;clear c11
          (first | rw [c11b0] | (simp only [i64_w,i32_w];rw [c11b0]) | skip)
          have H':=zMk H;clear H
          go_wp2
          go_meet
          case rel=>exact ⟨_,(!x10_3),(by first | rfl | (simp;done) | (simp [*];done)),H',⟨by have:=HK1.out;have:=HJ6.out;have:=HK3.out;first | omega | exact Nat.le_refl _⟩,⟨bs BK689⟩,⟨bs BK690⟩,⟨hs2 HB GE689 GE690⟩⟩
         rw [if_neg c11] at H;have c11b0 : decide (x11_3 < (l0.length : Int)) = false:=decide_eq_false c11;clear c11
         (first | rw [c11b0] | (simp only [i64_w,i32_w];rw [c11b0]) | skip)
         have H':=zMk H;clear H
         go_wp2
         go_meet
         case rel=>exact ⟨_,(false),(by first | rfl | (simp;done) | (simp [*];done)),H',⟨by have:=HK1.out;have:=HJ6.out;have:=HK3.out;first | omega | exact Nat.le_refl _⟩,⟨bs BK689⟩,⟨bs BK690⟩,⟨hs2 HB GE689 GE690⟩⟩
        case rest =>
         clear HC10
         try clear c1
         try clear p2
         try clear c4
         try clear c5
         try clear c8
         try clear c8b0
         try clear c8b1
         try clear c9
         try clear c11
         try clear c11b0
         try clear hcz6_0
         try clear hcz6_1
         try clear hcz6_2
         try clear hfz6_0
         try clear hfz6_1
         try clear hfz6_2
         try clear p2
         obtain ⟨kq,x33_9,rfl,HA,HJ9,BK689,BK690,HB⟩:=hcut;cases kq with
         | zero=>exact absurd HA.out (by simp [spec_l10Tx.j3])
         | succ kj9 =>
          have H:=HA.out;clear HA;simp only [spec_l10Tx.j3] at H
          by_cases c12 : x33_9 = true
          ·subst c12;have H1 : (if 0 ≤ x11_3 then (if x11_3 < (l0.length : Int) then (if ((rd_T36 l0 x11_3).f2.f0) = 2 then (if ((rd_T36 l0 x11_3).f2.f2) = a1 then (if ((rd_T36 l0 x11_3).f2.f3) = x9_1 then (if x9_1 > 0 then (spec_l10Tx.j4 kj9 l0 a1 x7_3 x8_3 x9_1 x10_3 x11_3 (((rd_T36 l0 x11_3).f2.f4) != x7_3) a1 x691001_3 ((rd_T36 l0 x11_3).f2.f0) ((rd_T36 l0 x11_3).f2.f1) ((rd_T36 l0 x11_3).f2.f2) ((rd_T36 l0 x11_3).f2.f3) ((rd_T36 l0 x11_3).f2.f4) ((rd_T36 l0 x11_3).f2.f5)) else (spec_l10Tx.j4 kj9 l0 a1 x7_3 x8_3 x9_1 x10_3 x11_3 false a1 x691001_3 ((rd_T36 l0 x11_3).f2.f0) ((rd_T36 l0 x11_3).f2.f1) ((rd_T36 l0 x11_3).f2.f2) ((rd_T36 l0 x11_3).f2.f3) ((rd_T36 l0 x11_3).f2.f4) ((rd_T36 l0 x11_3).f2.f5))) else (spec_l10Tx.j4 kj9 l0 a1 x7_3 x8_3 x9_1 x10_3 x11_3 true a1 x691001_3 ((rd_T36 l0 x11_3).f2.f0) ((rd_T36 l0 x11_3).f2.f1) ((rd_T36 l0 x11_3).f2.f2) ((rd_T36 l0 x11_3).f2.f3) ((rd_T36 l0 x11_3).f2.f4) ((rd_T36 l0 x11_3).f2.f5))) else (spec_l10Tx.j4 kj9 l0 a1 x7_3 x8_3 x9_1 x10_3 x11_3 true a1 x691001_3 ((rd_T36 l0 x11_3).f2.f0) ((rd_T36 l0 x11_3).f2.f1) ((rd_T36 l0 x11_3).f2.f2) ((rd_T36 l0 x11_3).f2.f3) ((rd_T36 l0 x11_3).f2.f4) ((rd_T36 l0 x11_3).f2.f5))) else (spec_l10Tx.j4 kj9 l0 a1 x7_3 x8_3 x9_1 x10_3 x11_3 true a1 x691001_3 ((rd_T36 l0 x11_3).f2.f0) ((rd_T36 l0 x11_3).f2.f1) ((rd_T36 l0 x11_3).f2.f2) ((rd_T36 l0 x11_3).f2.f3) ((rd_T36 l0 x11_3).f2.f4) ((rd_T36 l0 x11_3).f2.f5))) else (none)) else (none)) = some (r1,r2,r3,r4):=by rw [if_pos rfl] at H;exact H
           clear H;have H:=H1;clear H1
           by_cases c13 : 0 ≤ x11_3
           ·rw [if_pos c13] at H;have c13b0 : decide (0 ≤ x11_3) = true:=decide_eq_true c13;clear c13
            by_cases c14 : x11_3 < (l0.length : Int)
            ·rw [if_pos c14] at H;have c14b0 : decide (x11_3 < (l0.length : Int)) = true:=decide_eq_true c14;clear c14;have HC15:=zMk H;clear H;have p695 : 0 ≤ (x11_3 : Int):=zDe (by first | (with_reducible assumption) | assumption);have q695 : x11_3 < (l0.length : Int):=zDe (by first | (with_reducible assumption) | assumption);obtain ⟨ad695,e695,hx695_0,hx695_1,hx695_2,hx695_3,hx695_4,hx695_5,hx695_6,hx695_7⟩:=at_T36 HR0.out x11_3 p695 q695;cases e695;replace hx695_0:=(HB.out.cell (zBl w _ hx695_0)).trans hx695_0;replace hx695_1:=(HB.out.cell (zBl w _ hx695_1)).trans hx695_1;replace hx695_2:=(HB.out.cell (zBl w _ hx695_2)).trans hx695_2;replace hx695_3:=(HB.out.cell (zBl w _ hx695_3)).trans hx695_3;replace hx695_4:=(HB.out.cell (zBl w _ hx695_4)).trans hx695_4;replace hx695_5:=(HB.out.cell (zBl w _ hx695_5)).trans hx695_5;replace hx695_6:=(HB.out.cell (zBl w _ hx695_6)).trans hx695_6;replace hx695_7:=(HB.out.cell (zBl w _ hx695_7)).trans hx695_7;replace p695:=eq_true p695;replace q695:=eq_true q695;go_upto_region 12 with (first | ((with_reducible refine gate_dst (N:=12) rfl ?_);refine box_event ?hg (N:=12) ?hd (cs:=#[.int .i64 0,.int .i64 0,.int .i64 0,.int .i64 0,.int .i64 0,.string (⟨#[]⟩ : ByteArray)]) (t:=33) ?hr ?_;(case hd=>rfl);(case hg=>rfl);(case hr=>first | (go_simp;done) | (go_simp;rfl));intro gb696 hg w16 hbox hb;have n0_:=zMk (blk_below (g:=gb689) (o:=.cells #[.int .i64 x690000_1,.int .i64 x690001_1,.slice none 0 0] 40 (0,0)) (bs BK689) hb);have n1_:=zMk (blk_below (g:=gb690) (o:=.cells #[.int .i64 a1,.int .i64 x691001_3,.slice none 0 0] 40 (0,0)) (bs BK690) hb);have n2_:=zMk (below_step (hs2 HB GE689 GE690) hb);have n3_:=zMk (hbox);have n4_:=zMk ((by rw [hg];exact (below_size (hs2 HB GE689 GE690)) : w.heap.size ≤ gb696));have n5_:=zMk ((by rw [hg];exact (below_size (hs2 HB GE689 GE690)) : w.heap.size ≤ gb696));have n6_:=zMk ((by rw [hg];exact Nat.ne_of_lt (blk_lt (g:=gb689) (o:=.cells #[.int .i64 x690000_1,.int .i64 x690001_1,.slice none 0 0] 40 (0,0)) (bs BK689)) : gb689 ≠ gb696));have n7_:=zMk ((by rw [hg];exact Nat.ne_of_gt (blk_lt (g:=gb689) (o:=.cells #[.int .i64 x690000_1,.int .i64 x690001_1,.slice none 0 0] 40 (0,0)) (bs BK689)) : gb696 ≠ gb689));have n8_:=zMk ((by rw [hg];exact Nat.ne_of_lt (blk_lt (g:=gb690) (o:=.cells #[.int .i64 a1,.int .i64 x691001_3,.slice none 0 0] 40 (0,0)) (bs BK690)) : gb690 ≠ gb696));have n9_:=zMk ((by rw [hg];exact Nat.ne_of_gt (blk_lt (g:=gb690) (o:=.cells #[.int .i64 a1,.int .i64 x691001_3,.slice none 0 0] 40 (0,0)) (bs BK690)) : gb696 ≠ gb690));clear BK689;clear BK690;clear HB;have BK689:=n0_;have BK690:=n1_;have HB:=n2_;have BK696:=n3_;have GW696:=n4_;have GE696:=n5_;have NB689_696:=n6_;have NB696_689:=n7_;have NB690_696:=n8_;have NB696_690:=n9_;clear n0_ n1_ n2_ n3_ n4_ n5_ n6_ n7_ n8_ n9_;clear hb hbox hg;have hnb17:=NB696_689.out;have hnc17:=NB689_696.out;have hnb18:=NB696_690.out;have hnc18:=NB690_696.out;have hcz19_0 : w16.cell? ⟨gb696,0,none⟩ = some (.int .i64 0):=(zCl BK696.out 0).trans rfl;have hcz19_1 : w16.cell? ⟨gb696,1,none⟩ = some (.int .i64 0):=(zCl BK696.out 1).trans rfl;have hcz19_2 : w16.cell? ⟨gb696,2,none⟩ = some (.int .i64 0):=(zCl BK696.out 2).trans rfl;have hcz19_3 : w16.cell? ⟨gb696,3,none⟩ = some (.int .i64 0):=(zCl BK696.out 3).trans rfl;have hcz19_4 : w16.cell? ⟨gb696,4,none⟩ = some (.int .i64 0):=(zCl BK696.out 4).trans rfl;have hcz19_5 : w16.cell? ⟨gb696,5,none⟩ = some (.string (⟨#[]⟩ : ByteArray)):=(zCl BK696.out 5).trans rfl;have hfz19_0:=zFr BK696.out 0;have hfz19_1:=zFr BK696.out 1;have hfz19_2:=zFr BK696.out 2;have hfz19_3:=zFr BK696.out 3;have hfz19_4:=zFr BK696.out 4;have hfz19_5:=zFr BK696.out 5))
             (try simp only [Act.put,zS1,zS2,zS3])
             go_cut [65] (fun v65 wc=>∃ (kq : Nat) (x65_14 : Bool),v65 = .bool x65_14 ∧ Aside0 (spec_l10Tx.j4 kq l0 a1 x7_3 x8_3 x9_1 x10_3 x11_3 x65_14 a1 x691001_3 ((rd_T36 l0 x11_3).f2.f0) ((rd_T36 l0 x11_3).f2.f1) ((rd_T36 l0 x11_3).f2.f2) ((rd_T36 l0 x11_3).f2.f3) ((rd_T36 l0 x11_3).f2.f4) ((rd_T36 l0 x11_3).f2.f5) = some (r1,r2,r3,r4)) ∧ Aside0 (kq ≤ kj9) ∧ Aside0 (wc.heap[gb689]? = some (.cells #[.int .i64 x690000_1,.int .i64 x690001_1,(.slice none 0 0)] 40 (0,0))) ∧ Aside0 (wc.heap[gb690]? = some (.cells #[.int .i64 a1,.int .i64 x691001_3,(.slice none 0 0)] 40 (0,0))) ∧ Aside0 (wc.heap[gb696]? = some (.cells #[.int .i64 ((rd_T36 l0 x11_3).f2.f0),.int .i64 ((rd_T36 l0 x11_3).f2.f1),.int .i64 ((rd_T36 l0 x11_3).f2.f2),.int .i64 ((rd_T36 l0 x11_3).f2.f3),.int .i64 ((rd_T36 l0 x11_3).f2.f4),.string ((rd_T36 l0 x11_3).f2.f5)] 33 (0,0))) ∧ Aside0 (Below w.heap.size w wc))
             case first =>
              have H:=HC15.out;clear HC15
              by_cases c20 : ((rd_T36 l0 x11_3).f2.f0) = 2
              ·rw [if_pos c20] at H;have c20b0 : (((rd_T36 l0 x11_3).f2.f0) == 2) = true:=beq_iff_eq.mpr c20;have c20b1 : (((rd_T36 l0 x11_3).f2.f0) != 2) = false:=bne_eq_false_iff_eq.mpr c20;clear c20
               (first | rw [c20b0] | (simp only [i64_w,i32_w];rw [c20b0]) | skip)
               by_cases c21 : ((rd_T36 l0 x11_3).f2.f2) = a1
               ·rw [if_pos c21] at H;have c21b0 : (((rd_T36 l0 x11_3).f2.f2) == a1) = true:=beq_iff_eq.mpr c21;have c21b1 : (((rd_T36 l0 x11_3).f2.f2) != a1) = false:=bne_eq_false_iff_eq.mpr c21;clear c21
                by_cases c22 : ((rd_T36 l0 x11_3).f2.f3) = x9_1
                ·rw [if_pos c22] at H;have c22b0 : (((rd_T36 l0 x11_3).f2.f3) == x9_1) = true:=beq_iff_eq.mpr c22;have c22b1 : (((rd_T36 l0 x11_3).f2.f3) != x9_1) = false:=bne_eq_false_iff_eq.mpr c22;clear c22
                 by_cases c23 : x9_1 > 0
                 ·rw [if_pos c23] at H;have c23b0 : decide (0 < x9_1) = true:=decide_eq_true c23;clear c23;have H':=zMk H;clear H;have hnb24:=NB696_689.out;have hnc24:=NB689_696.out;have hnb25:=NB696_690.out;have hnc25:=NB690_696.out;have hcz26_0 : w16.cell? ⟨gb696,0,none⟩ = some (.int .i64 0):=(zCl BK696.out 0).trans rfl;have hcz26_1 : w16.cell? ⟨gb696,1,none⟩ = some (.int .i64 0):=(zCl BK696.out 1).trans rfl;have hcz26_2 : w16.cell? ⟨gb696,2,none⟩ = some (.int .i64 0):=(zCl BK696.out 2).trans rfl;have hcz26_3 : w16.cell? ⟨gb696,3,none⟩ = some (.int .i64 0):=(zCl BK696.out 3).trans rfl;have hcz26_4 : w16.cell? ⟨gb696,4,none⟩ = some (.int .i64 0):=(zCl BK696.out 4).trans rfl;have hcz26_5 : w16.cell? ⟨gb696,5,none⟩ = some (.string (⟨#[]⟩ : ByteArray)):=(zCl BK696.out 5).trans rfl;have hfz26_0:=zFr BK696.out 0;have hfz26_1:=zFr BK696.out 1;have hfz26_2:=zFr BK696.out 2;have hfz26_3:=zFr BK696.out 3;have hfz26_4:=zFr BK696.out 4;have hfz26_5:=zFr BK696.out 5
                  go_wp2
                  go_meet
                  case rel=>exact ⟨_,((((rd_T36 l0 x11_3).f2.f4) != x7_3)),(by first | rfl | (simp;done) | (simp [*];done)),H',⟨by have:=HK1.out;have:=HJ6.out;have:=HK3.out;have:=HJ9.out;first | omega | exact Nat.le_refl _⟩,⟨by (with_reducible repeat (first | refine blk_drewN ?_ _ | refine blk_drew ?_ | refine blk_alloc ?_ _));refine blk_far ?_ NB689_696.out _;(with_reducible repeat (first | refine blk_drewN ?_ _ | refine blk_drew ?_ | refine blk_alloc ?_ _));refine blk_far ?_ NB689_696.out _;(with_reducible repeat (first | refine blk_drewN ?_ _ | refine blk_drew ?_ | refine blk_alloc ?_ _));refine blk_far ?_ NB689_696.out _;(with_reducible repeat (first | refine blk_drewN ?_ _ | refine blk_drew ?_ | refine blk_alloc ?_ _));refine blk_far ?_ NB689_696.out _;(with_reducible repeat (first | refine blk_drewN ?_ _ | refine blk_drew ?_ | refine blk_alloc ?_ _));refine blk_far ?_ NB689_696.out _;(with_reducible repeat (first | refine blk_drewN ?_ _ | refine blk_drew ?_ | refine blk_alloc ?_ _));refine blk_far ?_ NB689_696.out _;(with_reducible repeat (first | refine blk_drewN ?_ _ | refine blk_drew ?_ | refine blk_alloc ?_ _));exact BK689.out⟩,⟨by (with_reducible repeat (first | refine blk_drewN ?_ _ | refine blk_drew ?_ | refine blk_alloc ?_ _));refine blk_far ?_ NB690_696.out _;(with_reducible repeat (first | refine blk_drewN ?_ _ | refine blk_drew ?_ | refine blk_alloc ?_ _));refine blk_far ?_ NB690_696.out _;(with_reducible repeat (first | refine blk_drewN ?_ _ | refine blk_drew ?_ | refine blk_alloc ?_ _));refine blk_far ?_ NB690_696.out _;(with_reducible repeat (first | refine blk_drewN ?_ _ | refine blk_drew ?_ | refine blk_alloc ?_ _));refine blk_far ?_ NB690_696.out _;(with_reducible repeat (first | refine blk_drewN ?_ _ | refine blk_drew ?_ | refine blk_alloc ?_ _));refine blk_far ?_ NB690_696.out _;(with_reducible repeat (first | refine blk_drewN ?_ _ | refine blk_drew ?_ | refine blk_alloc ?_ _));refine blk_far ?_ NB690_696.out _;(with_reducible repeat (first | refine blk_drewN ?_ _ | refine blk_drew ?_ | refine blk_alloc ?_ _));exact BK690.out⟩,⟨by (with_reducible repeat (first | refine blk_drewN ?_ _ | refine blk_drew ?_ | refine blk_alloc ?_ _));refine blk_put (cs:=#[.int .i64 ((rd_T36 l0 x11_3).f2.f0),.int .i64 ((rd_T36 l0 x11_3).f2.f1),.int .i64 ((rd_T36 l0 x11_3).f2.f2),.int .i64 ((rd_T36 l0 x11_3).f2.f3),.int .i64 ((rd_T36 l0 x11_3).f2.f4),.string (⟨#[]⟩ : ByteArray)]) ?_ 5 _ rfl;(with_reducible repeat (first | refine blk_drewN ?_ _ | refine blk_drew ?_ | refine blk_alloc ?_ _));refine blk_put (cs:=#[.int .i64 ((rd_T36 l0 x11_3).f2.f0),.int .i64 ((rd_T36 l0 x11_3).f2.f1),.int .i64 ((rd_T36 l0 x11_3).f2.f2),.int .i64 ((rd_T36 l0 x11_3).f2.f3),.int .i64 0,.string (⟨#[]⟩ : ByteArray)]) ?_ 4 _ rfl;(with_reducible repeat (first | refine blk_drewN ?_ _ | refine blk_drew ?_ | refine blk_alloc ?_ _));refine blk_put (cs:=#[.int .i64 ((rd_T36 l0 x11_3).f2.f0),.int .i64 ((rd_T36 l0 x11_3).f2.f1),.int .i64 ((rd_T36 l0 x11_3).f2.f2),.int .i64 0,.int .i64 0,.string (⟨#[]⟩ : ByteArray)]) ?_ 3 _ rfl;(with_reducible repeat (first | refine blk_drewN ?_ _ | refine blk_drew ?_ | refine blk_alloc ?_ _));refine blk_put (cs:=#[.int .i64 ((rd_T36 l0 x11_3).f2.f0),.int .i64 ((rd_T36 l0 x11_3).f2.f1),.int .i64 0,.int .i64 0,.int .i64 0,.string (⟨#[]⟩ : ByteArray)]) ?_ 2 _ rfl;(with_reducible repeat (first | refine blk_drewN ?_ _ | refine blk_drew ?_ | refine blk_alloc ?_ _));refine blk_put (cs:=#[.int .i64 ((rd_T36 l0 x11_3).f2.f0),.int .i64 0,.int .i64 0,.int .i64 0,.int .i64 0,.string (⟨#[]⟩ : ByteArray)]) ?_ 1 _ rfl;(with_reducible repeat (first | refine blk_drewN ?_ _ | refine blk_drew ?_ | refine blk_alloc ?_ _));refine blk_put (cs:=#[.int .i64 0,.int .i64 0,.int .i64 0,.int .i64 0,.int .i64 0,.string (⟨#[]⟩ : ByteArray)]) ?_ 0 _ rfl;(with_reducible repeat (first | refine blk_drewN ?_ _ | refine blk_drew ?_ | refine blk_alloc ?_ _));exact BK696.out⟩,⟨hs3 HB GE689 GE690 GE696⟩⟩
                 rw [if_neg c23] at H;have c23b0 : decide (0 < x9_1) = false:=decide_eq_false c23;clear c23;have H':=zMk H;clear H;have hnb27:=NB696_689.out;have hnc27:=NB689_696.out;have hnb28:=NB696_690.out;have hnc28:=NB690_696.out;have hcz29_0 : w16.cell? ⟨gb696,0,none⟩ = some (.int .i64 0):=(zCl BK696.out 0).trans rfl;have hcz29_1 : w16.cell? ⟨gb696,1,none⟩ = some (.int .i64 0):=(zCl BK696.out 1).trans rfl;have hcz29_2 : w16.cell? ⟨gb696,2,none⟩ = some (.int .i64 0):=(zCl BK696.out 2).trans rfl;have hcz29_3 : w16.cell? ⟨gb696,3,none⟩ = some (.int .i64 0):=(zCl BK696.out 3).trans rfl;have hcz29_4 : w16.cell? ⟨gb696,4,none⟩ = some (.int .i64 0):=(zCl BK696.out 4).trans rfl;have hcz29_5 : w16.cell? ⟨gb696,5,none⟩ = some (.string (⟨#[]⟩ : ByteArray)):=(zCl BK696.out 5).trans rfl;have hfz29_0:=zFr BK696.out 0;have hfz29_1:=zFr BK696.out 1;have hfz29_2:=zFr BK696.out 2;have hfz29_3:=zFr BK696.out 3;have hfz29_4:=zFr BK696.out 4;have hfz29_5:=zFr BK696.out 5
                 go_wp2
                 go_meet
                 case rel=>exact ⟨_,(false),(by first | rfl | (simp;done) | (simp [*];done)),H',⟨by have:=HK1.out;have:=HJ6.out;have:=HK3.out;have:=HJ9.out;first | omega | exact Nat.le_refl _⟩,⟨by (with_reducible repeat (first | refine blk_drewN ?_ _ | refine blk_drew ?_ | refine blk_alloc ?_ _));refine blk_far ?_ NB689_696.out _;(with_reducible repeat (first | refine blk_drewN ?_ _ | refine blk_drew ?_ | refine blk_alloc ?_ _));refine blk_far ?_ NB689_696.out _;(with_reducible repeat (first | refine blk_drewN ?_ _ | refine blk_drew ?_ | refine blk_alloc ?_ _));refine blk_far ?_ NB689_696.out _;(with_reducible repeat (first | refine blk_drewN ?_ _ | refine blk_drew ?_ | refine blk_alloc ?_ _));refine blk_far ?_ NB689_696.out _;(with_reducible repeat (first | refine blk_drewN ?_ _ | refine blk_drew ?_ | refine blk_alloc ?_ _));refine blk_far ?_ NB689_696.out _;(with_reducible repeat (first | refine blk_drewN ?_ _ | refine blk_drew ?_ | refine blk_alloc ?_ _));refine blk_far ?_ NB689_696.out _;(with_reducible repeat (first | refine blk_drewN ?_ _ | refine blk_drew ?_ | refine blk_alloc ?_ _));exact BK689.out⟩,⟨by (with_reducible repeat (first | refine blk_drewN ?_ _ | refine blk_drew ?_ | refine blk_alloc ?_ _));refine blk_far ?_ NB690_696.out _;(with_reducible repeat (first | refine blk_drewN ?_ _ | refine blk_drew ?_ | refine blk_alloc ?_ _));refine blk_far ?_ NB690_696.out _;(with_reducible repeat (first | refine blk_drewN ?_ _ | refine blk_drew ?_ | refine blk_alloc ?_ _));refine blk_far ?_ NB690_696.out _;(with_reducible repeat (first | refine blk_drewN ?_ _ | refine blk_drew ?_ | refine blk_alloc ?_ _));refine blk_far ?_ NB690_696.out _;(with_reducible repeat (first | refine blk_drewN ?_ _ | refine blk_drew ?_ | refine blk_alloc ?_ _));refine blk_far ?_ NB690_696.out _;(with_reducible repeat (first | refine blk_drewN ?_ _ | refine blk_drew ?_ | refine blk_alloc ?_ _));refine blk_far ?_ NB690_696.out _;(with_reducible repeat (first | refine blk_drewN ?_ _ | refine blk_drew ?_ | refine blk_alloc ?_ _));exact BK690.out⟩,⟨by (with_reducible repeat (first | refine blk_drewN ?_ _ | refine blk_drew ?_ | refine blk_alloc ?_ _));refine blk_put (cs:=#[.int .i64 ((rd_T36 l0 x11_3).f2.f0),.int .i64 ((rd_T36 l0 x11_3).f2.f1),.int .i64 ((rd_T36 l0 x11_3).f2.f2),.int .i64 ((rd_T36 l0 x11_3).f2.f3),.int .i64 ((rd_T36 l0 x11_3).f2.f4),.string (⟨#[]⟩ : ByteArray)]) ?_ 5 _ rfl;(with_reducible repeat (first | refine blk_drewN ?_ _ | refine blk_drew ?_ | refine blk_alloc ?_ _));refine blk_put (cs:=#[.int .i64 ((rd_T36 l0 x11_3).f2.f0),.int .i64 ((rd_T36 l0 x11_3).f2.f1),.int .i64 ((rd_T36 l0 x11_3).f2.f2),.int .i64 ((rd_T36 l0 x11_3).f2.f3),.int .i64 0,.string (⟨#[]⟩ : ByteArray)]) ?_ 4 _ rfl;(with_reducible repeat (first | refine blk_drewN ?_ _ | refine blk_drew ?_ | refine blk_alloc ?_ _));refine blk_put (cs:=#[.int .i64 ((rd_T36 l0 x11_3).f2.f0),.int .i64 ((rd_T36 l0 x11_3).f2.f1),.int .i64 ((rd_T36 l0 x11_3).f2.f2),.int .i64 0,.int .i64 0,.string (⟨#[]⟩ : ByteArray)]) ?_ 3 _ rfl;(with_reducible repeat (first | refine blk_drewN ?_ _ | refine blk_drew ?_ | refine blk_alloc ?_ _));refine blk_put (cs:=#[.int .i64 ((rd_T36 l0 x11_3).f2.f0),.int .i64 ((rd_T36 l0 x11_3).f2.f1),.int .i64 0,.int .i64 0,.int .i64 0,.string (⟨#[]⟩ : ByteArray)]) ?_ 2 _ rfl;(with_reducible repeat (first | refine blk_drewN ?_ _ | refine blk_drew ?_ | refine blk_alloc ?_ _));refine blk_put (cs:=#[.int .i64 ((rd_T36 l0 x11_3).f2.f0),.int .i64 0,.int .i64 0,.int .i64 0,.int .i64 0,.string (⟨#[]⟩ : ByteArray)]) ?_ 1 _ rfl;(with_reducible repeat (first | refine blk_drewN ?_ _ | refine blk_drew ?_ | refine blk_alloc ?_ _));refine blk_put (cs:=#[.int .i64 0,.int .i64 0,.int .i64 0,.int .i64 0,.int .i64 0,.string (⟨#[]⟩ : ByteArray)]) ?_ 0 _ rfl;(with_reducible repeat (first | refine blk_drewN ?_ _ | refine blk_drew ?_ | refine blk_alloc ?_ _));exact BK696.out⟩,⟨hs3 HB GE689 GE690 GE696⟩⟩
                rw [if_neg c22] at H;have c22b0 : (((rd_T36 l0 x11_3).f2.f3) == x9_1) = false:=beq_eq_false_iff_ne.mpr c22;have c22b1 : (((rd_T36 l0 x11_3).f2.f3) != x9_1) = true:=bne_iff_ne.mpr c22;have H':=zMk H;clear H;have hnb30:=NB696_689.out;have hnc30:=NB689_696.out;have hnb31:=NB696_690.out;have hnc31:=NB690_696.out;have hcz32_0 : w16.cell? ⟨gb696,0,none⟩ = some (.int .i64 0):=(zCl BK696.out 0).trans rfl;have hcz32_1 : w16.cell? ⟨gb696,1,none⟩ = some (.int .i64 0):=(zCl BK696.out 1).trans rfl;have hcz32_2 : w16.cell? ⟨gb696,2,none⟩ = some (.int .i64 0):=(zCl BK696.out 2).trans rfl;have hcz32_3 : w16.cell? ⟨gb696,3,none⟩ = some (.int .i64 0):=(zCl BK696.out 3).trans rfl;have hcz32_4 : w16.cell? ⟨gb696,4,none⟩ = some (.int .i64 0):=(zCl BK696.out 4).trans rfl;have hcz32_5 : w16.cell? ⟨gb696,5,none⟩ = some (.string (⟨#[]⟩ : ByteArray)):=(zCl BK696.out 5).trans rfl;have hfz32_0:=zFr BK696.out 0;have hfz32_1:=zFr BK696.out 1;have hfz32_2:=zFr BK696.out 2;have hfz32_3:=zFr BK696.out 3;have hfz32_4:=zFr BK696.out 4;have hfz32_5:=zFr BK696.out 5
                go_wp2
                go_meet
                case rel=>exact ⟨_,(true),(by first | rfl | (simp;done) | (simp [*];done)),H',⟨by have:=HK1.out;have:=HJ6.out;have:=HK3.out;have:=HJ9.out;first | omega | exact Nat.le_refl _⟩,⟨by (with_reducible repeat (first | refine blk_drewN ?_ _ | refine blk_drew ?_ | refine blk_alloc ?_ _));refine blk_far ?_ NB689_696.out _;(with_reducible repeat (first | refine blk_drewN ?_ _ | refine blk_drew ?_ | refine blk_alloc ?_ _));refine blk_far ?_ NB689_696.out _;(with_reducible repeat (first | refine blk_drewN ?_ _ | refine blk_drew ?_ | refine blk_alloc ?_ _));refine blk_far ?_ NB689_696.out _;(with_reducible repeat (first | refine blk_drewN ?_ _ | refine blk_drew ?_ | refine blk_alloc ?_ _));refine blk_far ?_ NB689_696.out _;(with_reducible repeat (first | refine blk_drewN ?_ _ | refine blk_drew ?_ | refine blk_alloc ?_ _));refine blk_far ?_ NB689_696.out _;(with_reducible repeat (first | refine blk_drewN ?_ _ | refine blk_drew ?_ | refine blk_alloc ?_ _));refine blk_far ?_ NB689_696.out _;(with_reducible repeat (first | refine blk_drewN ?_ _ | refine blk_drew ?_ | refine blk_alloc ?_ _));exact BK689.out⟩,⟨by (with_reducible repeat (first | refine blk_drewN ?_ _ | refine blk_drew ?_ | refine blk_alloc ?_ _));refine blk_far ?_ NB690_696.out _;(with_reducible repeat (first | refine blk_drewN ?_ _ | refine blk_drew ?_ | refine blk_alloc ?_ _));refine blk_far ?_ NB690_696.out _;(with_reducible repeat (first | refine blk_drewN ?_ _ | refine blk_drew ?_ | refine blk_alloc ?_ _));refine blk_far ?_ NB690_696.out _;(with_reducible repeat (first | refine blk_drewN ?_ _ | refine blk_drew ?_ | refine blk_alloc ?_ _));refine blk_far ?_ NB690_696.out _;(with_reducible repeat (first | refine blk_drewN ?_ _ | refine blk_drew ?_ | refine blk_alloc ?_ _));refine blk_far ?_ NB690_696.out _;(with_reducible repeat (first | refine blk_drewN ?_ _ | refine blk_drew ?_ | refine blk_alloc ?_ _));refine blk_far ?_ NB690_696.out _;(with_reducible repeat (first | refine blk_drewN ?_ _ | refine blk_drew ?_ | refine blk_alloc ?_ _));exact BK690.out⟩,⟨by (with_reducible repeat (first | refine blk_drewN ?_ _ | refine blk_drew ?_ | refine blk_alloc ?_ _));refine blk_put (cs:=#[.int .i64 ((rd_T36 l0 x11_3).f2.f0),.int .i64 ((rd_T36 l0 x11_3).f2.f1),.int .i64 ((rd_T36 l0 x11_3).f2.f2),.int .i64 ((rd_T36 l0 x11_3).f2.f3),.int .i64 ((rd_T36 l0 x11_3).f2.f4),.string (⟨#[]⟩ : ByteArray)]) ?_ 5 _ rfl;(with_reducible repeat (first | refine blk_drewN ?_ _ | refine blk_drew ?_ | refine blk_alloc ?_ _));refine blk_put (cs:=#[.int .i64 ((rd_T36 l0 x11_3).f2.f0),.int .i64 ((rd_T36 l0 x11_3).f2.f1),.int .i64 ((rd_T36 l0 x11_3).f2.f2),.int .i64 ((rd_T36 l0 x11_3).f2.f3),.int .i64 0,.string (⟨#[]⟩ : ByteArray)]) ?_ 4 _ rfl;(with_reducible repeat (first | refine blk_drewN ?_ _ | refine blk_drew ?_ | refine blk_alloc ?_ _));refine blk_put (cs:=#[.int .i64 ((rd_T36 l0 x11_3).f2.f0),.int .i64 ((rd_T36 l0 x11_3).f2.f1),.int .i64 ((rd_T36 l0 x11_3).f2.f2),.int .i64 0,.int .i64 0,.string (⟨#[]⟩ : ByteArray)]) ?_ 3 _ rfl;(with_reducible repeat (first | refine blk_drewN ?_ _ | refine blk_drew ?_ | refine blk_alloc ?_ _));refine blk_put (cs:=#[.int .i64 ((rd_T36 l0 x11_3).f2.f0),.int .i64 ((rd_T36 l0 x11_3).f2.f1),.int .i64 0,.int .i64 0,.int .i64 0,.string (⟨#[]⟩ : ByteArray)]) ?_ 2 _ rfl;(with_reducible repeat (first | refine blk_drewN ?_ _ | refine blk_drew ?_ | refine blk_alloc ?_ _));refine blk_put (cs:=#[.int .i64 ((rd_T36 l0 x11_3).f2.f0),.int .i64 0,.int .i64 0,.int .i64 0,.int .i64 0,.string (⟨#[]⟩ : ByteArray)]) ?_ 1 _ rfl;(with_reducible repeat (first | refine blk_drewN ?_ _ | refine blk_drew ?_ | refine blk_alloc ?_ _));refine blk_put (cs:=#[.int .i64 0,.int .i64 0,.int .i64 0,.int .i64 0,.int .i64 0,.string (⟨#[]⟩ : ByteArray)]) ?_ 0 _ rfl;(with_reducible repeat (first | refine blk_drewN ?_ _ | refine blk_drew ?_ | refine blk_alloc ?_ _));exact BK696.out⟩,⟨hs3 HB GE689 GE690 GE696⟩⟩
               rw [if_neg c21] at H;have c21b0 : (((rd_T36 l0 x11_3).f2.f2) == a1) = false:=beq_eq_false_iff_ne.mpr c21;have c21b1 : (((rd_T36 l0 x11_3).f2.f2) != a1) = true:=bne_iff_ne.mpr c21;have H':=zMk H;clear H;have hnb33:=NB696_689.out;have hnc33:=NB689_696.out;have hnb34:=NB696_690.out;have hnc34:=NB690_696.out;have hcz35_0 : w16.cell? ⟨gb696,0,none⟩ = some (.int .i64 0):=(zCl BK696.out 0).trans rfl;have hcz35_1 : w16.cell? ⟨gb696,1,none⟩ = some (.int .i64 0):=(zCl BK696.out 1).trans rfl;have hcz35_2 : w16.cell? ⟨gb696,2,none⟩ = some (.int .i64 0):=(zCl BK696.out 2).trans rfl;have hcz35_3 : w16.cell? ⟨gb696,3,none⟩ = some (.int .i64 0):=(zCl BK696.out 3).trans rfl;have hcz35_4 : w16.cell? ⟨gb696,4,none⟩ = some (.int .i64 0):=(zCl BK696.out 4).trans rfl;have hcz35_5 : w16.cell? ⟨gb696,5,none⟩ = some (.string (⟨#[]⟩ : ByteArray)):=(zCl BK696.out 5).trans rfl;have hfz35_0:=zFr BK696.out 0;have hfz35_1:=zFr BK696.out 1;have hfz35_2:=zFr BK696.out 2;have hfz35_3:=zFr BK696.out 3;have hfz35_4:=zFr BK696.out 4;have hfz35_5:=zFr BK696.out 5
               go_wp2
               go_meet
               case rel=>exact ⟨_,(true),(by first | rfl | (simp;done) | (simp [*];done)),H',⟨by have:=HK1.out;have:=HJ6.out;have:=HK3.out;have:=HJ9.out;first | omega | exact Nat.le_refl _⟩,⟨by (with_reducible repeat (first | refine blk_drewN ?_ _ | refine blk_drew ?_ | refine blk_alloc ?_ _));refine blk_far ?_ NB689_696.out _;(with_reducible repeat (first | refine blk_drewN ?_ _ | refine blk_drew ?_ | refine blk_alloc ?_ _));refine blk_far ?_ NB689_696.out _;(with_reducible repeat (first | refine blk_drewN ?_ _ | refine blk_drew ?_ | refine blk_alloc ?_ _));refine blk_far ?_ NB689_696.out _;(with_reducible repeat (first | refine blk_drewN ?_ _ | refine blk_drew ?_ | refine blk_alloc ?_ _));refine blk_far ?_ NB689_696.out _;(with_reducible repeat (first | refine blk_drewN ?_ _ | refine blk_drew ?_ | refine blk_alloc ?_ _));refine blk_far ?_ NB689_696.out _;(with_reducible repeat (first | refine blk_drewN ?_ _ | refine blk_drew ?_ | refine blk_alloc ?_ _));refine blk_far ?_ NB689_696.out _;(with_reducible repeat (first | refine blk_drewN ?_ _ | refine blk_drew ?_ | refine blk_alloc ?_ _));exact BK689.out⟩,⟨by (with_reducible repeat (first | refine blk_drewN ?_ _ | refine blk_drew ?_ | refine blk_alloc ?_ _));refine blk_far ?_ NB690_696.out _;(with_reducible repeat (first | refine blk_drewN ?_ _ | refine blk_drew ?_ | refine blk_alloc ?_ _));refine blk_far ?_ NB690_696.out _;(with_reducible repeat (first | refine blk_drewN ?_ _ | refine blk_drew ?_ | refine blk_alloc ?_ _));refine blk_far ?_ NB690_696.out _;(with_reducible repeat (first | refine blk_drewN ?_ _ | refine blk_drew ?_ | refine blk_alloc ?_ _));refine blk_far ?_ NB690_696.out _;(with_reducible repeat (first | refine blk_drewN ?_ _ | refine blk_drew ?_ | refine blk_alloc ?_ _));refine blk_far ?_ NB690_696.out _;(with_reducible repeat (first | refine blk_drewN ?_ _ | refine blk_drew ?_ | refine blk_alloc ?_ _));refine blk_far ?_ NB690_696.out _;(with_reducible repeat (first | refine blk_drewN ?_ _ | refine blk_drew ?_ | refine blk_alloc ?_ _));exact BK690.out⟩,⟨by (with_reducible repeat (first | refine blk_drewN ?_ _ | refine blk_drew ?_ | refine blk_alloc ?_ _));refine blk_put (cs:=#[.int .i64 ((rd_T36 l0 x11_3).f2.f0),.int .i64 ((rd_T36 l0 x11_3).f2.f1),.int .i64 ((rd_T36 l0 x11_3).f2.f2),.int .i64 ((rd_T36 l0 x11_3).f2.f3),.int .i64 ((rd_T36 l0 x11_3).f2.f4),.string (⟨#[]⟩ : ByteArray)]) ?_ 5 _ rfl;(with_reducible repeat (first | refine blk_drewN ?_ _ | refine blk_drew ?_ | refine blk_alloc ?_ _));refine blk_put (cs:=#[.int .i64 ((rd_T36 l0 x11_3).f2.f0),.int .i64 ((rd_T36 l0 x11_3).f2.f1),.int .i64 ((rd_T36 l0 x11_3).f2.f2),.int .i64 ((rd_T36 l0 x11_3).f2.f3),.int .i64 0,.string (⟨#[]⟩ : ByteArray)]) ?_ 4 _ rfl;(with_reducible repeat (first | refine blk_drewN ?_ _ | refine blk_drew ?_ | refine blk_alloc ?_ _));refine blk_put (cs:=#[.int .i64 ((rd_T36 l0 x11_3).f2.f0),.int .i64 ((rd_T36 l0 x11_3).f2.f1),.int .i64 ((rd_T36 l0 x11_3).f2.f2),.int .i64 0,.int .i64 0,.string (⟨#[]⟩ : ByteArray)]) ?_ 3 _ rfl;(with_reducible repeat (first | refine blk_drewN ?_ _ | refine blk_drew ?_ | refine blk_alloc ?_ _));refine blk_put (cs:=#[.int .i64 ((rd_T36 l0 x11_3).f2.f0),.int .i64 ((rd_T36 l0 x11_3).f2.f1),.int .i64 0,.int .i64 0,.int .i64 0,.string (⟨#[]⟩ : ByteArray)]) ?_ 2 _ rfl;(with_reducible repeat (first | refine blk_drewN ?_ _ | refine blk_drew ?_ | refine blk_alloc ?_ _));refine blk_put (cs:=#[.int .i64 ((rd_T36 l0 x11_3).f2.f0),.int .i64 0,.int .i64 0,.int .i64 0,.int .i64 0,.string (⟨#[]⟩ : ByteArray)]) ?_ 1 _ rfl;(with_reducible repeat (first | refine blk_drewN ?_ _ | refine blk_drew ?_ | refine blk_alloc ?_ _));refine blk_put (cs:=#[.int .i64 0,.int .i64 0,.int .i64 0,.int .i64 0,.int .i64 0,.string (⟨#[]⟩ : ByteArray)]) ?_ 0 _ rfl;(with_reducible repeat (first | refine blk_drewN ?_ _ | refine blk_drew ?_ | refine blk_alloc ?_ _));exact BK696.out⟩,⟨hs3 HB GE689 GE690 GE696⟩⟩
              rw [if_neg c20] at H;have c20b0 : (((rd_T36 l0 x11_3).f2.f0) == 2) = false:=beq_eq_false_iff_ne.mpr c20;have c20b1 : (((rd_T36 l0 x11_3).f2.f0) != 2) = true:=bne_iff_ne.mpr c20
              (first | rw [c20b0] | (simp only [i64_w,i32_w];rw [c20b0]) | skip)
              have H':=zMk H;clear H;have hnb36:=NB696_689.out;have hnc36:=NB689_696.out;have hnb37:=NB696_690.out;have hnc37:=NB690_696.out;have hcz38_0 : w16.cell? ⟨gb696,0,none⟩ = some (.int .i64 0):=(zCl BK696.out 0).trans rfl;have hcz38_1 : w16.cell? ⟨gb696,1,none⟩ = some (.int .i64 0):=(zCl BK696.out 1).trans rfl;have hcz38_2 : w16.cell? ⟨gb696,2,none⟩ = some (.int .i64 0):=(zCl BK696.out 2).trans rfl;have hcz38_3 : w16.cell? ⟨gb696,3,none⟩ = some (.int .i64 0):=(zCl BK696.out 3).trans rfl;have hcz38_4 : w16.cell? ⟨gb696,4,none⟩ = some (.int .i64 0):=(zCl BK696.out 4).trans rfl;have hcz38_5 : w16.cell? ⟨gb696,5,none⟩ = some (.string (⟨#[]⟩ : ByteArray)):=(zCl BK696.out 5).trans rfl;have hfz38_0:=zFr BK696.out 0;have hfz38_1:=zFr BK696.out 1;have hfz38_2:=zFr BK696.out 2;have hfz38_3:=zFr BK696.out 3;have hfz38_4:=zFr BK696.out 4;have hfz38_5:=zFr BK696.out 5
              go_wp2
              go_meet
              case rel=>exact ⟨_,(true),(by first | rfl | (simp;done) | (simp [*];done)),H',⟨by have:=HK1.out;have:=HJ6.out;have:=HK3.out;have:=HJ9.out;first | omega | exact Nat.le_refl _⟩,⟨by (with_reducible repeat (first | refine blk_drewN ?_ _ | refine blk_drew ?_ | refine blk_alloc ?_ _));refine blk_far ?_ NB689_696.out _;(with_reducible repeat (first | refine blk_drewN ?_ _ | refine blk_drew ?_ | refine blk_alloc ?_ _));refine blk_far ?_ NB689_696.out _;(with_reducible repeat (first | refine blk_drewN ?_ _ | refine blk_drew ?_ | refine blk_alloc ?_ _));refine blk_far ?_ NB689_696.out _;(with_reducible repeat (first | refine blk_drewN ?_ _ | refine blk_drew ?_ | refine blk_alloc ?_ _));refine blk_far ?_ NB689_696.out _;(with_reducible repeat (first | refine blk_drewN ?_ _ | refine blk_drew ?_ | refine blk_alloc ?_ _));refine blk_far ?_ NB689_696.out _;(with_reducible repeat (first | refine blk_drewN ?_ _ | refine blk_drew ?_ | refine blk_alloc ?_ _));refine blk_far ?_ NB689_696.out _;(with_reducible repeat (first | refine blk_drewN ?_ _ | refine blk_drew ?_ | refine blk_alloc ?_ _));exact BK689.out⟩,⟨by (with_reducible repeat (first | refine blk_drewN ?_ _ | refine blk_drew ?_ | refine blk_alloc ?_ _));refine blk_far ?_ NB690_696.out _;(with_reducible repeat (first | refine blk_drewN ?_ _ | refine blk_drew ?_ | refine blk_alloc ?_ _));refine blk_far ?_ NB690_696.out _;(with_reducible repeat (first | refine blk_drewN ?_ _ | refine blk_drew ?_ | refine blk_alloc ?_ _));refine blk_far ?_ NB690_696.out _;(with_reducible repeat (first | refine blk_drewN ?_ _ | refine blk_drew ?_ | refine blk_alloc ?_ _));refine blk_far ?_ NB690_696.out _;(with_reducible repeat (first | refine blk_drewN ?_ _ | refine blk_drew ?_ | refine blk_alloc ?_ _));refine blk_far ?_ NB690_696.out _;(with_reducible repeat (first | refine blk_drewN ?_ _ | refine blk_drew ?_ | refine blk_alloc ?_ _));refine blk_far ?_ NB690_696.out _;(with_reducible repeat (first | refine blk_drewN ?_ _ | refine blk_drew ?_ | refine blk_alloc ?_ _));exact BK690.out⟩,⟨by (with_reducible repeat (first | refine blk_drewN ?_ _ | refine blk_drew ?_ | refine blk_alloc ?_ _));refine blk_put (cs:=#[.int .i64 ((rd_T36 l0 x11_3).f2.f0),.int .i64 ((rd_T36 l0 x11_3).f2.f1),.int .i64 ((rd_T36 l0 x11_3).f2.f2),.int .i64 ((rd_T36 l0 x11_3).f2.f3),.int .i64 ((rd_T36 l0 x11_3).f2.f4),.string (⟨#[]⟩ : ByteArray)]) ?_ 5 _ rfl;(with_reducible repeat (first | refine blk_drewN ?_ _ | refine blk_drew ?_ | refine blk_alloc ?_ _));refine blk_put (cs:=#[.int .i64 ((rd_T36 l0 x11_3).f2.f0),.int .i64 ((rd_T36 l0 x11_3).f2.f1),.int .i64 ((rd_T36 l0 x11_3).f2.f2),.int .i64 ((rd_T36 l0 x11_3).f2.f3),.int .i64 0,.string (⟨#[]⟩ : ByteArray)]) ?_ 4 _ rfl;(with_reducible repeat (first | refine blk_drewN ?_ _ | refine blk_drew ?_ | refine blk_alloc ?_ _));refine blk_put (cs:=#[.int .i64 ((rd_T36 l0 x11_3).f2.f0),.int .i64 ((rd_T36 l0 x11_3).f2.f1),.int .i64 ((rd_T36 l0 x11_3).f2.f2),.int .i64 0,.int .i64 0,.string (⟨#[]⟩ : ByteArray)]) ?_ 3 _ rfl;(with_reducible repeat (first | refine blk_drewN ?_ _ | refine blk_drew ?_ | refine blk_alloc ?_ _));refine blk_put (cs:=#[.int .i64 ((rd_T36 l0 x11_3).f2.f0),.int .i64 ((rd_T36 l0 x11_3).f2.f1),.int .i64 0,.int .i64 0,.int .i64 0,.string (⟨#[]⟩ : ByteArray)]) ?_ 2 _ rfl;(with_reducible repeat (first | refine blk_drewN ?_ _ | refine blk_drew ?_ | refine blk_alloc ?_ _));refine blk_put (cs:=#[.int .i64 ((rd_T36 l0 x11_3).f2.f0),.int .i64 0,.int .i64 0,.int .i64 0,.int .i64 0,.string (⟨#[]⟩ : ByteArray)]) ?_ 1 _ rfl;(with_reducible repeat (first | refine blk_drewN ?_ _ | refine blk_drew ?_ | refine blk_alloc ?_ _));refine blk_put (cs:=#[.int .i64 0,.int .i64 0,.int .i64 0,.int .i64 0,.int .i64 0,.string (⟨#[]⟩ : ByteArray)]) ?_ 0 _ rfl;(with_reducible repeat (first | refine blk_drewN ?_ _ | refine blk_drew ?_ | refine blk_alloc ?_ _));exact BK696.out⟩,⟨hs3 HB GE689 GE690 GE696⟩⟩
             case rest =>
              clear HC15
              try clear c1
              try clear c2
              try clear p2
              try clear c3
              try clear c4
              try clear c5
              try clear p6
              try clear q6
              try clear hx6
              try clear c8
              try clear c8b0
              try clear c8b1
              try clear c9
              try clear c11
              try clear c11b0
              try clear c12
              try clear c13
              try clear c13b0
              try clear c14
              try clear c14b0
              try clear c17
              try clear c18
              try clear c20
              try clear c20b0
              try clear c20b1
              try clear c21
              try clear c21b0
              try clear c21b1
              try clear c22
              try clear c22b0
              try clear c22b1
              try clear c23
              try clear c23b0
              try clear c24
              try clear c25
              try clear c27
              try clear c28
              try clear c30
              try clear c31
              try clear c33
              try clear c34
              try clear c36
              try clear c37
              try clear hcz19_0
              try clear hcz19_1
              try clear hcz19_2
              try clear hcz19_3
              try clear hcz19_4
              try clear hcz19_5
              try clear hcz26_0
              try clear hcz26_1
              try clear hcz26_2
              try clear hcz26_3
              try clear hcz26_4
              try clear hcz26_5
              try clear hcz29_0
              try clear hcz29_1
              try clear hcz29_2
              try clear hcz29_3
              try clear hcz29_4
              try clear hcz29_5
              try clear hcz32_0
              try clear hcz32_1
              try clear hcz32_2
              try clear hcz32_3
              try clear hcz32_4
              try clear hcz32_5
              try clear hcz35_0
              try clear hcz35_1
              try clear hcz35_2
              try clear hcz35_3
              try clear hcz35_4
              try clear hcz35_5
              try clear hcz38_0
              try clear hcz38_1
              try clear hcz38_2
              try clear hcz38_3
              try clear hcz38_4
              try clear hcz38_5
              try clear hcz6_0
              try clear hcz6_1
              try clear hcz6_2
              try clear hfz19_0
              try clear hfz19_1
              try clear hfz19_2
              try clear hfz19_3
              try clear hfz19_4
              try clear hfz19_5
              try clear hfz26_0
              try clear hfz26_1
              try clear hfz26_2
              try clear hfz26_3
              try clear hfz26_4
              try clear hfz26_5
              try clear hfz29_0
              try clear hfz29_1
              try clear hfz29_2
              try clear hfz29_3
              try clear hfz29_4
              try clear hfz29_5
              try clear hfz32_0
              try clear hfz32_1
              try clear hfz32_2
              try clear hfz32_3
              try clear hfz32_4
              try clear hfz32_5
              try clear hfz35_0
              try clear hfz35_1
              try clear hfz35_2
              try clear hfz35_3
              try clear hfz35_4
              try clear hfz35_5
              try clear hfz38_0
              try clear hfz38_1
              try clear hfz38_2
              try clear hfz38_3
              try clear hfz38_4
              try clear hfz38_5
              try clear hfz6_0
              try clear hfz6_1
              try clear hfz6_2
              try clear hx695_0
              try clear hx695_1
              try clear hx695_2
              try clear hx695_3
              try clear hx695_4
              try clear hx695_5
              try clear hx695_6
              try clear hx695_7
              try clear p2
              try clear p695
              try clear q695
              obtain ⟨kq,x65_14,rfl,HA,HJ14,BK689,BK690,BK696,HB⟩:=hcut;cases kq with
              | zero=>exact absurd HA.out (by simp [spec_l10Tx.j4])
              | succ kj14 =>
               have H:=HA.out;clear HA;simp only [spec_l10Tx.j4] at H
               by_cases c39 : x65_14 = true
               ·subst c39;have H1 : (spec_l10Tx.l1 kj14 l0 a1 x7_3 x8_3 x9_1 x10_3 (wrap64 (x11_3 + 1)) a1 x691001_3) = some (r1,r2,r3,r4):=by rw [if_pos rfl] at H;exact H
                clear H;have H:=H1;clear H1;have H':=zMk H;clear H
                go_wp2
                go_roundg kj14;case measure=>have:=HK1.out;have:=HJ6.out;have:=HK3.out;have:=HJ9.out;have:=HJ14.out;omega
                case rel=>exact ⟨(x7_3),(x8_3),(x10_3),(wrap64 (x11_3 + 1)),(x691001_3),(by first | rfl | (simp;done) | (simp [*];done)),(by first | rfl | (simp;done) | (simp [*];done)),(by first | rfl | (simp;done) | (simp [*];done)),(by first | rfl | (simp;done) | (simp [*];done)),H',⟨by have:=HK1.out;have:=HJ6.out;have:=HK3.out;have:=HJ9.out;have:=HJ14.out;omega⟩,⟨bs BK689⟩,⟨bs BK690⟩,⟨hs3 HB GE689 GE690 GE696⟩⟩
               replace c39:=Bool.eq_false_iff.mpr c39;subst c39;have H1 : (if x8_3.size + ((rd_T36 l0 x11_3).f2.f5).size ≤ 9223372036854775807 then (if x9_1 = 0 then (spec_l10Tx.l1 kj14 l0 a1 ((rd_T36 l0 x11_3).f2.f4) (x8_3 ++ ((rd_T36 l0 x11_3).f2.f5)) x9_1 true (wrap64 (x11_3 + 1)) a1 ((rd_T36 l0 x11_3).f2.f1)) else (if ((rd_T36 l0 x11_3).f2.f1) < x691001_3 then (spec_l10Tx.l1 kj14 l0 a1 ((rd_T36 l0 x11_3).f2.f4) (x8_3 ++ ((rd_T36 l0 x11_3).f2.f5)) x9_1 true (wrap64 (x11_3 + 1)) a1 ((rd_T36 l0 x11_3).f2.f1)) else (spec_l10Tx.l1 kj14 l0 a1 ((rd_T36 l0 x11_3).f2.f4) (x8_3 ++ ((rd_T36 l0 x11_3).f2.f5)) x9_1 true (wrap64 (x11_3 + 1)) a1 x691001_3))) else (none)) = some (r1,r2,r3,r4):=by rw [if_neg (show ¬ (false = true) by decide)] at H;exact H
               clear H;have H:=H1;clear H1
               by_cases c40 : x8_3.size + ((rd_T36 l0 x11_3).f2.f5).size ≤ 9223372036854775807
               ·rw [if_pos c40] at H;have c40b0:=eq_true c40;have c40b1 : decide (x8_3.size + ((rd_T36 l0 x11_3).f2.f5).size ≤ 9223372036854775807) = true:=decide_eq_true c40
                try have c40b2 : (9223372036854775807 < x8_3.size + ((rd_T36 l0 x11_3).f2.f5).size) = False:=eq_false (Nat.not_lt.2 c40)
                by_cases c41 : x9_1 = 0
                ·rw [if_pos c41] at H;have c41b0 : (x9_1 == 0) = true:=beq_iff_eq.mpr c41;have c41b1 : (x9_1 != 0) = false:=bne_eq_false_iff_eq.mpr c41;clear c41;have H':=zMk H;clear H;have hnb42:=NB696_689.out;have hnc42:=NB689_696.out;have hnb43:=NB696_690.out;have hnc43:=NB690_696.out;have hcz44_0 : wc.cell? ⟨gb696,0,none⟩ = some (.int .i64 ((rd_T36 l0 x11_3).f2.f0)):=(zCl BK696.out 0).trans rfl;have hcz44_1 : wc.cell? ⟨gb696,1,none⟩ = some (.int .i64 ((rd_T36 l0 x11_3).f2.f1)):=(zCl BK696.out 1).trans rfl;have hcz44_2 : wc.cell? ⟨gb696,2,none⟩ = some (.int .i64 ((rd_T36 l0 x11_3).f2.f2)):=(zCl BK696.out 2).trans rfl;have hcz44_3 : wc.cell? ⟨gb696,3,none⟩ = some (.int .i64 ((rd_T36 l0 x11_3).f2.f3)):=(zCl BK696.out 3).trans rfl;have hcz44_4 : wc.cell? ⟨gb696,4,none⟩ = some (.int .i64 ((rd_T36 l0 x11_3).f2.f4)):=(zCl BK696.out 4).trans rfl;have hcz44_5 : wc.cell? ⟨gb696,5,none⟩ = some (.string ((rd_T36 l0 x11_3).f2.f5)):=(zCl BK696.out 5).trans rfl;have hfz44_0:=zFr BK696.out 0;have hfz44_1:=zFr BK696.out 1;have hfz44_2:=zFr BK696.out 2;have hfz44_3:=zFr BK696.out 3;have hfz44_4:=zFr BK696.out 4;have hfz44_5:=zFr BK696.out 5;have hnb45:=NB690_689.out;have hnc45:=NB689_690.out;have hcz46_0 : wc.cell? ⟨gb690,0,none⟩ = some (.int .i64 a1):=(zCl BK690.out 0).trans rfl;have hcz46_1 : wc.cell? ⟨gb690,1,none⟩ = some (.int .i64 x691001_3):=(zCl BK690.out 1).trans rfl;have hcz46_2 : wc.cell? ⟨gb690,2,none⟩ = some (.slice none 0 0):=(zCl BK690.out 2).trans rfl;have hfz46_0:=zFr BK690.out 0;have hfz46_1:=zFr BK690.out 1;have hfz46_2:=zFr BK690.out 2
                 go_wp2
                 go_roundg kj14;case measure=>have:=HK1.out;have:=HJ6.out;have:=HK3.out;have:=HJ9.out;have:=HJ14.out;omega
                 case rel=>exact ⟨(((rd_T36 l0 x11_3).f2.f4)),(x8_3 ++ ((rd_T36 l0 x11_3).f2.f5)),(true),(wrap64 (x11_3 + 1)),(((rd_T36 l0 x11_3).f2.f1)),(by first | rfl | (simp;done) | (simp [*];done)),(by first | rfl | (simp;done) | (simp [*];done)),(by first | rfl | (simp;done) | (simp [*];done)),(by first | rfl | (simp;done) | (simp [*];done)),H',⟨by have:=HK1.out;have:=HJ6.out;have:=HK3.out;have:=HJ9.out;have:=HJ14.out;omega⟩,⟨by (with_reducible repeat (first | refine blk_drewN ?_ _ | refine blk_drew ?_ | refine blk_alloc ?_ _));refine blk_far ?_ NB689_690.out _;(with_reducible repeat (first | refine blk_drewN ?_ _ | refine blk_drew ?_ | refine blk_alloc ?_ _));exact BK689.out⟩,⟨by (with_reducible repeat (first | refine blk_drewN ?_ _ | refine blk_drew ?_ | refine blk_alloc ?_ _));refine blk_put (cs:=#[.int .i64 a1,.int .i64 x691001_3,.slice none 0 0]) ?_ 1 _ rfl;(with_reducible repeat (first | refine blk_drewN ?_ _ | refine blk_drew ?_ | refine blk_alloc ?_ _));exact BK690.out⟩,⟨hs3 HB GE689 GE690 GE696⟩⟩
                rw [if_neg c41] at H;have c41b0 : (x9_1 == 0) = false:=beq_eq_false_iff_ne.mpr c41;have c41b1 : (x9_1 != 0) = true:=bne_iff_ne.mpr c41
                by_cases c47 : ((rd_T36 l0 x11_3).f2.f1) < x691001_3
                ·rw [if_pos c47] at H;have c47b0 : decide (((rd_T36 l0 x11_3).f2.f1) < x691001_3) = true:=decide_eq_true c47;clear c47;have H':=zMk H;clear H;have hnb48:=NB696_689.out;have hnc48:=NB689_696.out;have hnb49:=NB696_690.out;have hnc49:=NB690_696.out;have hcz50_0 : wc.cell? ⟨gb696,0,none⟩ = some (.int .i64 ((rd_T36 l0 x11_3).f2.f0)):=(zCl BK696.out 0).trans rfl;have hcz50_1 : wc.cell? ⟨gb696,1,none⟩ = some (.int .i64 ((rd_T36 l0 x11_3).f2.f1)):=(zCl BK696.out 1).trans rfl;have hcz50_2 : wc.cell? ⟨gb696,2,none⟩ = some (.int .i64 ((rd_T36 l0 x11_3).f2.f2)):=(zCl BK696.out 2).trans rfl;have hcz50_3 : wc.cell? ⟨gb696,3,none⟩ = some (.int .i64 ((rd_T36 l0 x11_3).f2.f3)):=(zCl BK696.out 3).trans rfl;have hcz50_4 : wc.cell? ⟨gb696,4,none⟩ = some (.int .i64 ((rd_T36 l0 x11_3).f2.f4)):=(zCl BK696.out 4).trans rfl;have hcz50_5 : wc.cell? ⟨gb696,5,none⟩ = some (.string ((rd_T36 l0 x11_3).f2.f5)):=(zCl BK696.out 5).trans rfl;have hfz50_0:=zFr BK696.out 0;have hfz50_1:=zFr BK696.out 1;have hfz50_2:=zFr BK696.out 2;have hfz50_3:=zFr BK696.out 3;have hfz50_4:=zFr BK696.out 4;have hfz50_5:=zFr BK696.out 5;have hnb51:=NB690_689.out;have hnc51:=NB689_690.out;have hcz52_0 : wc.cell? ⟨gb690,0,none⟩ = some (.int .i64 a1):=(zCl BK690.out 0).trans rfl;have hcz52_1 : wc.cell? ⟨gb690,1,none⟩ = some (.int .i64 x691001_3):=(zCl BK690.out 1).trans rfl;have hcz52_2 : wc.cell? ⟨gb690,2,none⟩ = some (.slice none 0 0):=(zCl BK690.out 2).trans rfl;have hfz52_0:=zFr BK690.out 0;have hfz52_1:=zFr BK690.out 1;have hfz52_2:=zFr BK690.out 2
                 go_wp2
                 go_roundg kj14;case measure=>have:=HK1.out;have:=HJ6.out;have:=HK3.out;have:=HJ9.out;have:=HJ14.out;omega
                 case rel=>exact ⟨(((rd_T36 l0 x11_3).f2.f4)),(x8_3 ++ ((rd_T36 l0 x11_3).f2.f5)),(true),(wrap64 (x11_3 + 1)),(((rd_T36 l0 x11_3).f2.f1)),(by first | rfl | (simp;done) | (simp [*];done)),(by first | rfl | (simp;done) | (simp [*];done)),(by first | rfl | (simp;done) | (simp [*];done)),(by first | rfl | (simp;done) | (simp [*];done)),H',⟨by have:=HK1.out;have:=HJ6.out;have:=HK3.out;have:=HJ9.out;have:=HJ14.out;omega⟩,⟨by (with_reducible repeat (first | refine blk_drewN ?_ _ | refine blk_drew ?_ | refine blk_alloc ?_ _));refine blk_far ?_ NB689_690.out _;(with_reducible repeat (first | refine blk_drewN ?_ _ | refine blk_drew ?_ | refine blk_alloc ?_ _));exact BK689.out⟩,⟨by (with_reducible repeat (first | refine blk_drewN ?_ _ | refine blk_drew ?_ | refine blk_alloc ?_ _));refine blk_put (cs:=#[.int .i64 a1,.int .i64 x691001_3,.slice none 0 0]) ?_ 1 _ rfl;(with_reducible repeat (first | refine blk_drewN ?_ _ | refine blk_drew ?_ | refine blk_alloc ?_ _));exact BK690.out⟩,⟨hs3 HB GE689 GE690 GE696⟩⟩
                rw [if_neg c47] at H;have c47b0 : decide (((rd_T36 l0 x11_3).f2.f1) < x691001_3) = false:=decide_eq_false c47;clear c47;have H':=zMk H;clear H;have hnb53:=NB696_689.out;have hnc53:=NB689_696.out;have hnb54:=NB696_690.out;have hnc54:=NB690_696.out;have hcz55_0 : wc.cell? ⟨gb696,0,none⟩ = some (.int .i64 ((rd_T36 l0 x11_3).f2.f0)):=(zCl BK696.out 0).trans rfl;have hcz55_1 : wc.cell? ⟨gb696,1,none⟩ = some (.int .i64 ((rd_T36 l0 x11_3).f2.f1)):=(zCl BK696.out 1).trans rfl;have hcz55_2 : wc.cell? ⟨gb696,2,none⟩ = some (.int .i64 ((rd_T36 l0 x11_3).f2.f2)):=(zCl BK696.out 2).trans rfl;have hcz55_3 : wc.cell? ⟨gb696,3,none⟩ = some (.int .i64 ((rd_T36 l0 x11_3).f2.f3)):=(zCl BK696.out 3).trans rfl;have hcz55_4 : wc.cell? ⟨gb696,4,none⟩ = some (.int .i64 ((rd_T36 l0 x11_3).f2.f4)):=(zCl BK696.out 4).trans rfl;have hcz55_5 : wc.cell? ⟨gb696,5,none⟩ = some (.string ((rd_T36 l0 x11_3).f2.f5)):=(zCl BK696.out 5).trans rfl;have hfz55_0:=zFr BK696.out 0;have hfz55_1:=zFr BK696.out 1;have hfz55_2:=zFr BK696.out 2;have hfz55_3:=zFr BK696.out 3;have hfz55_4:=zFr BK696.out 4;have hfz55_5:=zFr BK696.out 5;have hnb56:=NB690_689.out;have hnc56:=NB689_690.out;have hcz57_0 : wc.cell? ⟨gb690,0,none⟩ = some (.int .i64 a1):=(zCl BK690.out 0).trans rfl;have hcz57_1 : wc.cell? ⟨gb690,1,none⟩ = some (.int .i64 x691001_3):=(zCl BK690.out 1).trans rfl;have hcz57_2 : wc.cell? ⟨gb690,2,none⟩ = some (.slice none 0 0):=(zCl BK690.out 2).trans rfl;have hfz57_0:=zFr BK690.out 0;have hfz57_1:=zFr BK690.out 1;have hfz57_2:=zFr BK690.out 2
                go_wp2
                go_roundg kj14;case measure=>have:=HK1.out;have:=HJ6.out;have:=HK3.out;have:=HJ9.out;have:=HJ14.out;omega
                case rel=>exact ⟨(((rd_T36 l0 x11_3).f2.f4)),(x8_3 ++ ((rd_T36 l0 x11_3).f2.f5)),(true),(wrap64 (x11_3 + 1)),(x691001_3),(by first | rfl | (simp;done) | (simp [*];done)),(by first | rfl | (simp;done) | (simp [*];done)),(by first | rfl | (simp;done) | (simp [*];done)),(by first | rfl | (simp;done) | (simp [*];done)),H',⟨by have:=HK1.out;have:=HJ6.out;have:=HK3.out;have:=HJ9.out;have:=HJ14.out;omega⟩,⟨bs BK689⟩,⟨bs BK690⟩,⟨hs3 HB GE689 GE690 GE696⟩⟩
               rw [if_neg c40] at H;exact absurd H (by simp)
            rw [if_neg c14] at H;exact absurd H (by simp)
           rw [if_neg c13] at H;exact absurd H (by simp)
          replace c12:=Bool.eq_false_iff.mpr c12;subst c12;have H1 : (if x10_3 = true then (spec_l10Tx.l0 kj9 l0 a1 x7_3 x8_3 (wrap64 (x9_1 + 1)) a1 x691001_3) else (some (a1,x691001_3,([] : List (S45)),false))) = some (r1,r2,r3,r4):=by rw [if_neg (show ¬ (false = true) by decide)] at H;exact H
          clear H;have H:=H1;clear H1
          by_cases c58 : x10_3 = true
          ·subst c58;have H1 : (spec_l10Tx.l0 kj9 l0 a1 x7_3 x8_3 (wrap64 (x9_1 + 1)) a1 x691001_3) = some (r1,r2,r3,r4):=by rw [if_pos rfl] at H;exact H
           clear H;have H:=H1;clear H1;have H':=zMk H;clear H
           go_wp2
           go_roundg kj9;case measure=>have:=HK1.out;have:=HJ6.out;have:=HK3.out;have:=HJ9.out;omega
           case rel=>exact ⟨(x7_3),(x8_3),(wrap64 (x9_1 + 1)),(x690000_1),(x690001_1),(x691001_3),(by first | rfl | (simp;done) | (simp [*];done)),(by first | rfl | (simp;done) | (simp [*];done)),(by first | rfl | (simp;done) | (simp [*];done)),H',⟨by have:=HK1.out;have:=HJ6.out;have:=HK3.out;have:=HJ9.out;omega⟩,⟨bs BK689⟩,⟨bs BK690⟩,⟨hs2 HB GE689 GE690⟩⟩
          replace c58:=Bool.eq_false_iff.mpr c58;subst c58;have H1 : (some (a1,x691001_3,([] : List (S45)),false)) = some (r1,r2,r3,r4):=by rw [if_neg (show ¬ (false = true) by decide)] at H;exact H
          clear H;have H:=H1;clear H1;simp only [Option.some.injEq,Prod.mk.injEq] at H;obtain ⟨rfl,rfl,rfl,rfl⟩:=H;have hnb59:=NB690_689.out;have hnc59:=NB689_690.out;have hcz60_0 : wc.cell? ⟨gb690,0,none⟩ = some (.int .i64 a1):=(zCl BK690.out 0).trans rfl;have hcz60_1 : wc.cell? ⟨gb690,1,none⟩ = some (.int .i64 x691001_3):=(zCl BK690.out 1).trans rfl;have hcz60_2 : wc.cell? ⟨gb690,2,none⟩ = some (.slice none 0 0):=(zCl BK690.out 2).trans rfl;have hfz60_0:=zFr BK690.out 0;have hfz60_1:=zFr BK690.out 1;have hfz60_2:=zFr BK690.out 2;have hcz61_0 : wc.cell? ⟨gb689,0,none⟩ = some (.int .i64 x690000_1):=(zCl BK689.out 0).trans rfl;have hcz61_1 : wc.cell? ⟨gb689,1,none⟩ = some (.int .i64 x690001_1):=(zCl BK689.out 1).trans rfl;have hcz61_2 : wc.cell? ⟨gb689,2,none⟩ = some (.slice none 0 0):=(zCl BK689.out 2).trans rfl;have hfz61_0:=zFr BK689.out 0;have hfz61_1:=zFr BK689.out 1;have hfz61_2:=zFr BK689.out 2
          go_wp2
          refine bodyPost_ret (results_ct rfl _ _ gb689 40 #[.int .i64 a1,.int .i64 x691001_3,.slice none 0 0] (0,0) _ rfl (by (with_reducible repeat (first | refine blk_drewN ?_ _ | refine blk_drew ?_ | refine blk_alloc ?_ _));refine blk_put (cs:=#[.int .i64 a1,.int .i64 x691001_3,.slice none 0 0]) ?_ 2 _ rfl;(with_reducible repeat (first | refine blk_drewN ?_ _ | refine blk_drew ?_ | refine blk_alloc ?_ _));refine blk_put (cs:=#[.int .i64 a1,.int .i64 x690001_1,.slice none 0 0]) ?_ 1 _ rfl;(with_reducible repeat (first | refine blk_drewN ?_ _ | refine blk_drew ?_ | refine blk_alloc ?_ _));refine blk_put (cs:=#[.int .i64 x690000_1,.int .i64 x690001_1,.slice none 0 0]) ?_ 0 _ rfl;(with_reducible repeat (first | refine blk_drewN ?_ _ | refine blk_drew ?_ | refine blk_alloc ?_ _));exact BK689.out) Try.underlying40 rfl (by kernel_rfl)) rfl ?_;exact ⟨_,by first | rfl | (simp [errW_none,errW_some] <;> rfl) | (simp [*,errW_none,errW_some] <;> rfl),by first | exact Kd.R_nil _ _ _ _ _ | exact Kd.N_nil _ _ _ _ _ | exact Kd.V_nil _ _ _ _ _ | exact Kd.Q_nil _ _ _ _ _ | exact Kd.S_nil _ _ _ _ _,hs2 HB GE689 GE690⟩
     replace c9:=Bool.eq_false_iff.mpr c9;subst c9;have H1 : ((spec_ReadRecs.f kj6 x8_1).bind fun bt691=>(some (a1,x691001_1,bt691.1,bt691.2))) = some (r1,r2,r3,r4):=by rw [if_neg (show ¬ (false = true) by decide)] at H;exact H
     clear H;have H:=H1;clear H1;replace H:=Option.bind_eq_some_iff.mp H;obtain ⟨⟨t691,t692⟩,A620,H⟩:=H;replace H : (some (a1,x691001_1,t691,t692)) = some (r1,r2,r3,r4):=H;have A62:=zMk A620;clear A620;simp only [Option.some.injEq,Prod.mk.injEq] at H;obtain ⟨rfl,rfl,rfl,rfl⟩:=H;go_wp2_with (first | ((with_reducible refine gate_callee (f:=57) rfl ?_);refine goesL_ (some 89) rfl rfl Try.func57 (by kernel_rfl) rfl #[.string x8_1] rfl (by (try simp only [List.map_toArray,List.map_cons,List.map_nil]);first | done | rfl | (simp only [List.length_drop,List.length_take];rfl)) ?_;(with_reducible refine (spec_ReadRecs.calls kj6 x8_1 t691 t692 _ A62.out).mono ?_);rintro e w63 ⟨v693,rfl,ho0,hb⟩;refine ⟨_,rfl,?_⟩;have n0_:=zMk (Kd.R_lower ho0 (below_size (hs2 HB GE689 GE690)));have n1_:=zMk (blk_below (g:=gb689) (o:=.cells #[.int .i64 x690000_1,.int .i64 x690001_1,.slice none 0 0] 40 (0,0)) (bs BK689) hb);have n2_:=zMk (blk_below (g:=gb690) (o:=.cells #[.int .i64 a1,.int .i64 x691001_1,.slice none 0 0] 40 (0,0)) (bs BK690) hb);have n3_:=zMk (below_step (hs2 HB GE689 GE690) hb);clear BK689;clear BK690;clear HB;have HO694:=n0_;have BK689:=n1_;have BK690:=n2_;have HB:=n3_;clear n0_ n1_ n2_ n3_;(try clear hb);(try clear hb2);(try clear hk);(try clear hi);(try clear ho0);obtain ⟨Ao64,co64,eo64⟩:=Kd.R_slice HO694.out;subst eo64;have hnb65:=NB690_689.out;have hnc65:=NB689_690.out;have hcz66_0 : w63.cell? ⟨gb690,0,none⟩ = some (.int .i64 a1):=(zCl BK690.out 0).trans rfl;have hcz66_1 : w63.cell? ⟨gb690,1,none⟩ = some (.int .i64 x691001_1):=(zCl BK690.out 1).trans rfl;have hcz66_2 : w63.cell? ⟨gb690,2,none⟩ = some (.slice none 0 0):=(zCl BK690.out 2).trans rfl;have hfz66_0:=zFr BK690.out 0;have hfz66_1:=zFr BK690.out 1;have hfz66_2:=zFr BK690.out 2;have hcz67_0 : w63.cell? ⟨gb689,0,none⟩ = some (.int .i64 x690000_1):=(zCl BK689.out 0).trans rfl;have hcz67_1 : w63.cell? ⟨gb689,1,none⟩ = some (.int .i64 x690001_1):=(zCl BK689.out 1).trans rfl;have hcz67_2 : w63.cell? ⟨gb689,2,none⟩ = some (.slice none 0 0):=(zCl BK689.out 2).trans rfl;have hfz67_0:=zFr BK689.out 0;have hfz67_1:=zFr BK689.out 1;have hfz67_2:=zFr BK689.out 2));refine bodyPost_ret (results_ct rfl _ _ gb689 40 #[.int .i64 a1,.int .i64 x691001_1,.slice Ao64 t691.length co64] (0,0) _ rfl (by (with_reducible repeat (first | refine blk_drewN ?_ _ | refine blk_drew ?_ | refine blk_alloc ?_ _));refine blk_put (cs:=#[.int .i64 a1,.int .i64 x691001_1,.slice none 0 0]) ?_ 2 _ rfl;(with_reducible repeat (first | refine blk_drewN ?_ _ | refine blk_drew ?_ | refine blk_alloc ?_ _));refine blk_put (cs:=#[.int .i64 a1,.int .i64 x690001_1,.slice none 0 0]) ?_ 1 _ rfl;(with_reducible repeat (first | refine blk_drewN ?_ _ | refine blk_drew ?_ | refine blk_alloc ?_ _));refine blk_put (cs:=#[.int .i64 x690000_1,.int .i64 x690001_1,.slice none 0 0]) ?_ 0 _ rfl;(with_reducible repeat (first | refine blk_drewN ?_ _ | refine blk_drew ?_ | refine blk_alloc ?_ _));refine blk_far ?_ NB689_690.out _;(with_reducible repeat (first | refine blk_drewN ?_ _ | refine blk_drew ?_ | refine blk_alloc ?_ _));exact BK689.out) Try.underlying40 rfl (by kernel_rfl)) rfl ?_;exact ⟨_,by first | rfl | (simp [errW_none,errW_some] <;> rfl) | (simp [*,errW_none,errW_some] <;> rfl),by (with_reducible repeat (first | apply Kd.R_alloc | apply Kd.R_drewN | apply Kd.R_drew));exact Kd.R_mono (Kd.R_far (p:=⟨gb689,2,none⟩) (Kd.R_far (p:=⟨gb689,1,none⟩) (Kd.R_far (p:=⟨gb689,0,none⟩) (Kd.R_far (p:=⟨gb690,2,none⟩) (Kd.R_types (Kd.R_types HO694.out BK690.out (by decide)) BK689.out (by decide)) (fun _ hk=>hk.1.2) (.slice Ao64 t691.length co64)) (fun _ hk=>hk.2) (.int .i64 a1)) (fun _ hk=>hk.2) (.int .i64 x691001_1)) (fun _ hk=>hk.2) (.slice Ao64 t691.length co64)) (fun _ hk=>trivial),hs2 HB GE689 GE690⟩
end Go.Proofs.Ytodokejcmbjpbaa.PK
