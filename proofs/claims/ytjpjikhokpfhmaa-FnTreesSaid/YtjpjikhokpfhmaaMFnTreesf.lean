/- FnTrees: functions of the translation as Lean functions with what their calls come to, plain lemmas on them, and, at the end, the row. Parts of one proof, merged by a program of this session; each part's own sentence stands at its head. -/
import Derived.Test.YtjpjikhokpfhmaaRows
import Derived.WalkKit
import Derived.ProofKit
import Derived.OpenShut
import Derived.ShutString
import Derived.ChangeOld
import Derived.Below
import Derived.SizedLaws
import Derived.Test.YtjpjikhokpfhmaaMFnTreese
namespace Go.Proofs.Ytjpjikhokpfhmaa.PT
open Go.RowKit Go.Proofs.YtjpjikhokpfhmaaW.PrintWords Go.Proofs.YtjpjikhokpfhmaaW.PrintLast Go.Proofs.YtjpjikhokpfhmaaW.PrintMore
attribute [local go_sem] max2_int min2_int max_two min_two max_three min_three max_four min_four   -- for this text's walks alone
set_option linter.unusedVariables false
set_option linter.unusedSimpArgs false
mutual
def laws_FnTrees.j0 : Nat → List Int → Int → Int → Int → Bool → List (S47) → List (S47) → Option (Bool)
 | 0,_,_,_,_,_,_,_=>none
 | k + 1,x4,x6,x7,x9,x55,x308000,x319000=>if x55 = true then (some false) else (laws_FnTrees.l0 k x4 x6 x7 x9 0 x308000 x319000)
def laws_FnTrees.l0 : Nat → List Int → Int → Int → Int → Int → List (S47) → List (S47) → Option (Bool)
 | 0,_,_,_,_,_,_,_=>none
 | k + 1,x4,x6,x7,x9,x10,x308000,x319000=>if x10 < 16 then (if x10 = x7 then (laws_FnTrees.l0 k x4 x6 x7 x9 (wrap64 (x10 + 1)) x308000 x319000) else ((impl_GetAt.f k x319000 x9 x10).bind fun t322=>((spec_GetAt.f k x308000 x6 x10).bind fun t323=>(if t322 = t323 then (laws_FnTrees.l0 k x4 x6 x7 x9 (wrap64 (x10 + 1)) x308000 x319000) else (some false))))) else (laws_FnTrees.l1 k x4 x6 x9 0 x308000 x319000)
def laws_FnTrees.l1 : Nat → List Int → Int → Int → Int → List (S47) → List (S47) → Option (Bool)
 | 0,_,_,_,_,_,_=>none
 | k + 1,x4,x6,x9,x11,x308000,x319000=>if x11 < (x4.length : Int) then (if 0 ≤ x11 then ((impl_AllAt.f k x319000 (rd x4 x11)).bind fun t325=>((spec_AllAt.f k x308000 (rd x4 x11)).bind fun t329=>((laws_sameInts.f k t325 t329).bind fun t332=>(if t332 = true then (laws_FnTrees.l1 k x4 x6 x9 (wrap64 (x11 + 1)) x308000 x319000) else (some false))))) else (none)) else ((impl_SharedBy.f k x319000 x9 x9).bind fun t333=>(if t333 ≥ 2 then ((impl_SharedBy.f k x319000 x9 x6).bind fun t334=>(if t334 ≤ 3 then ((impl_SharedBy.f k x319000 (-1) x9).bind fun t335=>(if t335 = 0 then ((impl_SharedBy.f k x319000 x9 x6).bind fun t336=>((spec_SharedBy.f k x319000 x9 x6).bind fun t337=>(some (t336 == t337)))) else (some false))) else (some false))) else (some false)))
end
def laws_FnTrees.f (k : Nat) (l0 : List Int) : Option (Bool):=(laws_big.f l0).bind fun t300=>(if t300 = true then (some true) else ((spec_DrawForest.f k l0).bind fun bt301=>((spec_DrawPlaces.f k l0).bind fun t308=>(if 0 < (t308.length : Int) then (if (bt301.2.length : Int) = 0 then (none) else (if 0 ≤ (Int.tmod (rd t308 0) (bt301.2.length : Int)) then (if (Int.tmod (rd t308 0) (bt301.2.length : Int)) < (bt301.2.length : Int) then (if 1 < (t308.length : Int) then ((impl_PutAt.f k bt301.1 (rd bt301.2 (Int.tmod (rd t308 0) (bt301.2.length : Int))) (Int.tmod (rd t308 1) 16) 77).bind fun bt314=>((impl_ArenaOk.f k bt301.1).bind fun t319=>(if t319 = true then ((impl_ArenaOk.f k bt314.1).bind fun t320=>(if t320 = true then ((impl_GetAt.f k bt314.1 bt314.2 (Int.tmod (rd t308 1) 16)).bind fun t321=>(laws_FnTrees.j0 k bt301.2 (rd bt301.2 (Int.tmod (rd t308 0) (bt301.2.length : Int))) (Int.tmod (rd t308 1) 16) bt314.2 (t321 != 77) bt301.1 bt314.1)) else (laws_FnTrees.j0 k bt301.2 (rd bt301.2 (Int.tmod (rd t308 0) (bt301.2.length : Int))) (Int.tmod (rd t308 1) 16) bt314.2 true bt301.1 bt314.1))) else (laws_FnTrees.j0 k bt301.2 (rd bt301.2 (Int.tmod (rd t308 0) (bt301.2.length : Int))) (Int.tmod (rd t308 1) 16) bt314.2 true bt301.1 bt314.1)))) else (none)) else (none)) else (none))) else (none)))))
theorem laws_FnTrees.mono_l : ∀ k,(∀ y0 y1 y2 y3 y4 y5 y6,LeO (laws_FnTrees.j0 k y0 y1 y2 y3 y4 y5 y6) (laws_FnTrees.j0 (k + 1) y0 y1 y2 y3 y4 y5 y6)) ∧ (∀ y0 y1 y2 y3 y4 y5 y6,LeO (laws_FnTrees.l0 k y0 y1 y2 y3 y4 y5 y6) (laws_FnTrees.l0 (k + 1) y0 y1 y2 y3 y4 y5 y6)) ∧ (∀ y0 y1 y2 y3 y4 y5,LeO (laws_FnTrees.l1 k y0 y1 y2 y3 y4 y5) (laws_FnTrees.l1 (k + 1) y0 y1 y2 y3 y4 y5))
 | 0=>⟨fun _ _ _ _ _ _ _ r h=>by simp [laws_FnTrees.j0] at h,fun _ _ _ _ _ _ _ r h=>by simp [laws_FnTrees.l0] at h,fun _ _ _ _ _ _ r h=>by simp [laws_FnTrees.l1] at h⟩
 | k + 1=>by
  obtain ⟨ih0,ih1,ih2⟩:=laws_FnTrees.mono_l k;refine ⟨?_,?_,?_⟩
  ·intro y0 y1 y2 y3 y4 y5 y6;unfold laws_FnTrees.j0
   repeat' first
   | (with_reducible exact ih0 _ _ _ _ _ _ _)
   | (with_reducible exact ih1 _ _ _ _ _ _ _)
   | (with_reducible exact ih2 _ _ _ _ _ _)
   | (with_reducible exact impl_AllAt.mono _ _ _)
   | (with_reducible exact impl_ArenaOk.mono _ _)
   | (with_reducible exact impl_GetAt.mono _ _ _ _)
   | (with_reducible exact impl_PutAt.mono _ _ _ _ _)
   | (with_reducible exact impl_SharedBy.mono _ _ _ _)
   | (with_reducible exact laws_sameInts.mono _ _ _)
   | (with_reducible exact spec_AllAt.mono _ _ _)
   | (with_reducible exact spec_DrawForest.mono _ _)
   | (with_reducible exact spec_DrawPlaces.mono _ _)
   | (with_reducible exact spec_GetAt.mono _ _ _ _)
   | (with_reducible exact spec_SharedBy.mono _ _ _ _)
   | (with_reducible exact LeO.refl _)
   | (with_reducible exact LeO.none _)
   | (with_reducible refine LeO.ite ?_ ?_)
   | (with_reducible refine LeO.bind ?_ (fun _=>?_))
   | exact ih0 _ _ _ _ _ _ _
   | exact ih1 _ _ _ _ _ _ _
   | exact ih2 _ _ _ _ _ _
   | exact impl_AllAt.mono _ _ _
   | exact impl_ArenaOk.mono _ _
   | exact impl_GetAt.mono _ _ _ _
   | exact impl_PutAt.mono _ _ _ _ _
   | exact impl_SharedBy.mono _ _ _ _
   | exact laws_sameInts.mono _ _ _
   | exact spec_AllAt.mono _ _ _
   | exact spec_DrawForest.mono _ _
   | exact spec_DrawPlaces.mono _ _
   | exact spec_GetAt.mono _ _ _ _
   | exact spec_SharedBy.mono _ _ _ _
   | exact LeO.none _
   | refine LeO.ite ?_ ?_
   | refine LeO.bind ?_ (fun _=>?_)
  ·intro y0 y1 y2 y3 y4 y5 y6;unfold laws_FnTrees.l0
   repeat' first
   | (with_reducible exact ih0 _ _ _ _ _ _ _)
   | (with_reducible exact ih1 _ _ _ _ _ _ _)
   | (with_reducible exact ih2 _ _ _ _ _ _)
   | (with_reducible exact impl_AllAt.mono _ _ _)
   | (with_reducible exact impl_ArenaOk.mono _ _)
   | (with_reducible exact impl_GetAt.mono _ _ _ _)
   | (with_reducible exact impl_PutAt.mono _ _ _ _ _)
   | (with_reducible exact impl_SharedBy.mono _ _ _ _)
   | (with_reducible exact laws_sameInts.mono _ _ _)
   | (with_reducible exact spec_AllAt.mono _ _ _)
   | (with_reducible exact spec_DrawForest.mono _ _)
   | (with_reducible exact spec_DrawPlaces.mono _ _)
   | (with_reducible exact spec_GetAt.mono _ _ _ _)
   | (with_reducible exact spec_SharedBy.mono _ _ _ _)
   | (with_reducible exact LeO.refl _)
   | (with_reducible exact LeO.none _)
   | (with_reducible refine LeO.ite ?_ ?_)
   | (with_reducible refine LeO.bind ?_ (fun _=>?_))
   | exact ih0 _ _ _ _ _ _ _
   | exact ih1 _ _ _ _ _ _ _
   | exact ih2 _ _ _ _ _ _
   | exact impl_AllAt.mono _ _ _
   | exact impl_ArenaOk.mono _ _
   | exact impl_GetAt.mono _ _ _ _
   | exact impl_PutAt.mono _ _ _ _ _
   | exact impl_SharedBy.mono _ _ _ _
   | exact laws_sameInts.mono _ _ _
   | exact spec_AllAt.mono _ _ _
   | exact spec_DrawForest.mono _ _
   | exact spec_DrawPlaces.mono _ _
   | exact spec_GetAt.mono _ _ _ _
   | exact spec_SharedBy.mono _ _ _ _
   | exact LeO.none _
   | refine LeO.ite ?_ ?_
   | refine LeO.bind ?_ (fun _=>?_)
  intro y0 y1 y2 y3 y4 y5;unfold laws_FnTrees.l1
  repeat' first
  | (with_reducible exact ih0 _ _ _ _ _ _ _)
  | (with_reducible exact ih1 _ _ _ _ _ _ _)
  | (with_reducible exact ih2 _ _ _ _ _ _)
  | (with_reducible exact impl_AllAt.mono _ _ _)
  | (with_reducible exact impl_ArenaOk.mono _ _)
  | (with_reducible exact impl_GetAt.mono _ _ _ _)
  | (with_reducible exact impl_PutAt.mono _ _ _ _ _)
  | (with_reducible exact impl_SharedBy.mono _ _ _ _)
  | (with_reducible exact laws_sameInts.mono _ _ _)
  | (with_reducible exact spec_AllAt.mono _ _ _)
  | (with_reducible exact spec_DrawForest.mono _ _)
  | (with_reducible exact spec_DrawPlaces.mono _ _)
  | (with_reducible exact spec_GetAt.mono _ _ _ _)
  | (with_reducible exact spec_SharedBy.mono _ _ _ _)
  | (with_reducible exact LeO.refl _)
  | (with_reducible exact LeO.none _)
  | (with_reducible refine LeO.ite ?_ ?_)
  | (with_reducible refine LeO.bind ?_ (fun _=>?_))
  | exact ih0 _ _ _ _ _ _ _
  | exact ih1 _ _ _ _ _ _ _
  | exact ih2 _ _ _ _ _ _
  | exact impl_AllAt.mono _ _ _
  | exact impl_ArenaOk.mono _ _
  | exact impl_GetAt.mono _ _ _ _
  | exact impl_PutAt.mono _ _ _ _ _
  | exact impl_SharedBy.mono _ _ _ _
  | exact laws_sameInts.mono _ _ _
  | exact spec_AllAt.mono _ _ _
  | exact spec_DrawForest.mono _ _
  | exact spec_DrawPlaces.mono _ _
  | exact spec_GetAt.mono _ _ _ _
  | exact spec_SharedBy.mono _ _ _ _
  | exact LeO.none _
  | refine LeO.ite ?_ ?_
  | refine LeO.bind ?_ (fun _=>?_)
theorem laws_FnTrees.mono : ∀ a0 k,LeO (laws_FnTrees.f k a0) (laws_FnTrees.f (k + 1) a0):=by
 intro a0 k;obtain ⟨ih0,ih1,ih2⟩:=laws_FnTrees.mono_l k;unfold laws_FnTrees.f
 repeat' first
   | (with_reducible exact ih0 _ _ _ _ _ _ _)
   | (with_reducible exact ih1 _ _ _ _ _ _ _)
   | (with_reducible exact ih2 _ _ _ _ _ _)
   | (with_reducible exact impl_AllAt.mono _ _ _)
   | (with_reducible exact impl_ArenaOk.mono _ _)
   | (with_reducible exact impl_GetAt.mono _ _ _ _)
   | (with_reducible exact impl_PutAt.mono _ _ _ _ _)
   | (with_reducible exact impl_SharedBy.mono _ _ _ _)
   | (with_reducible exact laws_sameInts.mono _ _ _)
   | (with_reducible exact spec_AllAt.mono _ _ _)
   | (with_reducible exact spec_DrawForest.mono _ _)
   | (with_reducible exact spec_DrawPlaces.mono _ _)
   | (with_reducible exact spec_GetAt.mono _ _ _ _)
   | (with_reducible exact spec_SharedBy.mono _ _ _ _)
   | (with_reducible exact LeO.refl _)
   | (with_reducible exact LeO.none _)
   | (with_reducible refine LeO.ite ?_ ?_)
   | (with_reducible refine LeO.bind ?_ (fun _=>?_))
   | exact ih0 _ _ _ _ _ _ _
   | exact ih1 _ _ _ _ _ _ _
   | exact ih2 _ _ _ _ _ _
   | exact impl_AllAt.mono _ _ _
   | exact impl_ArenaOk.mono _ _
   | exact impl_GetAt.mono _ _ _ _
   | exact impl_PutAt.mono _ _ _ _ _
   | exact impl_SharedBy.mono _ _ _ _
   | exact laws_sameInts.mono _ _ _
   | exact spec_AllAt.mono _ _ _
   | exact spec_DrawForest.mono _ _
   | exact spec_DrawPlaces.mono _ _
   | exact spec_GetAt.mono _ _ _ _
   | exact spec_SharedBy.mono _ _ _ _
   | exact LeO.none _
   | refine LeO.ite ?_ ?_
   | refine LeO.bind ?_ (fun _=>?_)
def laws_FnTrees.T13 : Bool × List (List Nat × List Nat):=(true,[([],[]),([],[]),([0,1],[0,1]),([2],[2]),([3],[3]),([3],[3]),([3],[3]),([4,5,6,3,3],[3,4,5,6]),([3],[3]),([3],[3]),([3],[3]),([8,9,10,7,3],[3,8,9,10]),([7,11,3],[3,7,11]),([3,12],[3,12])])
def laws_FnTrees.B13 : List Nat:=[0,0,3,7,15,15,15,127,15,15,15,2047,4095,8191]
theorem laws_FnTrees.tab13 : rtab .any (opsOf Try.f3 13) = laws_FnTrees.T13:=by kernel_rfl
theorem laws_FnTrees.bits13 : waitsOk laws_FnTrees.T13.2 laws_FnTrees.B13 = true:=by kernel_rfl
def laws_FnTrees.T18 : Bool × List (List Nat × List Nat):=(true,[([],[]),([],[]),([],[]),([1,2],[1,2]),([3],[3]),([0,4],[0,4]),([],[]),([],[]),([],[]),([7,8],[7,8]),([9],[9]),([6,10,5],[6,10]),([5,11,11],[5,11]),([12],[12])])
def laws_FnTrees.B18 : List Nat:=[0,0,0,6,14,31,0,0,0,384,896,2047,4095,8191]
theorem laws_FnTrees.tab18 : rtab .any (opsOf Try.f3 18) = laws_FnTrees.T18:=by kernel_rfl
theorem laws_FnTrees.bits18 : waitsOk laws_FnTrees.T18.2 laws_FnTrees.B18 = true:=by kernel_rfl
def laws_FnTrees.T20 : Bool × List (List Nat × List Nat):=(true,[([],[]),([],[]),([],[]),([0,1,2],[0,1,2]),([3],[3]),([4,3],[4]),([5],[5]),([5],[5]),([5],[5]),([6,7,8,5,5],[5,6,7,8]),([9,5],[5,9]),([5,10],[5,10]),([11,9],[11]),([12],[12]),([12],[12]),([13,14,12,12],[12,13,14]),([15,12],[12,15]),([12,16],[12,16]),([17,15],[17]),([18],[18]),([18],[18]),([18],[18]),([19,20,21,18,18],[18,19,20,21]),([18],[18]),([18],[18]),([18],[18]),([23,24,25,22,18],[18,23,24,25]),([22,26,18],[18,22,26]),([18,27],[18,27]),([28,26,0,1,2,3,4,5,6,7,8,9,10,11,12,13,14,15,16,17,18,19,20,21,22,23,24,25,26,27,28],[28])])
def laws_FnTrees.B20 : List Nat:=[0,0,0,7,15,31,63,63,63,511,1023,2047,4095,8191,8191,32767,65535,131071,262143,524287,524287,524287,4194303,524287,524287,524287,67108863,134217727,268435455,536870911]
theorem laws_FnTrees.tab20 : rtab .any (opsOf Try.f3 20) = laws_FnTrees.T20:=by kernel_rfl
theorem laws_FnTrees.bits20 : waitsOk laws_FnTrees.T20.2 laws_FnTrees.B20 = true:=by kernel_rfl
set_option maxHeartbeats 8000000 in
set_option maxRecDepth 100000 in
theorem laws_FnTrees.calls (k : Nat) (A0 : Option Addr) (c0 : Nat) (l0 : List Int) (r : Bool) (hT : Aside0 (r = true)) (w : World) (hr0 : Kd.C (Kd.int .u8) w A0 l0.length l0) (hc0 : l0.length ≤ c0) (h : laws_FnTrees.f k l0 = some r) :
  Calls Try.prog 3 #[.slice A0 l0.length c0] w fun e w'=>e = .returned (.bool r) ∧ Below w.heap.size w w':=by
 have hu26:=Try.underlying26;have HR0:=Aside0.mk hr0;have HC0:=Aside0.mk hc0;clear hr0 hc0;have HB:=Aside0.mk (Below.refl w.heap.size w);have H : ((laws_big.f l0).bind fun t300=>(if t300 = true then (some true) else ((spec_DrawForest.f k l0).bind fun bt301=>((spec_DrawPlaces.f k l0).bind fun t308=>(if 0 < (t308.length : Int) then (if (bt301.2.length : Int) = 0 then (none) else (if 0 ≤ (Int.tmod (rd t308 0) (bt301.2.length : Int)) then (if (Int.tmod (rd t308 0) (bt301.2.length : Int)) < (bt301.2.length : Int) then (if 1 < (t308.length : Int) then ((impl_PutAt.f k bt301.1 (rd bt301.2 (Int.tmod (rd t308 0) (bt301.2.length : Int))) (Int.tmod (rd t308 1) 16) 77).bind fun bt314=>((impl_ArenaOk.f k bt301.1).bind fun t319=>(if t319 = true then ((impl_ArenaOk.f k bt314.1).bind fun t320=>(if t320 = true then ((impl_GetAt.f k bt314.1 bt314.2 (Int.tmod (rd t308 1) 16)).bind fun t321=>(laws_FnTrees.j0 k bt301.2 (rd bt301.2 (Int.tmod (rd t308 0) (bt301.2.length : Int))) (Int.tmod (rd t308 1) 16) bt314.2 (t321 != 77) bt301.1 bt314.1)) else (laws_FnTrees.j0 k bt301.2 (rd bt301.2 (Int.tmod (rd t308 0) (bt301.2.length : Int))) (Int.tmod (rd t308 1) 16) bt314.2 true bt301.1 bt314.1))) else (laws_FnTrees.j0 k bt301.2 (rd bt301.2 (Int.tmod (rd t308 0) (bt301.2.length : Int))) (Int.tmod (rd t308 1) 16) bt314.2 true bt301.1 bt314.1)))) else (none)) else (none)) else (none))) else (none)))))) = some r:=h;clear h;replace H:=Option.bind_eq_some_iff.mp H;obtain ⟨t300,A20,H⟩:=H;replace H : (if t300 = true then (some true) else ((spec_DrawForest.f k l0).bind fun bt301=>((spec_DrawPlaces.f k l0).bind fun t308=>(if 0 < (t308.length : Int) then (if (bt301.2.length : Int) = 0 then (none) else (if 0 ≤ (Int.tmod (rd t308 0) (bt301.2.length : Int)) then (if (Int.tmod (rd t308 0) (bt301.2.length : Int)) < (bt301.2.length : Int) then (if 1 < (t308.length : Int) then ((impl_PutAt.f k bt301.1 (rd bt301.2 (Int.tmod (rd t308 0) (bt301.2.length : Int))) (Int.tmod (rd t308 1) 16) 77).bind fun bt314=>((impl_ArenaOk.f k bt301.1).bind fun t319=>(if t319 = true then ((impl_ArenaOk.f k bt314.1).bind fun t320=>(if t320 = true then ((impl_GetAt.f k bt314.1 bt314.2 (Int.tmod (rd t308 1) 16)).bind fun t321=>(laws_FnTrees.j0 k bt301.2 (rd bt301.2 (Int.tmod (rd t308 0) (bt301.2.length : Int))) (Int.tmod (rd t308 1) 16) bt314.2 (t321 != 77) bt301.1 bt314.1)) else (laws_FnTrees.j0 k bt301.2 (rd bt301.2 (Int.tmod (rd t308 0) (bt301.2.length : Int))) (Int.tmod (rd t308 1) 16) bt314.2 true bt301.1 bt314.1))) else (laws_FnTrees.j0 k bt301.2 (rd bt301.2 (Int.tmod (rd t308 0) (bt301.2.length : Int))) (Int.tmod (rd t308 1) 16) bt314.2 true bt301.1 bt314.1)))) else (none)) else (none)) else (none))) else (none))))) = some r:=H;have A2:=Aside0.mk A20;clear A20
 by_cases c3 : t300 = true
 ·subst c3;have H1 : (some true) = some r:=by rw [if_pos rfl] at H;exact H
  clear H;have H:=H1;clear H1;obtain rfl:=Option.some.inj H
  go_enter Try.func3,Try.ntmps3
  go_wp2_with (first | ((with_reducible refine gate_callee (f:=6) rfl ?_);refine goesL_ (some 13) rfl rfl Try.func6 (by kernel_rfl) rfl #[.slice A0 l0.length c0] rfl (by (try simp only [List.map_toArray,List.map_cons,List.map_nil]);first | done | rfl | (simp only [List.length_drop,List.length_take];rfl)) ?_;(with_reducible refine (laws_big.calls _ _ l0 true _ ?side1 ?side2 A2.out).mono ?_);(case side1=>repeat (first | exact HR0.out | (with_reducible refine Kd.C_alloc ?_ _) | (with_reducible refine Kd.C_drewN ?_ _) | (with_reducible refine Kd.C_drew ?_)));(case side2=>exact HC0.out);rintro e w' ⟨rfl,⟨nd,rfl⟩⟩;refine ⟨_,rfl,?_⟩))
  go_ret
  exact ⟨by first | rfl | (simp [errW_none,errW_some] <;> rfl) | (simp [*,errW_none,errW_some] <;> rfl),hs HB⟩
 replace c3:=Bool.eq_false_iff.mpr c3;subst c3;have H1 : ((spec_DrawForest.f k l0).bind fun bt301=>((spec_DrawPlaces.f k l0).bind fun t308=>(if 0 < (t308.length : Int) then (if (bt301.2.length : Int) = 0 then (none) else (if 0 ≤ (Int.tmod (rd t308 0) (bt301.2.length : Int)) then (if (Int.tmod (rd t308 0) (bt301.2.length : Int)) < (bt301.2.length : Int) then (if 1 < (t308.length : Int) then ((impl_PutAt.f k bt301.1 (rd bt301.2 (Int.tmod (rd t308 0) (bt301.2.length : Int))) (Int.tmod (rd t308 1) 16) 77).bind fun bt314=>((impl_ArenaOk.f k bt301.1).bind fun t319=>(if t319 = true then ((impl_ArenaOk.f k bt314.1).bind fun t320=>(if t320 = true then ((impl_GetAt.f k bt314.1 bt314.2 (Int.tmod (rd t308 1) 16)).bind fun t321=>(laws_FnTrees.j0 k bt301.2 (rd bt301.2 (Int.tmod (rd t308 0) (bt301.2.length : Int))) (Int.tmod (rd t308 1) 16) bt314.2 (t321 != 77) bt301.1 bt314.1)) else (laws_FnTrees.j0 k bt301.2 (rd bt301.2 (Int.tmod (rd t308 0) (bt301.2.length : Int))) (Int.tmod (rd t308 1) 16) bt314.2 true bt301.1 bt314.1))) else (laws_FnTrees.j0 k bt301.2 (rd bt301.2 (Int.tmod (rd t308 0) (bt301.2.length : Int))) (Int.tmod (rd t308 1) 16) bt314.2 true bt301.1 bt314.1)))) else (none)) else (none)) else (none))) else (none)))) = some r:=by rw [if_neg (show ¬ (false = true) by decide)] at H;exact H
 clear H;have H:=H1;clear H1;replace H:=Option.bind_eq_some_iff.mp H;obtain ⟨⟨t301,t304⟩,A40,H⟩:=H;replace H : ((spec_DrawPlaces.f k l0).bind fun t308=>(if 0 < (t308.length : Int) then (if (t304.length : Int) = 0 then (none) else (if 0 ≤ (Int.tmod (rd t308 0) (t304.length : Int)) then (if (Int.tmod (rd t308 0) (t304.length : Int)) < (t304.length : Int) then (if 1 < (t308.length : Int) then ((impl_PutAt.f k t301 (rd t304 (Int.tmod (rd t308 0) (t304.length : Int))) (Int.tmod (rd t308 1) 16) 77).bind fun bt314=>((impl_ArenaOk.f k t301).bind fun t319=>(if t319 = true then ((impl_ArenaOk.f k bt314.1).bind fun t320=>(if t320 = true then ((impl_GetAt.f k bt314.1 bt314.2 (Int.tmod (rd t308 1) 16)).bind fun t321=>(laws_FnTrees.j0 k t304 (rd t304 (Int.tmod (rd t308 0) (t304.length : Int))) (Int.tmod (rd t308 1) 16) bt314.2 (t321 != 77) t301 bt314.1)) else (laws_FnTrees.j0 k t304 (rd t304 (Int.tmod (rd t308 0) (t304.length : Int))) (Int.tmod (rd t308 1) 16) bt314.2 true t301 bt314.1))) else (laws_FnTrees.j0 k t304 (rd t304 (Int.tmod (rd t308 0) (t304.length : Int))) (Int.tmod (rd t308 1) 16) bt314.2 true t301 bt314.1)))) else (none)) else (none)) else (none))) else (none))) = some r:=H;have A4:=Aside0.mk A40;clear A40;replace H:=Option.bind_eq_some_iff.mp H;obtain ⟨t308,A50,H⟩:=H;replace H : (if 0 < (t308.length : Int) then (if (t304.length : Int) = 0 then (none) else (if 0 ≤ (Int.tmod (rd t308 0) (t304.length : Int)) then (if (Int.tmod (rd t308 0) (t304.length : Int)) < (t304.length : Int) then (if 1 < (t308.length : Int) then ((impl_PutAt.f k t301 (rd t304 (Int.tmod (rd t308 0) (t304.length : Int))) (Int.tmod (rd t308 1) 16) 77).bind fun bt314=>((impl_ArenaOk.f k t301).bind fun t319=>(if t319 = true then ((impl_ArenaOk.f k bt314.1).bind fun t320=>(if t320 = true then ((impl_GetAt.f k bt314.1 bt314.2 (Int.tmod (rd t308 1) 16)).bind fun t321=>(laws_FnTrees.j0 k t304 (rd t304 (Int.tmod (rd t308 0) (t304.length : Int))) (Int.tmod (rd t308 1) 16) bt314.2 (t321 != 77) t301 bt314.1)) else (laws_FnTrees.j0 k t304 (rd t304 (Int.tmod (rd t308 0) (t304.length : Int))) (Int.tmod (rd t308 1) 16) bt314.2 true t301 bt314.1))) else (laws_FnTrees.j0 k t304 (rd t304 (Int.tmod (rd t308 0) (t304.length : Int))) (Int.tmod (rd t308 1) 16) bt314.2 true t301 bt314.1)))) else (none)) else (none)) else (none))) else (none)) = some r:=H;have A5:=Aside0.mk A50;clear A50
 by_cases c6 : 0 < (t308.length : Int)
 ·rw [if_pos c6] at H;have c6b0 : decide (0 < (t308.length : Int)) = true:=decide_eq_true c6;have c6b1 : decide (0 < t308.length) = true:=decide_eq_true (by omega);clear c6
  by_cases c7 : (t304.length : Int) = 0
  ·rw [if_pos c7] at H;exact absurd H (by simp)
  rw [if_neg c7] at H;have c7b0 : ((t304.length : Int) == 0) = false:=beq_eq_false_iff_ne.mpr c7;have c7b1 : ((t304.length : Int) != 0) = true:=bne_iff_ne.mpr c7;have c7b2 : ¬ (t304 = []):=fun h_=>c7 (by rw [h_];rfl);obtain ⟨ji8,hji8⟩ : ∃ j_ : Int,(Int.tmod (rd t308 0) (t304.length : Int)) = j_:=⟨_,rfl⟩;replace H : (if 0 ≤ (ji8) then (if (ji8) < (t304.length : Int) then (if 1 < (t308.length : Int) then ((impl_PutAt.f k t301 (rd t304 (ji8)) (Int.tmod (rd t308 1) 16) 77).bind fun bt314=>((impl_ArenaOk.f k t301).bind fun t319=>(if t319 = true then ((impl_ArenaOk.f k bt314.1).bind fun t320=>(if t320 = true then ((impl_GetAt.f k bt314.1 bt314.2 (Int.tmod (rd t308 1) 16)).bind fun t321=>(laws_FnTrees.j0 k t304 (rd t304 (ji8)) (Int.tmod (rd t308 1) 16) bt314.2 (t321 != 77) t301 bt314.1)) else (laws_FnTrees.j0 k t304 (rd t304 (ji8)) (Int.tmod (rd t308 1) 16) bt314.2 true t301 bt314.1))) else (laws_FnTrees.j0 k t304 (rd t304 (ji8)) (Int.tmod (rd t308 1) 16) bt314.2 true t301 bt314.1)))) else (none)) else (none)) else (none)) = some r:=by first | (rw [hji8] at H;exact H) | (simp only [hji8] at H ⊢;exact H)
  (try rw [hji8] at A2)
  (try rw [hji8] at A4)
  (try rw [hji8] at A5)
  by_cases c9 : 0 ≤ (ji8)
  ·rw [if_pos c9] at H;have c9b0 : decide (0 ≤ (ji8)) = true:=decide_eq_true c9;clear c9
   by_cases c10 : (ji8) < (t304.length : Int)
   ·rw [if_pos c10] at H;have c10b0 : decide ((ji8) < (t304.length : Int)) = true:=decide_eq_true c10;clear c10
    by_cases c11 : 1 < (t308.length : Int)
    ·rw [if_pos c11] at H;have c11b0 : decide (1 < (t308.length : Int)) = true:=decide_eq_true c11;have c11b1 : decide (1 < t308.length) = true:=decide_eq_true (by omega);clear c11;replace H:=Option.bind_eq_some_iff.mp H;obtain ⟨⟨t314,t317⟩,A120,H⟩:=H;replace H : ((impl_ArenaOk.f k t301).bind fun t319=>(if t319 = true then ((impl_ArenaOk.f k t314).bind fun t320=>(if t320 = true then ((impl_GetAt.f k t314 t317 (Int.tmod (rd t308 1) 16)).bind fun t321=>(laws_FnTrees.j0 k t304 (rd t304 (ji8)) (Int.tmod (rd t308 1) 16) t317 (t321 != 77) t301 t314)) else (laws_FnTrees.j0 k t304 (rd t304 (ji8)) (Int.tmod (rd t308 1) 16) t317 true t301 t314))) else (laws_FnTrees.j0 k t304 (rd t304 (ji8)) (Int.tmod (rd t308 1) 16) t317 true t301 t314))) = some r:=H;have A12:=Aside0.mk A120;clear A120;have HC13:=Aside0.mk H;clear H
     go_enter Try.func3,Try.ntmps3
     go_upto_region 8 with (first | ((with_reducible refine gate_callee (f:=6) rfl ?_);refine goesL_ (some 13) rfl rfl Try.func6 (by kernel_rfl) rfl #[.slice A0 l0.length c0] rfl (by (try simp only [List.map_toArray,List.map_cons,List.map_nil]);first | done | rfl | (simp only [List.length_drop,List.length_take];rfl)) ?_;(with_reducible refine (laws_big.calls _ _ l0 false _ ?side1 ?side2 A2.out).mono ?_);(case side1=>repeat (first | exact HR0.out | (with_reducible refine Kd.C_alloc ?_ _) | (with_reducible refine Kd.C_drewN ?_ _) | (with_reducible refine Kd.C_drew ?_)));(case side2=>exact HC0.out);rintro e w' ⟨rfl,⟨nd,rfl⟩⟩;refine ⟨_,rfl,?_⟩) | ((with_reducible refine gate_callee (f:=7) rfl ?_);refine goesL_ (some 16) rfl rfl Try.func7 (by kernel_rfl) rfl #[.slice A0 l0.length c0] rfl (by (try simp only [List.map_toArray,List.map_cons,List.map_nil]);first | done | rfl | (simp only [List.length_drop,List.length_take];rfl)) ?_;(with_reducible refine (spec_DrawForest.calls k _ _ l0 t301 t304 _ ?side1 ?side2 A4.out).mono ?_);(case side1=>repeat (first | exact HR0.out | (with_reducible refine Kd.C_alloc ?_ _) | (with_reducible refine Kd.C_drewN ?_ _) | (with_reducible refine Kd.C_drew ?_)));(case side2=>exact HC0.out);rintro e w14 ⟨v302,v305,rfl,ho0,ho1,hb⟩;refine ⟨_,rfl,?_⟩;have n0_:=Aside0.mk (Kd.S_lower ho0 (below_size (hs HB)));have n1_:=Aside0.mk (Kd.R_lower ho1 (below_size (hs HB)));have n2_:=Aside0.mk (below_step (hs HB) hb);clear HB;have HO303:=n0_;have HO306:=n1_;have HB:=n2_;clear n0_ n1_ n2_;(try clear hb);(try clear hb2);(try clear hk);(try clear hi);(try clear ho0);(try clear ho1)) | ((with_reducible refine gate_dst (N:=3) rfl ?_);refine box_event ?hg (N:=3) ?hd (cs:=#[.slice none 0 0]) (t:=26) ?hr ?_;(case hd=>rfl);(case hg=>rfl);(case hr=>first | (go_simp;done) | (go_simp;rfl));intro gb307 hg w15 hbox hb;have n0_:=Aside0.mk (Kd.S_below (ss HO303) hb);have n1_:=Aside0.mk (Kd.R_below (rs HO306) hb);have n2_:=Aside0.mk (below_step (hs HB) hb);have n3_:=Aside0.mk (hbox);have n4_:=Aside0.mk ((by rw [hg];exact (below_size (hs HB)) : w.heap.size ≤ gb307));have n5_:=Aside0.mk ((by rw [hg];exact (below_size (hs HB)) : w.heap.size ≤ gb307));clear HO303;clear HO306;clear HB;have HO303:=n0_;have HO306:=n1_;have HB:=n2_;have BK307:=n3_;have GW307:=n4_;have GE307:=n5_;clear n0_ n1_ n2_ n3_ n4_ n5_;clear hb hbox hg;obtain ⟨Ao16,co16,eo16⟩:=Kd.S_slice HO303.out;subst eo16;have hcz17_0 : w15.cell? ⟨gb307,0,none⟩ = some (.slice none 0 0):=(blk_cell BK307.out 0).trans rfl;have hfz17_0:=blk_frozen BK307.out 0) | ((with_reducible refine gate_callee (f:=8) rfl ?_);refine goesL_ (some 20) rfl rfl Try.func8 (by kernel_rfl) rfl #[.slice A0 l0.length c0] rfl (by (try simp only [List.map_toArray,List.map_cons,List.map_nil]);first | done | rfl | (simp only [List.length_drop,List.length_take];rfl)) ?_;(with_reducible refine (spec_DrawPlaces.calls k _ _ l0 t308 _ ?side1 ?side2 A5.out).mono ?_);(case side1=>exact Kd.C_below HR0.out (hs1 HB GE307));(case side2=>exact HC0.out);rintro e w18 ⟨v309,rfl,ho0,hb⟩;refine ⟨_,rfl,?_⟩;have n0_:=Aside0.mk (Kd.S_elder' (by (with_reducible repeat (first | apply Kd.S_alloc | apply Kd.S_drewN | apply Kd.S_drew));exact (Kd.S_mono (Kd.S_far (p:=⟨gb307,0,none⟩) (Kd.S_types HO303.out BK307.out (by decide)) (fun _ hk=>hk.2) (.slice Ao16 t301.length co16)) (fun _ h_=>h_.1))) (Kd.R_base ho0) hb);have n1_:=Aside0.mk (Kd.R_elder' (by (with_reducible repeat (first | apply Kd.R_alloc | apply Kd.R_drewN | apply Kd.R_drew));exact (Kd.R_mono (Kd.R_far (p:=⟨gb307,0,none⟩) (Kd.R_types HO306.out BK307.out (by decide)) (fun _ hk=>hk.2) (.slice Ao16 t301.length co16)) (fun _ h_=>h_.1))) (Kd.R_base ho0) hb);have n2_:=Aside0.mk (Kd.R_lower (Kd.R_new' ho0 (Kd.R_lt (by (with_reducible repeat (first | apply Kd.R_alloc | apply Kd.R_drewN | apply Kd.R_drew));exact (Kd.R_mono (Kd.R_far (p:=⟨gb307,0,none⟩) (Kd.R_types HO306.out BK307.out (by decide)) (fun _ hk=>hk.2) (.slice Ao16 t301.length co16)) (fun _ h_=>h_.1))))) (below_size (hs1 HB GE307)));have n3_:=Aside0.mk (blk_below (g:=gb307) (o:=.cells #[.slice Ao16 t301.length co16] 26 (0,0)) (by (with_reducible repeat (first | refine blk_drewN ?_ _ | refine blk_drew ?_ | refine blk_alloc ?_ _));refine blk_put (cs:=#[.slice none 0 0]) ?_ 0 _ rfl;(with_reducible repeat (first | refine blk_drewN ?_ _ | refine blk_drew ?_ | refine blk_alloc ?_ _));exact BK307.out) hb);have n4_:=Aside0.mk (below_step (hs1 HB GE307) hb);clear HO303;clear HO306;clear BK307;clear HB;have HO303:=n0_;have HO306:=n1_;have HO310:=n2_;have BK307:=n3_;have HB:=n4_;clear n0_ n1_ n2_ n3_ n4_;(try clear hb);(try clear hb2);(try clear hk);(try clear hi);(try clear ho0);obtain ⟨Ao19,co19,eo19⟩:=Kd.R_slice HO310.out;subst eo19;have p311 : 0 ≤ (0 : Int):=(by omega);have q311 : 0 < (t308.length : Int):=of_decide_eq_true (by first | (with_reducible assumption) | assumption);obtain ⟨ad311,e311,hx311_0⟩:=Kd.at_int (Kd.R_reads' HO310.out).2.2 0 p311 q311;cases e311;have qi311 : (0 < t308.length) = True:=eq_true (by omega);(try rw [show ((0 : Int)).toNat = 0 from rfl] at hx311_0);(try rw [Addr.add_zero'] at hx311_0);replace p311:=eq_true p311;replace q311:=eq_true q311;obtain ⟨Ao20,co20,eo20⟩:=Kd.R_slice HO306.out;subst eo20;have p312 : 0 ≤ ((ji8) : Int):=of_decide_eq_true (by first | (with_reducible assumption) | assumption);have q312 : (ji8) < (t304.length : Int):=of_decide_eq_true (by first | (with_reducible assumption) | assumption);obtain ⟨ad312,e312,hx312_0⟩:=Kd.at_int (Kd.R_reads' HO306.out).2.2 (ji8) p312 q312;cases e312;replace p312:=eq_true p312;replace q312:=eq_true q312;have p313 : 0 ≤ (1 : Int):=(by omega);have q313 : 1 < (t308.length : Int):=of_decide_eq_true (by first | (with_reducible assumption) | assumption);obtain ⟨ad313,e313,hx313_0⟩:=Kd.at_int (Kd.R_reads' HO310.out).2.2 1 p313 q313;obtain rfl : ad311 = ad313:=(by injection e313);(try simp only [show (1 : Int).toNat = 1 from rfl,Nat.reduceMul,Nat.reduceEqDiff,Go.Addr.add,↓reduceIte] at hx313_0);have qi313 : (1 < t308.length) = True:=eq_true (by omega);(try rw [show ((1 : Int)).toNat = 1 from rfl] at hx313_0);replace p313:=eq_true p313;replace q313:=eq_true q313;have hcz21_0 : w18.cell? ⟨gb307,0,none⟩ = some (.slice Ao16 t301.length co16):=(blk_cell BK307.out 0).trans rfl;have hfz21_0:=blk_frozen BK307.out 0) | ((with_reducible refine gate_callee (f:=9) rfl ?_);refine goesL_ (some 38) rfl rfl Try.func9 (by kernel_rfl) rfl #[.agg #[.slice Ao16 t301.length co16],.int .i64 (rd t304 (ji8)),.int .i64 (Int.tmod (rd t308 1) 16),.int .i64 77] rfl (by (try simp only [List.map_toArray,List.map_cons,List.map_nil]);first | done | (simp only [hji8];rfl) | rfl | (simp only [List.length_drop,List.length_take];rfl)) ?_;(with_reducible refine (impl_PutAt.calls k _ _ t301 (rd t304 (ji8)) (Int.tmod (rd t308 1) 16) 77 t314 t317 _ ?side1 ?side2 A12.out).mono ?_);(case side1=>repeat (first | exact (Kd.S_reads' HO303.out).2.2 | (with_reducible refine Kd.C_alloc ?_ _) | (with_reducible refine Kd.C_drewN ?_ _) | (with_reducible refine Kd.C_drew ?_)));(case side2=>exact (Kd.S_reads' HO303.out).2.1);rintro e w22 ⟨v315,rfl,ho0,hb⟩;refine ⟨_,rfl,?_⟩;have n0_:=Aside0.mk (Kd.S_elder' (ss HO303) (Kd.S_base ho0) hb);have n1_:=Aside0.mk (Kd.R_below (rs HO306) hb);have n2_:=Aside0.mk (Kd.R_below (rs HO310) hb);have n3_:=Aside0.mk (Kd.S_lower (Kd.S_new' (Kd.S_new' (Kd.S_new' ho0 (Kd.S_lt (ss HO303))) (Kd.R_lt (rs HO306))) (Kd.R_lt (rs HO310))) (below_size (hs1 HB GE307)));have n4_:=Aside0.mk (blk_below (g:=gb307) (o:=.cells #[.slice Ao16 t301.length co16] 26 (0,0)) (bs BK307) hb);have n5_:=Aside0.mk (below_step (hs1 HB GE307) hb);clear HO303;clear HO306;clear HO310;clear BK307;clear HB;have HO303:=n0_;have HO306:=n1_;have HO310:=n2_;have HO316:=n3_;have BK307:=n4_;have HB:=n5_;clear n0_ n1_ n2_ n3_ n4_ n5_;(try clear hb);(try clear hb2);(try clear hk);(try clear hi);(try clear ho0)) | ((with_reducible refine gate_dst (N:=8) rfl ?_);refine box_event ?hg (N:=8) ?hd (cs:=#[.slice none 0 0]) (t:=26) ?hr ?_;(case hd=>rfl);(case hg=>rfl);(case hr=>first | (go_simp;done) | (go_simp;rfl));intro gb318 hg w23 hbox hb;have n0_:=Aside0.mk (Kd.S_below (ss HO303) hb);have n1_:=Aside0.mk (Kd.R_below (rs HO306) hb);have n2_:=Aside0.mk (Kd.R_below (rs HO310) hb);have n3_:=Aside0.mk (Kd.S_below (ss HO316) hb);have n4_:=Aside0.mk (blk_below (g:=gb307) (o:=.cells #[.slice Ao16 t301.length co16] 26 (0,0)) (bs BK307) hb);have n5_:=Aside0.mk (below_step (hs1 HB GE307) hb);have n6_:=Aside0.mk (hbox);have n7_:=Aside0.mk ((by rw [hg];exact (below_size (hs1 HB GE307)) : w.heap.size ≤ gb318));have n8_:=Aside0.mk ((by rw [hg];exact (below_size (hs1 HB GE307)) : w.heap.size ≤ gb318));have n9_:=Aside0.mk ((by rw [hg];exact Nat.ne_of_lt (blk_lt (g:=gb307) (o:=.cells #[.slice Ao16 t301.length co16] 26 (0,0)) (bs BK307)) : gb307 ≠ gb318));have n10_:=Aside0.mk ((by rw [hg];exact Nat.ne_of_gt (blk_lt (g:=gb307) (o:=.cells #[.slice Ao16 t301.length co16] 26 (0,0)) (bs BK307)) : gb318 ≠ gb307));clear HO303;clear HO306;clear HO310;clear HO316;clear BK307;clear HB;have HO303:=n0_;have HO306:=n1_;have HO310:=n2_;have HO316:=n3_;have BK307:=n4_;have HB:=n5_;have BK318:=n6_;have GW318:=n7_;have GE318:=n8_;have NB307_318:=n9_;have NB318_307:=n10_;clear n0_ n1_ n2_ n3_ n4_ n5_ n6_ n7_ n8_ n9_ n10_;clear hb hbox hg;obtain ⟨Ao24,co24,eo24⟩:=Kd.S_slice HO316.out;subst eo24;have hnb25:=NB318_307.out;have hnc25:=NB307_318.out;have hcz26_0 : w23.cell? ⟨gb318,0,none⟩ = some (.slice none 0 0):=(blk_cell BK318.out 0).trans rfl;have hfz26_0:=blk_frozen BK318.out 0))
     (try simp only [Act.put,List.setIfInBounds_toArray,List.set_cons_zero,List.set_cons_succ])
     go_cut [55] (fun v55 wc=>∃ (kq : Nat) (x55_12 : Bool),v55 = .bool x55_12 ∧ Aside0 (laws_FnTrees.j0 kq t304 (rd t304 (ji8)) (Int.tmod (rd t308 1) 16) t317 x55_12 t301 t314 = some r) ∧ Aside0 (kq ≤ k) ∧ Aside0 (Kd.R (Kd.int .i64) 3 wc w.heap.size (fun _=>True) (.slice (some ad312) t304.length co20) t304) ∧ Aside0 (Kd.S k47 47 wc w.heap.size (fun k_=>some k_ ≠ ((.slice (some ad312) t304.length co20) : Value).ownBlock ∧ some k_ ≠ ((.slice Ao24 t314.length co24) : Value).ownBlock) (.slice Ao16 t301.length co16) t301) ∧ Aside0 (Kd.S k47 47 wc w.heap.size (fun k_=>some k_ ≠ ((.slice (some ad312) t304.length co20) : Value).ownBlock ∧ some k_ ≠ ((.slice Ao16 t301.length co16) : Value).ownBlock) (.slice Ao24 t314.length co24) t314) ∧ Aside0 (wc.heap[gb307]? = some (.cells #[(.slice Ao16 t301.length co16)] 26 (0,0))) ∧ Aside0 (wc.heap[gb318]? = some (.cells #[(.slice Ao24 t314.length co24)] 26 (0,0))) ∧ Aside0 (Below w.heap.size w wc))
     case first =>
      have H:=HC13.out;clear HC13;replace H:=Option.bind_eq_some_iff.mp H;obtain ⟨t319,A270,H⟩:=H;replace H : (if t319 = true then ((impl_ArenaOk.f k t314).bind fun t320=>(if t320 = true then ((impl_GetAt.f k t314 t317 (Int.tmod (rd t308 1) 16)).bind fun t321=>(laws_FnTrees.j0 k t304 (rd t304 (ji8)) (Int.tmod (rd t308 1) 16) t317 (t321 != 77) t301 t314)) else (laws_FnTrees.j0 k t304 (rd t304 (ji8)) (Int.tmod (rd t308 1) 16) t317 true t301 t314))) else (laws_FnTrees.j0 k t304 (rd t304 (ji8)) (Int.tmod (rd t308 1) 16) t317 true t301 t314)) = some r:=H;have A27:=Aside0.mk A270;clear A270
      by_cases c28 : t319 = true
      ·subst c28;have H1 : ((impl_ArenaOk.f k t314).bind fun t320=>(if t320 = true then ((impl_GetAt.f k t314 t317 (Int.tmod (rd t308 1) 16)).bind fun t321=>(laws_FnTrees.j0 k t304 (rd t304 (ji8)) (Int.tmod (rd t308 1) 16) t317 (t321 != 77) t301 t314)) else (laws_FnTrees.j0 k t304 (rd t304 (ji8)) (Int.tmod (rd t308 1) 16) t317 true t301 t314))) = some r:=by rw [if_pos rfl] at H;exact H
       clear H;have H:=H1;clear H1;replace H:=Option.bind_eq_some_iff.mp H;obtain ⟨t320,A290,H⟩:=H;replace H : (if t320 = true then ((impl_GetAt.f k t314 t317 (Int.tmod (rd t308 1) 16)).bind fun t321=>(laws_FnTrees.j0 k t304 (rd t304 (ji8)) (Int.tmod (rd t308 1) 16) t317 (t321 != 77) t301 t314)) else (laws_FnTrees.j0 k t304 (rd t304 (ji8)) (Int.tmod (rd t308 1) 16) t317 true t301 t314)) = some r:=H;have A29:=Aside0.mk A290;clear A290
       by_cases c30 : t320 = true
       ·subst c30;have H1 : ((impl_GetAt.f k t314 t317 (Int.tmod (rd t308 1) 16)).bind fun t321=>(laws_FnTrees.j0 k t304 (rd t304 (ji8)) (Int.tmod (rd t308 1) 16) t317 (t321 != 77) t301 t314)) = some r:=by rw [if_pos rfl] at H;exact H
        clear H;have H:=H1;clear H1;replace H:=Option.bind_eq_some_iff.mp H;obtain ⟨t321,A310,H⟩:=H;replace H : (laws_FnTrees.j0 k t304 (rd t304 (ji8)) (Int.tmod (rd t308 1) 16) t317 (t321 != 77) t301 t314) = some r:=H;have A31:=Aside0.mk A310;clear A310;have H':=Aside0.mk H;clear H;have hnb32:=NB307_318.out;have hnc32:=NB318_307.out;have hcz33_0 : w23.cell? ⟨gb307,0,none⟩ = some (.slice Ao16 t301.length co16):=(blk_cell BK307.out 0).trans rfl;have hfz33_0:=blk_frozen BK307.out 0;go_wp2_with (first | ((with_reducible refine gate_callee (f:=10) rfl ?_);refine goesL_ (some 42) rfl rfl Try.func10 (by kernel_rfl) rfl #[.agg #[.slice Ao16 t301.length co16]] rfl (by (try simp only [List.map_toArray,List.map_cons,List.map_nil]);first | done | rfl | (simp only [List.length_drop,List.length_take];rfl)) ?_;(with_reducible refine (impl_ArenaOk.calls k _ _ t301 true _ ?side1 ?side2 A27.out).mono ?_);(case side1=>refine (Kd.S_reads' (e:=47) (base:=w.heap.size) (ok:=fun k_=>((some k_ ≠ (.slice (some ad312) t304.length co20 : Value).ownBlock ∧ some k_ ≠ (.slice (some ad311) t308.length co19 : Value).ownBlock) ∧ some k_ ≠ (.slice Ao24 t314.length co24 : Value).ownBlock)) (n:=t301.length) (c:=co16) ?_).2.2;exact (by (with_reducible repeat (first | apply Kd.S_alloc | apply Kd.S_drewN | apply Kd.S_drew));exact (Kd.S_mono (Kd.S_far (p:=⟨gb318,0,none⟩) (Kd.S_types HO303.out BK318.out (by decide)) (fun _ hk=>hk.2) (.slice Ao24 t314.length co24)) (fun _ h_=>h_.1))));(case side2=>exact (Kd.S_reads' HO303.out).2.1);rintro e w34 ⟨rfl,hb⟩;refine ⟨_,rfl,?_⟩;have n0_:=Aside0.mk (Kd.S_below (by (with_reducible repeat (first | apply Kd.S_alloc | apply Kd.S_drewN | apply Kd.S_drew));exact (Kd.S_mono (Kd.S_far (p:=⟨gb318,0,none⟩) (Kd.S_types HO303.out BK318.out (by decide)) (fun _ hk=>hk.2) (.slice Ao24 t314.length co24)) (fun _ h_=>h_.1))) hb);have n1_:=Aside0.mk (Kd.R_below (by (with_reducible repeat (first | apply Kd.R_alloc | apply Kd.R_drewN | apply Kd.R_drew));exact (Kd.R_mono (Kd.R_far (p:=⟨gb318,0,none⟩) (Kd.R_types HO306.out BK318.out (by decide)) (fun _ hk=>hk.2) (.slice Ao24 t314.length co24)) (fun _ h_=>h_.1))) hb);have n2_:=Aside0.mk (Kd.R_below (by (with_reducible repeat (first | apply Kd.R_alloc | apply Kd.R_drewN | apply Kd.R_drew));exact (Kd.R_mono (Kd.R_far (p:=⟨gb318,0,none⟩) (Kd.R_types HO310.out BK318.out (by decide)) (fun _ hk=>hk.2) (.slice Ao24 t314.length co24)) (fun _ h_=>h_.1))) hb);have n3_:=Aside0.mk (Kd.S_below (by (with_reducible repeat (first | apply Kd.S_alloc | apply Kd.S_drewN | apply Kd.S_drew));exact (Kd.S_mono (Kd.S_far (p:=⟨gb318,0,none⟩) (Kd.S_types HO316.out BK318.out (by decide)) (fun _ hk=>hk.2) (.slice Ao24 t314.length co24)) (fun _ h_=>h_.1))) hb);have n4_:=Aside0.mk (blk_below (g:=gb307) (o:=.cells #[.slice Ao16 t301.length co16] 26 (0,0)) (by (with_reducible repeat (first | refine blk_drewN ?_ _ | refine blk_drew ?_ | refine blk_alloc ?_ _));refine blk_far ?_ NB307_318.out _;(with_reducible repeat (first | refine blk_drewN ?_ _ | refine blk_drew ?_ | refine blk_alloc ?_ _));exact BK307.out) hb);have n5_:=Aside0.mk (blk_below (g:=gb318) (o:=.cells #[.slice Ao24 t314.length co24] 26 (0,0)) (by (with_reducible repeat (first | refine blk_drewN ?_ _ | refine blk_drew ?_ | refine blk_alloc ?_ _));refine blk_put (cs:=#[.slice none 0 0]) ?_ 0 _ rfl;(with_reducible repeat (first | refine blk_drewN ?_ _ | refine blk_drew ?_ | refine blk_alloc ?_ _));exact BK318.out) hb);have n6_:=Aside0.mk (below_step (hs2 HB GE307 GE318) hb);clear HO303;clear HO306;clear HO310;clear HO316;clear BK307;clear BK318;clear HB;have HO303:=n0_;have HO306:=n1_;have HO310:=n2_;have HO316:=n3_;have BK307:=n4_;have BK318:=n5_;have HB:=n6_;clear n0_ n1_ n2_ n3_ n4_ n5_ n6_;(try clear hb);(try clear hb2);(try clear hk);(try clear hi);have hcz35_0 : w34.cell? ⟨gb318,0,none⟩ = some (.slice Ao24 t314.length co24):=(blk_cell BK318.out 0).trans rfl;have hfz35_0:=blk_frozen BK318.out 0) | (go_at_call 10;(with_reducible refine (impl_ArenaOk.calls k _ _ t314 true _ ?side1 ?side2 A29.out).mono ?_);(case side1=>repeat (first | exact (Kd.S_reads' HO316.out).2.2 | (with_reducible refine Kd.C_alloc ?_ _) | (with_reducible refine Kd.C_drewN ?_ _) | (with_reducible refine Kd.C_drew ?_)));(case side2=>exact (Kd.S_reads' HO316.out).2.1);rintro e w36 ⟨rfl,hb⟩;have n0_:=Aside0.mk (Kd.S_below (ss HO303) hb);have n1_:=Aside0.mk (Kd.R_below (rs HO306) hb);have n2_:=Aside0.mk (Kd.R_below (rs HO310) hb);have n3_:=Aside0.mk (Kd.S_below (ss HO316) hb);have n4_:=Aside0.mk (blk_below (g:=gb307) (o:=.cells #[.slice Ao16 t301.length co16] 26 (0,0)) (bs BK307) hb);have n5_:=Aside0.mk (blk_below (g:=gb318) (o:=.cells #[.slice Ao24 t314.length co24] 26 (0,0)) (bs BK318) hb);have n6_:=Aside0.mk (below_step (hs2 HB GE307 GE318) hb);clear HO303;clear HO306;clear HO310;clear HO316;clear BK307;clear BK318;clear HB;have HO303:=n0_;have HO306:=n1_;have HO310:=n2_;have HO316:=n3_;have BK307:=n4_;have BK318:=n5_;have HB:=n6_;clear n0_ n1_ n2_ n3_ n4_ n5_ n6_;(try clear hb);(try clear hb2);(try clear hk);(try clear hi);have hcz37_0 : w36.cell? ⟨gb318,0,none⟩ = some (.slice Ao24 t314.length co24):=(blk_cell BK318.out 0).trans rfl;have hfz37_0:=blk_frozen BK318.out 0) | (go_at_call 11;(with_reducible refine (impl_GetAt.calls k _ _ t314 t317 (Int.tmod (rd t308 1) 16) t321 _ ?side1 ?side2 A31.out).mono ?_);(case side1=>repeat (first | exact (Kd.S_reads' HO316.out).2.2 | (with_reducible refine Kd.C_alloc ?_ _) | (with_reducible refine Kd.C_drewN ?_ _) | (with_reducible refine Kd.C_drew ?_)));(case side2=>exact (Kd.S_reads' HO316.out).2.1);rintro e w38 ⟨rfl,hb⟩;have n0_:=Aside0.mk (Kd.S_below (ss HO303) hb);have n1_:=Aside0.mk (Kd.R_below (rs HO306) hb);have n2_:=Aside0.mk (Kd.R_below (rs HO310) hb);have n3_:=Aside0.mk (Kd.S_below (ss HO316) hb);have n4_:=Aside0.mk (blk_below (g:=gb307) (o:=.cells #[.slice Ao16 t301.length co16] 26 (0,0)) (bs BK307) hb);have n5_:=Aside0.mk (blk_below (g:=gb318) (o:=.cells #[.slice Ao24 t314.length co24] 26 (0,0)) (bs BK318) hb);have n6_:=Aside0.mk (below_step (hs2 HB GE307 GE318) hb);clear HO303;clear HO306;clear HO310;clear HO316;clear BK307;clear BK318;clear HB;have HO303:=n0_;have HO306:=n1_;have HO310:=n2_;have HO316:=n3_;have BK307:=n4_;have BK318:=n5_;have HB:=n6_;clear n0_ n1_ n2_ n3_ n4_ n5_ n6_;(try clear hb);(try clear hb2);(try clear hk);(try clear hi)))
        go_meet
        case rel=>exact ⟨_,((t321 != 77)),(by first | rfl | (simp;done) | (simp [*];done)),H',⟨by first | omega | exact Nat.le_refl _⟩,⟨by (with_reducible repeat (first | apply Kd.R_alloc | apply Kd.R_drewN | apply Kd.R_drew));exact Kd.R_mono HO306.out (fun _ hk=>trivial)⟩,⟨by (with_reducible repeat (first | apply Kd.S_alloc | apply Kd.S_drewN | apply Kd.S_drew));exact Kd.S_mono HO303.out (fun _ hk=>⟨hk.1.1,hk.2⟩)⟩,⟨by (with_reducible repeat (first | apply Kd.S_alloc | apply Kd.S_drewN | apply Kd.S_drew));exact Kd.S_mono HO316.out (fun _ hk=>⟨hk.1.2,hk.1.1.2⟩)⟩,⟨bs BK307⟩,⟨bs BK318⟩,⟨hs2 HB GE307 GE318⟩⟩
       replace c30:=Bool.eq_false_iff.mpr c30;subst c30;have H1 : (laws_FnTrees.j0 k t304 (rd t304 (ji8)) (Int.tmod (rd t308 1) 16) t317 true t301 t314) = some r:=by rw [if_neg (show ¬ (false = true) by decide)] at H;exact H
       clear H;have H:=H1;clear H1;have H':=Aside0.mk H;clear H;have hnb39:=NB307_318.out;have hnc39:=NB318_307.out;have hcz40_0 : w23.cell? ⟨gb307,0,none⟩ = some (.slice Ao16 t301.length co16):=(blk_cell BK307.out 0).trans rfl;have hfz40_0:=blk_frozen BK307.out 0;go_wp2_with (first | ((with_reducible refine gate_callee (f:=10) rfl ?_);refine goesL_ (some 42) rfl rfl Try.func10 (by kernel_rfl) rfl #[.agg #[.slice Ao16 t301.length co16]] rfl (by (try simp only [List.map_toArray,List.map_cons,List.map_nil]);first | done | rfl | (simp only [List.length_drop,List.length_take];rfl)) ?_;(with_reducible refine (impl_ArenaOk.calls k _ _ t301 true _ ?side1 ?side2 A27.out).mono ?_);(case side1=>refine (Kd.S_reads' (e:=47) (base:=w.heap.size) (ok:=fun k_=>((some k_ ≠ (.slice (some ad312) t304.length co20 : Value).ownBlock ∧ some k_ ≠ (.slice (some ad311) t308.length co19 : Value).ownBlock) ∧ some k_ ≠ (.slice Ao24 t314.length co24 : Value).ownBlock)) (n:=t301.length) (c:=co16) ?_).2.2;exact (by (with_reducible repeat (first | apply Kd.S_alloc | apply Kd.S_drewN | apply Kd.S_drew));exact (Kd.S_mono (Kd.S_far (p:=⟨gb318,0,none⟩) (Kd.S_types HO303.out BK318.out (by decide)) (fun _ hk=>hk.2) (.slice Ao24 t314.length co24)) (fun _ h_=>h_.1))));(case side2=>exact (Kd.S_reads' HO303.out).2.1);rintro e w41 ⟨rfl,hb⟩;refine ⟨_,rfl,?_⟩;have n0_:=Aside0.mk (Kd.S_below (by (with_reducible repeat (first | apply Kd.S_alloc | apply Kd.S_drewN | apply Kd.S_drew));exact (Kd.S_mono (Kd.S_far (p:=⟨gb318,0,none⟩) (Kd.S_types HO303.out BK318.out (by decide)) (fun _ hk=>hk.2) (.slice Ao24 t314.length co24)) (fun _ h_=>h_.1))) hb);have n1_:=Aside0.mk (Kd.R_below (by (with_reducible repeat (first | apply Kd.R_alloc | apply Kd.R_drewN | apply Kd.R_drew));exact (Kd.R_mono (Kd.R_far (p:=⟨gb318,0,none⟩) (Kd.R_types HO306.out BK318.out (by decide)) (fun _ hk=>hk.2) (.slice Ao24 t314.length co24)) (fun _ h_=>h_.1))) hb);have n2_:=Aside0.mk (Kd.R_below (by (with_reducible repeat (first | apply Kd.R_alloc | apply Kd.R_drewN | apply Kd.R_drew));exact (Kd.R_mono (Kd.R_far (p:=⟨gb318,0,none⟩) (Kd.R_types HO310.out BK318.out (by decide)) (fun _ hk=>hk.2) (.slice Ao24 t314.length co24)) (fun _ h_=>h_.1))) hb);have n3_:=Aside0.mk (Kd.S_below (by (with_reducible repeat (first | apply Kd.S_alloc | apply Kd.S_drewN | apply Kd.S_drew));exact (Kd.S_mono (Kd.S_far (p:=⟨gb318,0,none⟩) (Kd.S_types HO316.out BK318.out (by decide)) (fun _ hk=>hk.2) (.slice Ao24 t314.length co24)) (fun _ h_=>h_.1))) hb);have n4_:=Aside0.mk (blk_below (g:=gb307) (o:=.cells #[.slice Ao16 t301.length co16] 26 (0,0)) (by (with_reducible repeat (first | refine blk_drewN ?_ _ | refine blk_drew ?_ | refine blk_alloc ?_ _));refine blk_far ?_ NB307_318.out _;(with_reducible repeat (first | refine blk_drewN ?_ _ | refine blk_drew ?_ | refine blk_alloc ?_ _));exact BK307.out) hb);have n5_:=Aside0.mk (blk_below (g:=gb318) (o:=.cells #[.slice Ao24 t314.length co24] 26 (0,0)) (by (with_reducible repeat (first | refine blk_drewN ?_ _ | refine blk_drew ?_ | refine blk_alloc ?_ _));refine blk_put (cs:=#[.slice none 0 0]) ?_ 0 _ rfl;(with_reducible repeat (first | refine blk_drewN ?_ _ | refine blk_drew ?_ | refine blk_alloc ?_ _));exact BK318.out) hb);have n6_:=Aside0.mk (below_step (hs2 HB GE307 GE318) hb);clear HO303;clear HO306;clear HO310;clear HO316;clear BK307;clear BK318;clear HB;have HO303:=n0_;have HO306:=n1_;have HO310:=n2_;have HO316:=n3_;have BK307:=n4_;have BK318:=n5_;have HB:=n6_;clear n0_ n1_ n2_ n3_ n4_ n5_ n6_;(try clear hb);(try clear hb2);(try clear hk);(try clear hi);have hcz42_0 : w41.cell? ⟨gb318,0,none⟩ = some (.slice Ao24 t314.length co24):=(blk_cell BK318.out 0).trans rfl;have hfz42_0:=blk_frozen BK318.out 0) | (go_at_call 10;(with_reducible refine (impl_ArenaOk.calls k _ _ t314 false _ ?side1 ?side2 A29.out).mono ?_);(case side1=>repeat (first | exact (Kd.S_reads' HO316.out).2.2 | (with_reducible refine Kd.C_alloc ?_ _) | (with_reducible refine Kd.C_drewN ?_ _) | (with_reducible refine Kd.C_drew ?_)));(case side2=>exact (Kd.S_reads' HO316.out).2.1);rintro e w43 ⟨rfl,hb⟩;have n0_:=Aside0.mk (Kd.S_below (ss HO303) hb);have n1_:=Aside0.mk (Kd.R_below (rs HO306) hb);have n2_:=Aside0.mk (Kd.R_below (rs HO310) hb);have n3_:=Aside0.mk (Kd.S_below (ss HO316) hb);have n4_:=Aside0.mk (blk_below (g:=gb307) (o:=.cells #[.slice Ao16 t301.length co16] 26 (0,0)) (bs BK307) hb);have n5_:=Aside0.mk (blk_below (g:=gb318) (o:=.cells #[.slice Ao24 t314.length co24] 26 (0,0)) (bs BK318) hb);have n6_:=Aside0.mk (below_step (hs2 HB GE307 GE318) hb);clear HO303;clear HO306;clear HO310;clear HO316;clear BK307;clear BK318;clear HB;have HO303:=n0_;have HO306:=n1_;have HO310:=n2_;have HO316:=n3_;have BK307:=n4_;have BK318:=n5_;have HB:=n6_;clear n0_ n1_ n2_ n3_ n4_ n5_ n6_;(try clear hb);(try clear hb2);(try clear hk);(try clear hi)))
       go_meet
       case rel=>exact ⟨_,(true),(by first | rfl | (simp;done) | (simp [*];done)),H',⟨by first | omega | exact Nat.le_refl _⟩,⟨by (with_reducible repeat (first | apply Kd.R_alloc | apply Kd.R_drewN | apply Kd.R_drew));exact Kd.R_mono HO306.out (fun _ hk=>trivial)⟩,⟨by (with_reducible repeat (first | apply Kd.S_alloc | apply Kd.S_drewN | apply Kd.S_drew));exact Kd.S_mono HO303.out (fun _ hk=>⟨hk.1.1,hk.2⟩)⟩,⟨by (with_reducible repeat (first | apply Kd.S_alloc | apply Kd.S_drewN | apply Kd.S_drew));exact Kd.S_mono HO316.out (fun _ hk=>⟨hk.1.2,hk.1.1.2⟩)⟩,⟨bs BK307⟩,⟨bs BK318⟩,⟨hs2 HB GE307 GE318⟩⟩
      replace c28:=Bool.eq_false_iff.mpr c28;subst c28;have H1 : (laws_FnTrees.j0 k t304 (rd t304 (ji8)) (Int.tmod (rd t308 1) 16) t317 true t301 t314) = some r:=by rw [if_neg (show ¬ (false = true) by decide)] at H;exact H
      clear H;have H:=H1;clear H1;have H':=Aside0.mk H;clear H;have hnb44:=NB307_318.out;have hnc44:=NB318_307.out;have hcz45_0 : w23.cell? ⟨gb307,0,none⟩ = some (.slice Ao16 t301.length co16):=(blk_cell BK307.out 0).trans rfl;have hfz45_0:=blk_frozen BK307.out 0;go_wp2_with (first | ((with_reducible refine gate_callee (f:=10) rfl ?_);refine goesL_ (some 42) rfl rfl Try.func10 (by kernel_rfl) rfl #[.agg #[.slice Ao16 t301.length co16]] rfl (by (try simp only [List.map_toArray,List.map_cons,List.map_nil]);first | done | rfl | (simp only [List.length_drop,List.length_take];rfl)) ?_;(with_reducible refine (impl_ArenaOk.calls k _ _ t301 false _ ?side1 ?side2 A27.out).mono ?_);(case side1=>refine (Kd.S_reads' (e:=47) (base:=w.heap.size) (ok:=fun k_=>((some k_ ≠ (.slice (some ad312) t304.length co20 : Value).ownBlock ∧ some k_ ≠ (.slice (some ad311) t308.length co19 : Value).ownBlock) ∧ some k_ ≠ (.slice Ao24 t314.length co24 : Value).ownBlock)) (n:=t301.length) (c:=co16) ?_).2.2;exact (by (with_reducible repeat (first | apply Kd.S_alloc | apply Kd.S_drewN | apply Kd.S_drew));exact (Kd.S_mono (Kd.S_far (p:=⟨gb318,0,none⟩) (Kd.S_types HO303.out BK318.out (by decide)) (fun _ hk=>hk.2) (.slice Ao24 t314.length co24)) (fun _ h_=>h_.1))));(case side2=>exact (Kd.S_reads' HO303.out).2.1);rintro e w46 ⟨rfl,hb⟩;refine ⟨_,rfl,?_⟩;have n0_:=Aside0.mk (Kd.S_below (by (with_reducible repeat (first | apply Kd.S_alloc | apply Kd.S_drewN | apply Kd.S_drew));exact (Kd.S_mono (Kd.S_far (p:=⟨gb318,0,none⟩) (Kd.S_types HO303.out BK318.out (by decide)) (fun _ hk=>hk.2) (.slice Ao24 t314.length co24)) (fun _ h_=>h_.1))) hb);have n1_:=Aside0.mk (Kd.R_below (by (with_reducible repeat (first | apply Kd.R_alloc | apply Kd.R_drewN | apply Kd.R_drew));exact (Kd.R_mono (Kd.R_far (p:=⟨gb318,0,none⟩) (Kd.R_types HO306.out BK318.out (by decide)) (fun _ hk=>hk.2) (.slice Ao24 t314.length co24)) (fun _ h_=>h_.1))) hb);have n2_:=Aside0.mk (Kd.R_below (by (with_reducible repeat (first | apply Kd.R_alloc | apply Kd.R_drewN | apply Kd.R_drew));exact (Kd.R_mono (Kd.R_far (p:=⟨gb318,0,none⟩) (Kd.R_types HO310.out BK318.out (by decide)) (fun _ hk=>hk.2) (.slice Ao24 t314.length co24)) (fun _ h_=>h_.1))) hb);have n3_:=Aside0.mk (Kd.S_below (by (with_reducible repeat (first | apply Kd.S_alloc | apply Kd.S_drewN | apply Kd.S_drew));exact (Kd.S_mono (Kd.S_far (p:=⟨gb318,0,none⟩) (Kd.S_types HO316.out BK318.out (by decide)) (fun _ hk=>hk.2) (.slice Ao24 t314.length co24)) (fun _ h_=>h_.1))) hb);have n4_:=Aside0.mk (blk_below (g:=gb307) (o:=.cells #[.slice Ao16 t301.length co16] 26 (0,0)) (by (with_reducible repeat (first | refine blk_drewN ?_ _ | refine blk_drew ?_ | refine blk_alloc ?_ _));refine blk_far ?_ NB307_318.out _;(with_reducible repeat (first | refine blk_drewN ?_ _ | refine blk_drew ?_ | refine blk_alloc ?_ _));exact BK307.out) hb);have n5_:=Aside0.mk (blk_below (g:=gb318) (o:=.cells #[.slice Ao24 t314.length co24] 26 (0,0)) (by (with_reducible repeat (first | refine blk_drewN ?_ _ | refine blk_drew ?_ | refine blk_alloc ?_ _));refine blk_put (cs:=#[.slice none 0 0]) ?_ 0 _ rfl;(with_reducible repeat (first | refine blk_drewN ?_ _ | refine blk_drew ?_ | refine blk_alloc ?_ _));exact BK318.out) hb);have n6_:=Aside0.mk (below_step (hs2 HB GE307 GE318) hb);clear HO303;clear HO306;clear HO310;clear HO316;clear BK307;clear BK318;clear HB;have HO303:=n0_;have HO306:=n1_;have HO310:=n2_;have HO316:=n3_;have BK307:=n4_;have BK318:=n5_;have HB:=n6_;clear n0_ n1_ n2_ n3_ n4_ n5_ n6_;(try clear hb);(try clear hb2);(try clear hk);(try clear hi)))
      go_meet
      case rel=>exact ⟨_,(true),(by first | rfl | (simp;done) | (simp [*];done)),H',⟨by first | omega | exact Nat.le_refl _⟩,⟨by (with_reducible repeat (first | apply Kd.R_alloc | apply Kd.R_drewN | apply Kd.R_drew));exact Kd.R_mono HO306.out (fun _ hk=>trivial)⟩,⟨by (with_reducible repeat (first | apply Kd.S_alloc | apply Kd.S_drewN | apply Kd.S_drew));exact Kd.S_mono HO303.out (fun _ hk=>⟨hk.1.1,hk.2⟩)⟩,⟨by (with_reducible repeat (first | apply Kd.S_alloc | apply Kd.S_drewN | apply Kd.S_drew));exact Kd.S_mono HO316.out (fun _ hk=>⟨hk.1.2,hk.1.1.2⟩)⟩,⟨bs BK307⟩,⟨bs BK318⟩,⟨hs2 HB GE307 GE318⟩⟩
     case rest =>
      clear HC13
      try clear c1
      try clear c2
      try clear p2
      try clear c3
      try clear p3
      try clear q3
      try clear hx3
      try clear qi3
      try clear c4
      try clear c6
      try clear c6b0
      try clear c6b1
      try clear c7
      try clear c7b0
      try clear c7b1
      try clear c7b2
      try clear c8
      try clear c9
      try clear c9b0
      try clear c10
      try clear c10b0
      try clear c11
      try clear c11b0
      try clear c11b1
      try clear c25
      try clear c28
      try clear c30
      try clear p31
      try clear q31
      try clear hx31
      try clear qi31
      try clear c32
      try clear c39
      try clear c44
      try clear hcz17_0
      try clear hcz21_0
      try clear hcz26_0
      try clear hcz33_0
      try clear hcz35_0
      try clear hcz37_0
      try clear hcz40_0
      try clear hcz42_0
      try clear hcz45_0
      try clear hfz17_0
      try clear hfz21_0
      try clear hfz26_0
      try clear hfz33_0
      try clear hfz35_0
      try clear hfz37_0
      try clear hfz40_0
      try clear hfz42_0
      try clear hfz45_0
      try clear hx311_0
      try clear hx312_0
      try clear hx313_0
      try clear p311
      try clear p312
      try clear p313
      try clear q311
      try clear q312
      try clear q313
      obtain ⟨kq,x55_12,rfl,HA,HJ12,HO_4,HO_308000,HO_319000,BK307,BK318,HB⟩:=hcut;cases kq with
      | zero=>exact absurd HA.out (by simp [laws_FnTrees.j0])
      | succ kj12 =>
       have H:=HA.out;clear HA;simp only [laws_FnTrees.j0] at H
       by_cases c47 : x55_12 = true
       ·subst c47;have H1 : (some false) = some r:=by rw [if_pos rfl] at H;exact H
        clear H;have H:=H1;clear H1;exact absurd ((Option.some.inj H).trans hT.out) (by decide)
       replace c47:=Bool.eq_false_iff.mpr c47;subst c47;have H1 : (laws_FnTrees.l0 kj12 t304 (rd t304 (ji8)) (Int.tmod (rd t308 1) 16) t317 0 t301 t314) = some r:=by rw [if_neg (show ¬ (false = true) by decide)] at H;exact H
       clear H;have H:=H1;clear H1;have H':=Aside0.mk H;clear H
       go_wp2
       go_loopg [10] kj12 (fun kq v10 w'=>∃ (x10_2 : Int),v10 = .int .i64 x10_2 ∧ Aside0 (laws_FnTrees.l0 kq t304 (rd t304 (ji8)) (Int.tmod (rd t308 1) 16) t317 x10_2 t301 t314 = some r) ∧ Aside0 (kq ≤ kj12) ∧ Aside0 (Kd.R (Kd.int .i64) 3 w' w.heap.size (fun _=>True) (.slice (some ad312) t304.length co20) t304) ∧ Aside0 (Kd.S k47 47 w' w.heap.size (fun k_=>some k_ ≠ ((.slice (some ad312) t304.length co20) : Value).ownBlock ∧ some k_ ≠ ((.slice Ao24 t314.length co24) : Value).ownBlock) (.slice Ao16 t301.length co16) t301) ∧ Aside0 (Kd.S k47 47 w' w.heap.size (fun k_=>some k_ ≠ ((.slice (some ad312) t304.length co20) : Value).ownBlock ∧ some k_ ≠ ((.slice Ao16 t301.length co16) : Value).ownBlock) (.slice Ao24 t314.length co24) t314) ∧ Aside0 (w'.heap[gb307]? = some (.cells #[(.slice Ao16 t301.length co16)] 26 (0,0))) ∧ Aside0 (w'.heap[gb318]? = some (.cells #[(.slice Ao24 t314.length co24)] 26 (0,0))) ∧ Aside0 (Below w.heap.size w w'));case atStart=>exact ⟨(0),(by first | rfl | (simp;done) | (simp [*];done)),H',⟨Nat.le_refl _⟩,⟨rs HO_4⟩,⟨ss HO_308000⟩,⟨ss HO_319000⟩,⟨bs BK307⟩,⟨bs BK318⟩,⟨hs2 HB GE307 GE318⟩⟩
       case round =>
        clear H'
        try clear c1
        try clear c2
        try clear p2
        try clear c3
        try clear p3
        try clear q3
        try clear hx3
        try clear qi3
        try clear c4
        try clear c6
        try clear c6b0
        try clear c6b1
        try clear c7
        try clear c7b0
        try clear c7b1
        try clear c7b2
        try clear c8
        try clear c9
        try clear c9b0
        try clear c10
        try clear c10b0
        try clear c11
        try clear c11b0
        try clear c11b1
        try clear c25
        try clear c28
        try clear c30
        try clear p31
        try clear q31
        try clear hx31
        try clear qi31
        try clear c32
        try clear c39
        try clear c44
        try clear c47
        try clear hcz17_0
        try clear hcz21_0
        try clear hcz26_0
        try clear hcz33_0
        try clear hcz35_0
        try clear hcz37_0
        try clear hcz40_0
        try clear hcz42_0
        try clear hcz45_0
        try clear hfz17_0
        try clear hfz21_0
        try clear hfz26_0
        try clear hfz33_0
        try clear hfz35_0
        try clear hfz37_0
        try clear hfz40_0
        try clear hfz42_0
        try clear hfz45_0
        try clear hx311_0
        try clear hx312_0
        try clear hx313_0
        try clear p2
        try clear p3
        try clear p31
        try clear p311
        try clear p312
        try clear p313
        try clear q3
        try clear q31
        try clear q311
        try clear q312
        try clear q313
        obtain ⟨x10_2,rfl,HA,HK2,HO_4,HO_308000,HO_319000,BK307,BK318,HB⟩:=hrel;cases gk with
        | zero=>exact absurd HA.out (by simp [laws_FnTrees.l0])
        | succ k2 =>
         have H:=HA.out;clear HA;simp only [laws_FnTrees.l0] at H
         by_cases c48 : x10_2 < 16
         ·rw [if_pos c48] at H;have c48b0 : decide (x10_2 < 16) = true:=decide_eq_true c48;clear c48
          by_cases c49 : x10_2 = (Int.tmod (rd t308 1) 16)
          ·rw [if_pos c49] at H;have c49b0 : (x10_2 == (Int.tmod (rd t308 1) 16)) = true:=beq_iff_eq.mpr c49;have c49b1 : (x10_2 != (Int.tmod (rd t308 1) 16)) = false:=bne_eq_false_iff_eq.mpr c49;clear c49;have H':=Aside0.mk H;clear H
           try go_wp2
           have n0_:=Aside0.mk (Kd.R_drew HO_4.out);have n1_:=Aside0.mk (Kd.S_drew HO_308000.out);have n2_:=Aside0.mk (Kd.S_drew HO_319000.out);have n3_:=Aside0.mk (blk_drew BK307.out);have n4_:=Aside0.mk (blk_drew BK318.out);have n5_:=Aside0.mk (below_drew1 HB.out);clear HO_4;clear HO_308000;clear HO_319000;clear BK307;clear BK318;clear HB;have HO_4:=n0_;have HO_308000:=n1_;have HO_319000:=n2_;have BK307:=n3_;have BK318:=n4_;have HB:=n5_;clear n0_ n1_ n2_ n3_ n4_ n5_;refine start_ (n:=14) (S:=fun w'=>True) (ds:=[]) #[false,false,false,false,false,false,false,false,false,false,false,false,false,false] (by kernel_rfl) rfl rfl trivial (fun hHeld=>?_);refine with_tabW laws_FnTrees.tab13 laws_FnTrees.bits13 (fun HT_ HW_=>?_);generalize wr.drew = w50 at HO_4 HO_308000 HO_319000 BK307 BK318 HB hHeld ⊢;refine pure_ (i:=0) (N:=some 60) (v:=?_) (a':=?_) #[true,false,false,false,false,false,false,false,false,false,false,false,false,false] rfl rfl (any_of HT_.out (by kernel_rfl)) (fun _ _ _ h=>h) (Or.inl ⟨by rfl,?_⟩) ?_ ?_;rotate_left
           ·intro w';go_simp;with_reducible rfl
           rotate_left
           ·simp only [Act.put,List.setIfInBounds_toArray,List.set_cons_zero,List.set_cons_succ,i64_w,i32_w];rfl
           refine pure_ (i:=1) (N:=some 61) (v:=?_) (a':=?_) #[true,true,false,false,false,false,false,false,false,false,false,false,false,false] rfl rfl (any_of HT_.out (by kernel_rfl)) (fun _ _ _ h=>h) (Or.inl ⟨by rfl,?_⟩) ?_ ?_;rotate_left
           ·intro w';go_simp;with_reducible rfl
           rotate_left
           ·simp only [Act.put,List.setIfInBounds_toArray,List.set_cons_zero,List.set_cons_succ,i64_w,i32_w];rfl
           refine pure_ (i:=2) (N:=some 62) (v:=?_) (a':=?_) #[true,true,true,false,false,false,false,false,false,false,false,false,false,false] rfl rfl (any_of HT_.out (by kernel_rfl)) (fun _ _ _ h=>h) (Or.inl ⟨by rfl,?_⟩) ?_ ?_;rotate_left
           ·intro w';go_simp;with_reducible rfl
           rotate_left
           ·simp only [Act.put,List.setIfInBounds_toArray,List.set_cons_zero,List.set_cons_succ,i64_w,i32_w];rfl
           refine pure_ (i:=3) (N:=some 63) (v:=?_) (a':=?_) #[true,true,true,true,false,false,false,false,false,false,false,false,false,false] rfl rfl (any_of HT_.out (by kernel_rfl)) (fun _ _ _ h=>h) (Or.inl ⟨by rfl,?_⟩) ?_ ?_;rotate_left
           ·intro w';go_simp;with_reducible rfl
           rotate_left
           ·simp only [Act.put,List.setIfInBounds_toArray,List.set_cons_zero,List.set_cons_succ,i64_w,i32_w];rfl
           refine pure_ (i:=4) (N:=some 64) (v:=undef) (a':=?_) #[true,true,true,true,true,false,false,false,false,false,false,false,false,false] rfl rfl (any_of HT_.out (by kernel_rfl)) (fun _ _ _ h=>h) (Or.inr ⟨by rfl,rfl⟩) ?_ ?_;rotate_left
           ·simp only [Act.put,List.setIfInBounds_toArray,List.set_cons_zero,List.set_cons_succ,i64_w,i32_w];rfl
           refine pure_ (i:=5) (N:=some 65) (v:=undef) (a':=?_) #[true,true,true,true,true,true,false,false,false,false,false,false,false,false] rfl rfl (any_of HT_.out (by kernel_rfl)) (fun _ _ _ h=>h) (Or.inr ⟨by rfl,rfl⟩) ?_ ?_;rotate_left
           ·simp only [Act.put,List.setIfInBounds_toArray,List.set_cons_zero,List.set_cons_succ,i64_w,i32_w];rfl
           refine pure_ (i:=6) (N:=some 66) (v:=undef) (a':=?_) #[true,true,true,true,true,true,true,false,false,false,false,false,false,false] rfl rfl (any_of HT_.out (by kernel_rfl)) (fun _ _ _ h=>h) (Or.inr ⟨by rfl,rfl⟩) ?_ ?_;rotate_left
           ·simp only [Act.put,List.setIfInBounds_toArray,List.set_cons_zero,List.set_cons_succ,i64_w,i32_w];rfl
           refine pure_ (i:=7) (N:=some 67) (v:=undef) (a':=?_) #[true,true,true,true,true,true,true,true,false,false,false,false,false,false] rfl rfl (any_of HT_.out (by kernel_rfl)) (fun _ _ _ h=>h) (Or.inr ⟨by rfl,rfl⟩) ?_ ?_;rotate_left
           ·simp only [Act.put,List.setIfInBounds_toArray,List.set_cons_zero,List.set_cons_succ,i64_w,i32_w];rfl
           refine pure_ (i:=8) (N:=some 68) (v:=undef) (a':=?_) #[true,true,true,true,true,true,true,true,true,false,false,false,false,false] rfl rfl (any_of HT_.out (by kernel_rfl)) (fun _ _ _ h=>h) (Or.inr ⟨by rfl,rfl⟩) ?_ ?_;rotate_left
           ·simp only [Act.put,List.setIfInBounds_toArray,List.set_cons_zero,List.set_cons_succ,i64_w,i32_w];rfl
           refine pure_ (i:=9) (N:=some 69) (v:=undef) (a':=?_) #[true,true,true,true,true,true,true,true,true,true,false,false,false,false] rfl rfl (any_of HT_.out (by kernel_rfl)) (fun _ _ _ h=>h) (Or.inr ⟨by rfl,rfl⟩) ?_ ?_;rotate_left
           ·simp only [Act.put,List.setIfInBounds_toArray,List.set_cons_zero,List.set_cons_succ,i64_w,i32_w];rfl
           refine pure_ (i:=10) (N:=some 70) (v:=undef) (a':=?_) #[true,true,true,true,true,true,true,true,true,true,true,false,false,false] rfl rfl (any_of HT_.out (by kernel_rfl)) (fun _ _ _ h=>h) (Or.inr ⟨by rfl,rfl⟩) ?_ ?_;rotate_left
           ·simp only [Act.put,List.setIfInBounds_toArray,List.set_cons_zero,List.set_cons_succ,i64_w,i32_w];rfl
           refine pure_ (i:=11) (N:=some 71) (v:=undef) (a':=?_) #[true,true,true,true,true,true,true,true,true,true,true,true,false,false] rfl rfl (any_of HT_.out (by kernel_rfl)) (fun _ _ _ h=>h) (Or.inr ⟨by rfl,rfl⟩) ?_ ?_;rotate_left
           ·simp only [Act.put,List.setIfInBounds_toArray,List.set_cons_zero,List.set_cons_succ,i64_w,i32_w];rfl
           refine pure_ (i:=12) (N:=some 72) (v:=undef) (a':=?_) #[true,true,true,true,true,true,true,true,true,true,true,true,true,false] rfl rfl (any_of HT_.out (by kernel_rfl)) (fun _ _ _ h=>h) (Or.inr ⟨by rfl,rfl⟩) ?_ ?_;rotate_left
           ·simp only [Act.put,List.setIfInBounds_toArray,List.set_cons_zero,List.set_cons_succ,i64_w,i32_w];rfl
           refine pure_ (i:=13) (N:=some 73) (v:=?_) (a':=?_) #[true,true,true,true,true,true,true,true,true,true,true,true,true,true] rfl rfl (any_of HT_.out (by kernel_rfl)) (fun _ _ _ h=>h) (Or.inl ⟨by rfl,?_⟩) ?_ ?_;rotate_left
           ·intro w';go_simp;with_reducible rfl
           rotate_left
           ·simp only [Act.put,List.setIfInBounds_toArray,List.set_cons_zero,List.set_cons_succ,i64_w,i32_w];rfl
           refine done_ (done_of HT_.out (by kernel_rfl)) ?_
           try go_wp2
           go_roundg k2;case measure=>have:=HJ12.out;have:=HK2.out;omega
           case rel=>exact ⟨(wrap64 (x10_2 + 1)),(by first | rfl | (simp;done) | (simp [*];done)),H',⟨by have:=HJ12.out;have:=HK2.out;omega⟩,⟨rs HO_4⟩,⟨ss HO_308000⟩,⟨ss HO_319000⟩,⟨bs BK307⟩,⟨bs BK318⟩,⟨hs2 HB GE307 GE318⟩⟩
          rw [if_neg c49] at H;have c49b0 : (x10_2 == (Int.tmod (rd t308 1) 16)) = false:=beq_eq_false_iff_ne.mpr c49;have c49b1 : (x10_2 != (Int.tmod (rd t308 1) 16)) = true:=bne_iff_ne.mpr c49;replace H:=Option.bind_eq_some_iff.mp H;obtain ⟨t322,A510,H⟩:=H;replace H : ((spec_GetAt.f k2 t301 (rd t304 (ji8)) x10_2).bind fun t323=>(if t322 = t323 then (laws_FnTrees.l0 k2 t304 (rd t304 (ji8)) (Int.tmod (rd t308 1) 16) t317 (wrap64 (x10_2 + 1)) t301 t314) else (some false))) = some r:=H;have A51:=Aside0.mk A510;clear A510;replace H:=Option.bind_eq_some_iff.mp H;obtain ⟨t323,A520,H⟩:=H;replace H : (if t322 = t323 then (laws_FnTrees.l0 k2 t304 (rd t304 (ji8)) (Int.tmod (rd t308 1) 16) t317 (wrap64 (x10_2 + 1)) t301 t314) else (some false)) = some r:=H;have A52:=Aside0.mk A520;clear A520
          by_cases c53 : t322 = t323
          ·rw [if_pos c53] at H;have c53b0 : (t322 == t323) = true:=beq_iff_eq.mpr c53;have c53b1 : (t322 != t323) = false:=bne_eq_false_iff_eq.mpr c53;clear c53;have H':=Aside0.mk H;clear H
           try go_wp2
           have n0_:=Aside0.mk (Kd.R_drew HO_4.out);have n1_:=Aside0.mk (Kd.S_drew HO_308000.out);have n2_:=Aside0.mk (Kd.S_drew HO_319000.out);have n3_:=Aside0.mk (blk_drew BK307.out);have n4_:=Aside0.mk (blk_drew BK318.out);have n5_:=Aside0.mk (below_drew1 HB.out);clear HO_4;clear HO_308000;clear HO_319000;clear BK307;clear BK318;clear HB;have HO_4:=n0_;have HO_308000:=n1_;have HO_319000:=n2_;have BK307:=n3_;have BK318:=n4_;have HB:=n5_;clear n0_ n1_ n2_ n3_ n4_ n5_;refine start_ (n:=14) (S:=fun w'=>w'.cell? ⟨gb318,0,none⟩ = some (.slice Ao24 t314.length co24) ∧ w'.cell? ⟨gb307,0,none⟩ = some (.slice Ao16 t301.length co16)) (ds:=[]) #[false,false,false,false,false,false,false,false,false,false,false,false,false,false] (by kernel_rfl) rfl rfl ⟨(blk_cell BK318.out 0).trans rfl,(blk_cell BK307.out 0).trans rfl⟩ (fun hHeld=>?_);refine with_tabW laws_FnTrees.tab13 laws_FnTrees.bits13 (fun HT_ HW_=>?_);generalize wr.drew = w54 at HO_4 HO_308000 HO_319000 BK307 BK318 HB hHeld ⊢;refine pure_ (i:=0) (N:=some 60) (v:=?_) (a':=?_) #[true,false,false,false,false,false,false,false,false,false,false,false,false,false] rfl rfl (any_of HT_.out (by kernel_rfl)) (fun _ _ _ h=>h) (Or.inl ⟨by rfl,?_⟩) ?_ ?_;rotate_left
           ·intro w';go_simp;with_reducible rfl
           rotate_left
           ·simp only [Act.put,List.setIfInBounds_toArray,List.set_cons_zero,List.set_cons_succ,i64_w,i32_w];rfl
           refine pure_ (i:=1) (N:=some 61) (v:=?_) (a':=?_) #[true,true,false,false,false,false,false,false,false,false,false,false,false,false] rfl rfl (any_of HT_.out (by kernel_rfl)) (fun _ _ _ h=>h) (Or.inl ⟨by rfl,?_⟩) ?_ ?_;rotate_left
           ·intro w';go_simp;with_reducible rfl
           rotate_left
           ·simp only [Act.put,List.setIfInBounds_toArray,List.set_cons_zero,List.set_cons_succ,i64_w,i32_w];rfl
           refine pure_ (i:=2) (N:=some 62) (v:=?_) (a':=?_) #[true,true,true,false,false,false,false,false,false,false,false,false,false,false] rfl rfl (any_of HT_.out (by kernel_rfl)) (fun _ _ _ h=>h) (Or.inl ⟨by rfl,?_⟩) ?_ ?_;rotate_left
           ·intro w';go_simp;with_reducible rfl
           rotate_left
           ·simp only [Act.put,List.setIfInBounds_toArray,List.set_cons_zero,List.set_cons_succ,i64_w,i32_w];rfl
           refine pure_ (i:=3) (N:=some 63) (v:=?_) (a':=?_) #[true,true,true,true,false,false,false,false,false,false,false,false,false,false] rfl rfl (any_of HT_.out (by kernel_rfl)) (fun _ _ _ h=>h) (Or.inl ⟨by rfl,?_⟩) ?_ ?_;rotate_left
           ·intro w';go_simp;with_reducible rfl
           rotate_left
           ·simp only [Act.put,List.setIfInBounds_toArray,List.set_cons_zero,List.set_cons_succ,i64_w,i32_w];rfl
           refine pure_ (i:=5) (N:=some 65) (v:=?_) (a':=?_) #[true,true,true,true,false,true,false,false,false,false,false,false,false,false] rfl rfl (any_of HT_.out (by kernel_rfl)) (fun _ _ _ h=>h) (Or.inl ⟨by rfl,?_⟩) ?_ ?_;rotate_left
           ·intro w';go_simp;with_reducible rfl
           rotate_left
           ·simp only [Act.put,List.setIfInBounds_toArray,List.set_cons_zero,List.set_cons_succ,i64_w,i32_w];rfl
           refine pure_ (i:=6) (N:=some 66) (v:=?_) (a':=?_) #[true,true,true,true,false,true,true,false,false,false,false,false,false,false] rfl rfl (any_of HT_.out (by kernel_rfl)) (fun _ _ _ h=>h) (Or.inl ⟨by rfl,?_⟩) ?_ ?_;rotate_left
           ·intro w';go_simp;with_reducible rfl
           rotate_left
           ·simp only [Act.put,List.setIfInBounds_toArray,List.set_cons_zero,List.set_cons_succ,i64_w,i32_w];rfl
           refine pure_ (i:=9) (N:=some 69) (v:=?_) (a':=?_) #[true,true,true,true,false,true,true,false,false,true,false,false,false,false] rfl rfl (any_of HT_.out (by kernel_rfl)) (fun _ _ _ h=>h) (Or.inl ⟨by rfl,?_⟩) ?_ ?_;rotate_left
           ·intro w';go_simp;with_reducible rfl
           rotate_left
           ·simp only [Act.put,List.setIfInBounds_toArray,List.set_cons_zero,List.set_cons_succ,i64_w,i32_w];rfl
           refine pure_ (i:=10) (N:=some 70) (v:=?_) (a':=?_) #[true,true,true,true,false,true,true,false,false,true,true,false,false,false] rfl rfl (any_of HT_.out (by kernel_rfl)) (fun _ _ _ h=>h) (Or.inl ⟨by rfl,?_⟩) ?_ ?_;rotate_left
           ·intro w';go_simp;with_reducible rfl
           rotate_left
           ·simp only [Act.put,List.setIfInBounds_toArray,List.set_cons_zero,List.set_cons_succ,i64_w,i32_w];rfl
           refine take_ (i:=4) (N:=some 64) (v:=?_) (a':=?_) #[true,true,true,true,true,true,true,false,false,true,true,false,false,false] rfl rfl (take_ofW HT_.out HW_.out (by kernel_rfl)) (fun _ _ _ h=>h) (Or.inl ⟨by rfl,?_⟩) hHeld ?_ ?_;rotate_left
           ·rintro w' ⟨s0,s1⟩;go_simp;with_reducible rfl
           rotate_left
           ·simp only [Act.put,List.setIfInBounds_toArray,List.set_cons_zero,List.set_cons_succ,i64_w,i32_w];rfl
           refine take_ (i:=8) (N:=some 68) (v:=?_) (a':=?_) #[true,true,true,true,true,true,true,false,true,true,true,false,false,false] rfl rfl (take_ofW HT_.out HW_.out (by kernel_rfl)) (fun _ _ _ h=>h) (Or.inl ⟨by rfl,?_⟩) hHeld ?_ ?_;rotate_left
           ·rintro w' ⟨s0,s1⟩;go_simp;with_reducible rfl
           rotate_left
           ·simp only [Act.put,List.setIfInBounds_toArray,List.set_cons_zero,List.set_cons_succ,i64_w,i32_w];rfl
           refine one_ (i:=7) (N:=some 67) #[true,true,true,true,true,true,true,true,true,true,true,false,false,false] rfl rfl (one_of HT_.out (by kernel_rfl)) (by decide) (fun K hK=>?_);refine goes_ Try.func11 (by kernel_rfl) rfl #[.agg #[.slice Ao24 t314.length co24],.int .i64 t317,.int .i64 x10_2] (by rfl) rfl rfl (by (try simp only [List.map_toArray,List.map_cons,List.map_nil]);first | done | rfl | (simp only [List.length_drop,List.length_take];rfl)) ?_;with_reducible refine (impl_GetAt.calls k2 _ _ t314 t317 x10_2 t322 _ ?side1 ?side2 A51.out).mono ?_
           (case side1=>repeat (first | exact (Kd.S_reads' HO_319000.out).2.2 | (with_reducible refine Kd.C_alloc ?_ _) | (with_reducible refine Kd.C_drewN ?_ _) | (with_reducible refine Kd.C_drew ?_)))
           (case side2=>exact (Kd.S_reads' HO_319000.out).2.1)
           rintro e w55 ⟨rfl,hb⟩;refine ⟨_,rfl,?_⟩;have n0_:=Aside0.mk (Kd.R_below (rs HO_4) hb);have n1_:=Aside0.mk (Kd.S_below (ss HO_308000) hb);have n2_:=Aside0.mk (Kd.S_below (ss HO_319000) hb);have n3_:=Aside0.mk (blk_below (g:=gb307) (o:=.cells #[.slice Ao16 t301.length co16] 26 (0,0)) (bs BK307) hb);have n4_:=Aside0.mk (blk_below (g:=gb318) (o:=.cells #[.slice Ao24 t314.length co24] 26 (0,0)) (bs BK318) hb);have n5_:=Aside0.mk (below_step (hs2 HB GE307 GE318) hb);clear HO_4;clear HO_308000;clear HO_319000;clear BK307;clear BK318;clear HB;have HO_4:=n0_;have HO_308000:=n1_;have HO_319000:=n2_;have BK307:=n3_;have BK318:=n4_;have HB:=n5_;clear n0_ n1_ n2_ n3_ n4_ n5_
           (try clear hb)
           (try clear hb2)
           (try clear hk)
           (try clear hi)
           refine hK.out _ _ ⟨(blk_cell BK318.out 0).trans rfl,(blk_cell BK307.out 0).trans rfl⟩ (fun hHeld=>?_);clear hK K;refine norm_ (a':=?_) ?_ ?_;rotate_left
           ·show Act.put _ (some 67) _ = _;simp only [Act.put,List.setIfInBounds_toArray,List.set_cons_zero,List.set_cons_succ,i64_w,i32_w];rfl
           refine one_ (i:=11) (N:=some 71) #[true,true,true,true,true,true,true,true,true,true,true,true,false,false] rfl rfl (one_of HT_.out (by kernel_rfl)) (by decide) (fun K hK=>?_);refine goes_ Try.func12 (by kernel_rfl) rfl #[.agg #[.slice Ao16 t301.length co16],.int .i64 (rd t304 (ji8)),.int .i64 x10_2] (by rfl) rfl rfl (by (try simp only [List.map_toArray,List.map_cons,List.map_nil]);first | done | (simp only [hji8];rfl) | rfl | (simp only [List.length_drop,List.length_take];rfl)) ?_;with_reducible refine (spec_GetAt.calls k2 _ _ t301 (rd t304 (ji8)) x10_2 t323 _ ?side1 ?side2 A52.out).mono ?_
           (case side1=>repeat (first | exact (Kd.S_reads' HO_308000.out).2.2 | (with_reducible refine Kd.C_alloc ?_ _) | (with_reducible refine Kd.C_drewN ?_ _) | (with_reducible refine Kd.C_drew ?_)))
           (case side2=>exact (Kd.S_reads' HO_308000.out).2.1)
           rintro e w56 ⟨rfl,hb⟩;refine ⟨_,rfl,?_⟩;have n0_:=Aside0.mk (Kd.R_below (rs HO_4) hb);have n1_:=Aside0.mk (Kd.S_below (ss HO_308000) hb);have n2_:=Aside0.mk (Kd.S_below (ss HO_319000) hb);have n3_:=Aside0.mk (blk_below (g:=gb307) (o:=.cells #[.slice Ao16 t301.length co16] 26 (0,0)) (bs BK307) hb);have n4_:=Aside0.mk (blk_below (g:=gb318) (o:=.cells #[.slice Ao24 t314.length co24] 26 (0,0)) (bs BK318) hb);have n5_:=Aside0.mk (below_step (hs2 HB GE307 GE318) hb);clear HO_4;clear HO_308000;clear HO_319000;clear BK307;clear BK318;clear HB;have HO_4:=n0_;have HO_308000:=n1_;have HO_319000:=n2_;have BK307:=n3_;have BK318:=n4_;have HB:=n5_;clear n0_ n1_ n2_ n3_ n4_ n5_
           (try clear hb)
           (try clear hb2)
           (try clear hk)
           (try clear hi)
           refine hK.out _ _ ⟨(blk_cell BK318.out 0).trans rfl,(blk_cell BK307.out 0).trans rfl⟩ (fun hHeld=>?_);clear hK K;refine norm_ (a':=?_) ?_ ?_;rotate_left
           ·show Act.put _ (some 71) _ = _;simp only [Act.put,List.setIfInBounds_toArray,List.set_cons_zero,List.set_cons_succ,i64_w,i32_w];rfl
           refine pure_ (i:=12) (N:=some 72) (v:=?_) (a':=?_) #[true,true,true,true,true,true,true,true,true,true,true,true,true,false] rfl rfl (any_of HT_.out (by kernel_rfl)) (fun _ _ _ h=>h) (Or.inl ⟨by rfl,?_⟩) ?_ ?_;rotate_left
           ·intro w';go_simp;with_reducible rfl
           rotate_left
           ·simp only [Act.put,List.setIfInBounds_toArray,List.set_cons_zero,List.set_cons_succ,i64_w,i32_w];rfl
           refine pure_ (i:=13) (N:=some 73) (v:=?_) (a':=?_) #[true,true,true,true,true,true,true,true,true,true,true,true,true,true] rfl rfl (any_of HT_.out (by kernel_rfl)) (fun _ _ _ h=>h) (Or.inl ⟨by rfl,?_⟩) ?_ ?_;rotate_left
           ·intro w';go_simp;with_reducible rfl
           rotate_left
           ·simp only [Act.put,List.setIfInBounds_toArray,List.set_cons_zero,List.set_cons_succ,i64_w,i32_w];rfl
           refine done_ (done_of HT_.out (by kernel_rfl)) ?_
           try go_wp2
           go_roundg k2;case measure=>have:=HJ12.out;have:=HK2.out;omega
           case rel=>exact ⟨(wrap64 (x10_2 + 1)),(by first | rfl | (simp;done) | (simp [*];done)),H',⟨by have:=HJ12.out;have:=HK2.out;omega⟩,⟨rs HO_4⟩,⟨ss HO_308000⟩,⟨ss HO_319000⟩,⟨bs BK307⟩,⟨bs BK318⟩,⟨hs2 HB GE307 GE318⟩⟩
          rw [if_neg c53] at H;have c53b0 : (t322 == t323) = false:=beq_eq_false_iff_ne.mpr c53;have c53b1 : (t322 != t323) = true:=bne_iff_ne.mpr c53;exact absurd ((Option.some.inj H).trans hT.out) (by decide)
         rw [if_neg c48] at H;have c48b0 : decide (x10_2 < 16) = false:=decide_eq_false c48;clear c48;have H':=Aside0.mk H;clear H
         go_wp2
         go_loopg [11] k2 (fun kq v11 w'=>∃ (x11_3 : Int),v11 = .int .i64 x11_3 ∧ Aside0 (laws_FnTrees.l1 kq t304 (rd t304 (ji8)) t317 x11_3 t301 t314 = some r) ∧ Aside0 (kq ≤ k2) ∧ Aside0 (Kd.R (Kd.int .i64) 3 w' w.heap.size (fun _=>True) (.slice (some ad312) t304.length co20) t304) ∧ Aside0 (Kd.S k47 47 w' w.heap.size (fun k_=>some k_ ≠ ((.slice (some ad312) t304.length co20) : Value).ownBlock ∧ some k_ ≠ ((.slice Ao24 t314.length co24) : Value).ownBlock) (.slice Ao16 t301.length co16) t301) ∧ Aside0 (Kd.S k47 47 w' w.heap.size (fun k_=>some k_ ≠ ((.slice (some ad312) t304.length co20) : Value).ownBlock ∧ some k_ ≠ ((.slice Ao16 t301.length co16) : Value).ownBlock) (.slice Ao24 t314.length co24) t314) ∧ Aside0 (w'.heap[gb307]? = some (.cells #[(.slice Ao16 t301.length co16)] 26 (0,0))) ∧ Aside0 (w'.heap[gb318]? = some (.cells #[(.slice Ao24 t314.length co24)] 26 (0,0))) ∧ Aside0 (Below w.heap.size w w'));case atStart=>exact ⟨(0),(by first | rfl | (simp;done) | (simp [*];done)),H',⟨Nat.le_refl _⟩,⟨rs HO_4⟩,⟨ss HO_308000⟩,⟨ss HO_319000⟩,⟨bs BK307⟩,⟨bs BK318⟩,⟨hs2 HB GE307 GE318⟩⟩
         case round =>
          clear H'
          try clear c1
          try clear c2
          try clear p2
          try clear c3
          try clear p3
          try clear q3
          try clear hx3
          try clear qi3
          try clear c4
          try clear c5
          try clear c6
          try clear c6b0
          try clear c6b1
          try clear p6
          try clear c7
          try clear c7b0
          try clear c7b1
          try clear c7b2
          try clear c8
          try clear c9
          try clear c9b0
          try clear c10
          try clear c10b0
          try clear c11
          try clear c11b0
          try clear c11b1
          try clear c12
          try clear c25
          try clear c28
          try clear c30
          try clear p31
          try clear q31
          try clear hx31
          try clear qi31
          try clear c32
          try clear c39
          try clear c44
          try clear c47
          try clear c48
          try clear c48b0
          try clear c49
          try clear c49b0
          try clear c49b1
          try clear c53
          try clear c53b0
          try clear c53b1
          try clear hcz17_0
          try clear hcz21_0
          try clear hcz26_0
          try clear hcz33_0
          try clear hcz35_0
          try clear hcz37_0
          try clear hcz40_0
          try clear hcz42_0
          try clear hcz45_0
          try clear hfz17_0
          try clear hfz21_0
          try clear hfz26_0
          try clear hfz33_0
          try clear hfz35_0
          try clear hfz37_0
          try clear hfz40_0
          try clear hfz42_0
          try clear hfz45_0
          try clear hx311_0
          try clear hx312_0
          try clear hx313_0
          try clear p2
          try clear p3
          try clear p31
          try clear p311
          try clear p312
          try clear p313
          try clear q3
          try clear q31
          try clear q311
          try clear q312
          try clear q313
          obtain ⟨x11_3,rfl,HA,HK3,HO_4,HO_308000,HO_319000,BK307,BK318,HB⟩:=hrel;cases gk with
          | zero=>exact absurd HA.out (by simp [laws_FnTrees.l1])
          | succ k3 =>
           have H:=HA.out;clear HA;simp only [laws_FnTrees.l1] at H
           by_cases c57 : x11_3 < (t304.length : Int)
           ·rw [if_pos c57] at H;have c57b0 : decide (x11_3 < (t304.length : Int)) = true:=decide_eq_true c57;clear c57
            by_cases c58 : 0 ≤ x11_3
            ·rw [if_pos c58] at H;have c58b0 : decide (0 ≤ x11_3) = true:=decide_eq_true c58;clear c58;replace H:=Option.bind_eq_some_iff.mp H;obtain ⟨t325,A590,H⟩:=H;replace H : ((spec_AllAt.f k3 t301 (rd t304 x11_3)).bind fun t329=>((laws_sameInts.f k3 t325 t329).bind fun t332=>(if t332 = true then (laws_FnTrees.l1 k3 t304 (rd t304 (ji8)) t317 (wrap64 (x11_3 + 1)) t301 t314) else (some false)))) = some r:=H;have A59:=Aside0.mk A590;clear A590;replace H:=Option.bind_eq_some_iff.mp H;obtain ⟨t329,A600,H⟩:=H;replace H : ((laws_sameInts.f k3 t325 t329).bind fun t332=>(if t332 = true then (laws_FnTrees.l1 k3 t304 (rd t304 (ji8)) t317 (wrap64 (x11_3 + 1)) t301 t314) else (some false))) = some r:=H;have A60:=Aside0.mk A600;clear A600;replace H:=Option.bind_eq_some_iff.mp H;obtain ⟨t332,A610,H⟩:=H;replace H : (if t332 = true then (laws_FnTrees.l1 k3 t304 (rd t304 (ji8)) t317 (wrap64 (x11_3 + 1)) t301 t314) else (some false)) = some r:=H;have A61:=Aside0.mk A610;clear A610
             by_cases c62 : t332 = true
             ·subst c62;have H1 : (laws_FnTrees.l1 k3 t304 (rd t304 (ji8)) t317 (wrap64 (x11_3 + 1)) t301 t314) = some r:=by rw [if_pos rfl] at H;exact H
              clear H;have H:=H1;clear H1;have H':=Aside0.mk H;clear H
              try go_wp2
              have n0_:=Aside0.mk (Kd.R_drew HO_4.out);have n1_:=Aside0.mk (Kd.S_drew HO_308000.out);have n2_:=Aside0.mk (Kd.S_drew HO_319000.out);have n3_:=Aside0.mk (blk_drew BK307.out);have n4_:=Aside0.mk (blk_drew BK318.out);have n5_:=Aside0.mk (below_drew1 HB.out);clear HO_4;clear HO_308000;clear HO_319000;clear BK307;clear BK318;clear HB;have HO_4:=n0_;have HO_308000:=n1_;have HO_319000:=n2_;have BK307:=n3_;have BK318:=n4_;have HB:=n5_;clear n0_ n1_ n2_ n3_ n4_ n5_;have p324 : 0 ≤ (x11_3 : Int):=of_decide_eq_true (by first | (with_reducible assumption) | assumption);have q324 : x11_3 < (t304.length : Int):=of_decide_eq_true (by first | (with_reducible assumption) | assumption);obtain ⟨ad324,e324,hx324_0⟩:=Kd.at_int (Kd.R_reads' HO_4.out).2.2 x11_3 p324 q324;obtain rfl : ad312 = ad324:=(by injection e324);replace p324:=eq_true p324;replace q324:=eq_true q324;have p328 : 0 ≤ (x11_3 : Int):=of_decide_eq_true (by first | (with_reducible assumption) | assumption);have q328 : x11_3 < (t304.length : Int):=of_decide_eq_true (by first | (with_reducible assumption) | assumption);obtain ⟨ad328,e328,hx328_0⟩:=Kd.at_int (Kd.R_reads' HO_4.out).2.2 x11_3 p328 q328;obtain rfl : ad312 = ad328:=(by injection e328);replace p328:=eq_true p328;replace q328:=eq_true q328;refine start_ (n:=14) (S:=fun w'=>w'.cell? ⟨gb318,0,none⟩ = some (.slice Ao24 t314.length co24) ∧ w'.cell? ⟨gb307,0,none⟩ = some (.slice Ao16 t301.length co16) ∧ w'.cell? (ad312.add (x11_3).toNat) = some (.int .i64 (rd t304 x11_3)) ∧ w'.cell? (ad312.add (x11_3).toNat) = some (.int .i64 (rd t304 x11_3))) (ds:=[]) #[false,false,false,false,false,false,false,false,false,false,false,false,false,false] (by kernel_rfl) rfl rfl ⟨(blk_cell BK318.out 0).trans rfl,(blk_cell BK307.out 0).trans rfl,hx324_0,hx328_0⟩ (fun hHeld=>?_);refine with_tabW laws_FnTrees.tab18 laws_FnTrees.bits18 (fun HT_ HW_=>?_);generalize wr.drew = w63 at HO_4 HO_308000 HO_319000 BK307 BK318 HB hx324_0 hx328_0 hHeld ⊢;refine pure_ (i:=1) (N:=some 81) (v:=?_) (a':=?_) #[false,true,false,false,false,false,false,false,false,false,false,false,false,false] rfl rfl (any_of HT_.out (by kernel_rfl)) (fun _ _ _ h=>h) (Or.inl ⟨by rfl,?_⟩) ?_ ?_;rotate_left
              ·intro w';go_simp;with_reducible rfl
              rotate_left
              ·simp only [Act.put,List.setIfInBounds_toArray,List.set_cons_zero,List.set_cons_succ,i64_w,i32_w];rfl
              refine pure_ (i:=2) (N:=some 82) (v:=?_) (a':=?_) #[false,true,true,false,false,false,false,false,false,false,false,false,false,false] rfl rfl (any_of HT_.out (by kernel_rfl)) (fun _ _ _ h=>h) (Or.inl ⟨by rfl,?_⟩) ?_ ?_;rotate_left
              ·intro w';go_simp;with_reducible rfl
              rotate_left
              ·simp only [Act.put,List.setIfInBounds_toArray,List.set_cons_zero,List.set_cons_succ,i64_w,i32_w];rfl
              refine pure_ (i:=3) (N:=some 83) (v:=?_) (a':=?_) #[false,true,true,true,false,false,false,false,false,false,false,false,false,false] rfl rfl (any_of HT_.out (by kernel_rfl)) (fun _ _ _ h=>h) (Or.inl ⟨by rfl,?_⟩) ?_ ?_;rotate_left
              ·intro w';go_simp;with_reducible rfl
              rotate_left
              ·simp only [Act.put,List.setIfInBounds_toArray,List.set_cons_zero,List.set_cons_succ,i64_w,i32_w];rfl
              refine pure_ (i:=7) (N:=some 87) (v:=?_) (a':=?_) #[false,true,true,true,false,false,false,true,false,false,false,false,false,false] rfl rfl (any_of HT_.out (by kernel_rfl)) (fun _ _ _ h=>h) (Or.inl ⟨by rfl,?_⟩) ?_ ?_;rotate_left
              ·intro w';go_simp;with_reducible rfl
              rotate_left
              ·simp only [Act.put,List.setIfInBounds_toArray,List.set_cons_zero,List.set_cons_succ,i64_w,i32_w];rfl
              refine pure_ (i:=8) (N:=some 88) (v:=?_) (a':=?_) #[false,true,true,true,false,false,false,true,true,false,false,false,false,false] rfl rfl (any_of HT_.out (by kernel_rfl)) (fun _ _ _ h=>h) (Or.inl ⟨by rfl,?_⟩) ?_ ?_;rotate_left
              ·intro w';go_simp;with_reducible rfl
              rotate_left
              ·simp only [Act.put,List.setIfInBounds_toArray,List.set_cons_zero,List.set_cons_succ,i64_w,i32_w];rfl
              refine pure_ (i:=9) (N:=some 89) (v:=?_) (a':=?_) #[false,true,true,true,false,false,false,true,true,true,false,false,false,false] rfl rfl (any_of HT_.out (by kernel_rfl)) (fun _ _ _ h=>h) (Or.inl ⟨by rfl,?_⟩) ?_ ?_;rotate_left
              ·intro w';go_simp;with_reducible rfl
              rotate_left
              ·simp only [Act.put,List.setIfInBounds_toArray,List.set_cons_zero,List.set_cons_succ,i64_w,i32_w];rfl
              refine take_ (i:=0) (N:=some 80) (v:=?_) (a':=?_) #[true,true,true,true,false,false,false,true,true,true,false,false,false,false] rfl rfl (take_ofW HT_.out HW_.out (by kernel_rfl)) (fun _ _ _ h=>h) (Or.inl ⟨by rfl,?_⟩) hHeld ?_ ?_;rotate_left
              ·rintro w' ⟨s0,s1,s2,s3⟩;go_simp;with_reducible rfl
              rotate_left
              ·simp only [Act.put,List.setIfInBounds_toArray,List.set_cons_zero,List.set_cons_succ,i64_w,i32_w];rfl
              refine take_ (i:=4) (N:=some 84) (v:=?_) (a':=?_) #[true,true,true,true,true,false,false,true,true,true,false,false,false,false] rfl rfl (take_ofW HT_.out HW_.out (by kernel_rfl)) (fun _ _ _ h=>h) (Or.inl ⟨by rfl,?_⟩) hHeld ?_ ?_;rotate_left
              ·rintro w' ⟨s0,s1,s2,s3⟩;go_simp;with_reducible rfl
              rotate_left
              ·simp only [Act.put,List.setIfInBounds_toArray,List.set_cons_zero,List.set_cons_succ,i64_w,i32_w];rfl
              refine take_ (i:=6) (N:=some 86) (v:=?_) (a':=?_) #[true,true,true,true,true,false,true,true,true,true,false,false,false,false] rfl rfl (take_ofW HT_.out HW_.out (by kernel_rfl)) (fun _ _ _ h=>h) (Or.inl ⟨by rfl,?_⟩) hHeld ?_ ?_;rotate_left
              ·rintro w' ⟨s0,s1,s2,s3⟩;go_simp;with_reducible rfl
              rotate_left
              ·simp only [Act.put,List.setIfInBounds_toArray,List.set_cons_zero,List.set_cons_succ,i64_w,i32_w];rfl
              refine take_ (i:=10) (N:=some 90) (v:=?_) (a':=?_) #[true,true,true,true,true,false,true,true,true,true,true,false,false,false] rfl rfl (take_ofW HT_.out HW_.out (by kernel_rfl)) (fun _ _ _ h=>h) (Or.inl ⟨by rfl,?_⟩) hHeld ?_ ?_;rotate_left
              ·rintro w' ⟨s0,s1,s2,s3⟩;go_simp;with_reducible rfl
              rotate_left
              ·simp only [Act.put,List.setIfInBounds_toArray,List.set_cons_zero,List.set_cons_succ,i64_w,i32_w];rfl
              refine one_ (i:=5) (N:=some 85) #[true,true,true,true,true,true,true,true,true,true,true,false,false,false] rfl rfl (one_of HT_.out (by kernel_rfl)) (by decide) (fun K hK=>?_);refine goes_ Try.func14 (by kernel_rfl) rfl #[.agg #[.slice Ao24 t314.length co24],.int .i64 (rd t304 x11_3)] (by rfl) rfl rfl (by (try simp only [List.map_toArray,List.map_cons,List.map_nil]);first | done | rfl | (simp only [List.length_drop,List.length_take];rfl)) ?_;with_reducible refine (impl_AllAt.calls k3 _ _ t314 (rd t304 x11_3) t325 _ ?side1 ?side2 A59.out).mono ?_
              (case side1=>repeat (first | exact (Kd.S_reads' HO_319000.out).2.2 | (with_reducible refine Kd.C_alloc ?_ _) | (with_reducible refine Kd.C_drewN ?_ _) | (with_reducible refine Kd.C_drew ?_)))
              (case side2=>exact (Kd.S_reads' HO_319000.out).2.1)
              rintro e w64 ⟨v326,rfl,ho0,hb⟩;have HS2_:=(hb.cell (World.block_lt_of_cell? _ _ (hHeld.2.2.1))).trans (hHeld.2.2.1);have HS3_:=(hb.cell (World.block_lt_of_cell? _ _ (hHeld.2.2.2))).trans (hHeld.2.2.2);refine ⟨_,rfl,?_⟩;have n0_:=Aside0.mk (Kd.R_elder' (rs HO_4) (Kd.R_base ho0) hb);have n1_:=Aside0.mk (Kd.S_elder' (ss HO_308000) (Kd.R_base ho0) hb);have n2_:=Aside0.mk (Kd.S_elder' (ss HO_319000) (Kd.R_base ho0) hb);have n3_:=Aside0.mk (Kd.R_lower (Kd.R_new' ho0 (Kd.R_lt (rs HO_4))) (below_size (hs2 HB GE307 GE318)));have n4_:=Aside0.mk (blk_below (g:=gb307) (o:=.cells #[.slice Ao16 t301.length co16] 26 (0,0)) (bs BK307) hb);have n5_:=Aside0.mk (blk_below (g:=gb318) (o:=.cells #[.slice Ao24 t314.length co24] 26 (0,0)) (bs BK318) hb);have n6_:=Aside0.mk (below_step (hs2 HB GE307 GE318) hb);clear HO_4;clear HO_308000;clear HO_319000;clear BK307;clear BK318;clear HB;have HO_4:=n0_;have HO_308000:=n1_;have HO_319000:=n2_;have HO327:=n3_;have BK307:=n4_;have BK318:=n5_;have HB:=n6_;clear n0_ n1_ n2_ n3_ n4_ n5_ n6_
              (try clear hb)
              (try clear hb2)
              (try clear hk)
              (try clear hi)
              (try clear ho0)
              refine hK.out _ _ ⟨(blk_cell BK318.out 0).trans rfl,(blk_cell BK307.out 0).trans rfl,HS2_,HS3_⟩ (fun hHeld=>?_);clear hK K;refine norm_ (a':=?_) ?_ ?_;rotate_left
              ·show Act.put _ (some 85) _ = _;simp only [Act.put,List.setIfInBounds_toArray,List.set_cons_zero,List.set_cons_succ,i64_w,i32_w];rfl
              refine one_ (i:=11) (N:=some 91) #[true,true,true,true,true,true,true,true,true,true,true,true,false,false] rfl rfl (one_of HT_.out (by kernel_rfl)) (by decide) (fun K hK=>?_);refine goes_ Try.func15 (by kernel_rfl) rfl #[.agg #[.slice Ao16 t301.length co16],.int .i64 (rd t304 x11_3)] (by rfl) rfl rfl (by (try simp only [List.map_toArray,List.map_cons,List.map_nil]);first | done | rfl | (simp only [List.length_drop,List.length_take];rfl)) ?_;with_reducible refine (spec_AllAt.calls k3 _ _ t301 (rd t304 x11_3) t329 _ ?side1 ?side2 A60.out).mono ?_
              (case side1=>repeat (first | exact (Kd.S_reads' HO_308000.out).2.2 | (with_reducible refine Kd.C_alloc ?_ _) | (with_reducible refine Kd.C_drewN ?_ _) | (with_reducible refine Kd.C_drew ?_)))
              (case side2=>exact (Kd.S_reads' HO_308000.out).2.1)
              rintro e w65 ⟨v330,rfl,ho0,hb⟩;have HS2_:=(hb.cell (World.block_lt_of_cell? _ _ (hHeld.2.2.1))).trans (hHeld.2.2.1);have HS3_:=(hb.cell (World.block_lt_of_cell? _ _ (hHeld.2.2.2))).trans (hHeld.2.2.2);refine ⟨_,rfl,?_⟩;have n0_:=Aside0.mk (Kd.R_elder' (rs HO_4) (Kd.R_base ho0) hb);have n1_:=Aside0.mk (Kd.S_elder' (ss HO_308000) (Kd.R_base ho0) hb);have n2_:=Aside0.mk (Kd.S_elder' (ss HO_319000) (Kd.R_base ho0) hb);have n3_:=Aside0.mk (Kd.R_elder' (rs HO327) (Kd.R_base ho0) hb);have n4_:=Aside0.mk (Kd.R_lower (Kd.R_new' (Kd.R_new' ho0 (Kd.R_lt (rs HO_4))) (Kd.R_lt (rs HO327))) (below_size (hs2 HB GE307 GE318)));have n5_:=Aside0.mk (blk_below (g:=gb307) (o:=.cells #[.slice Ao16 t301.length co16] 26 (0,0)) (bs BK307) hb);have n6_:=Aside0.mk (blk_below (g:=gb318) (o:=.cells #[.slice Ao24 t314.length co24] 26 (0,0)) (bs BK318) hb);have n7_:=Aside0.mk (below_step (hs2 HB GE307 GE318) hb);clear HO_4;clear HO_308000;clear HO_319000;clear HO327;clear BK307;clear BK318;clear HB;have HO_4:=n0_;have HO_308000:=n1_;have HO_319000:=n2_;have HO327:=n3_;have HO331:=n4_;have BK307:=n5_;have BK318:=n6_;have HB:=n7_;clear n0_ n1_ n2_ n3_ n4_ n5_ n6_ n7_
              (try clear hb)
              (try clear hb2)
              (try clear hk)
              (try clear hi)
              (try clear ho0)
              obtain ⟨Ao66,co66,eo66⟩:=Kd.R_slice HO327.out
              (first | subst eo66 | (injection eo66 with f1_ f2_ f3_;have f4_:=f1_.symm;have f5_:=f3_.symm;clear f1_ f2_ f3_;subst f4_;subst f5_))
              obtain ⟨Ao67,co67,eo67⟩:=Kd.R_slice HO331.out
              (first | subst eo67 | (injection eo67 with f1_ f2_ f3_;have f4_:=f1_.symm;have f5_:=f3_.symm;clear f1_ f2_ f3_;subst f4_;subst f5_))
              refine hK.out _ _ ⟨(blk_cell BK318.out 0).trans rfl,(blk_cell BK307.out 0).trans rfl,HS2_,HS3_⟩ (fun hHeld=>?_);clear hK K;refine norm_ (a':=?_) ?_ ?_;rotate_left
              ·show Act.put _ (some 91) _ = _;simp only [Act.put,List.setIfInBounds_toArray,List.set_cons_zero,List.set_cons_succ,i64_w,i32_w];rfl
              refine one_ (i:=12) (N:=some 92) #[true,true,true,true,true,true,true,true,true,true,true,true,true,false] rfl rfl (one_of HT_.out (by kernel_rfl)) (by decide) (fun K hK=>?_);refine goes_ Try.func13 (by kernel_rfl) rfl #[.slice Ao66 t325.length co66,.slice Ao67 t329.length co67] (by rfl) rfl rfl (by (try simp only [List.map_toArray,List.map_cons,List.map_nil]);first | done | rfl | (simp only [List.length_drop,List.length_take];rfl)) ?_;with_reducible refine (laws_sameInts.calls k3 _ _ t325 _ _ t329 true _ ?side1 ?side2 ?side3 ?side4 A61.out).mono ?_
              (case side1=>repeat (first | exact (Kd.R_reads' HO327.out).2.2 | (with_reducible refine Kd.C_alloc ?_ _) | (with_reducible refine Kd.C_drewN ?_ _) | (with_reducible refine Kd.C_drew ?_)))
              (case side2=>exact (Kd.R_reads' HO327.out).2.1)
              (case side3=>repeat (first | exact (Kd.R_reads' HO331.out).2.2 | (with_reducible refine Kd.C_alloc ?_ _) | (with_reducible refine Kd.C_drewN ?_ _) | (with_reducible refine Kd.C_drew ?_)))
              (case side4=>exact (Kd.R_reads' HO331.out).2.1)
              rintro e w' ⟨rfl,⟨nd,rfl⟩⟩;refine ⟨_,rfl,?_⟩;refine hK.out _ _ ⟨(blk_cell BK318.out 0).trans rfl,(blk_cell BK307.out 0).trans rfl,hHeld.2.2.1,hHeld.2.2.2⟩ (fun hHeld=>?_);clear hK K;refine norm_ (a':=?_) ?_ ?_;rotate_left
              ·show Act.put _ (some 92) _ = _;simp only [Act.put,List.setIfInBounds_toArray,List.set_cons_zero,List.set_cons_succ,i64_w,i32_w];rfl
              refine pure_ (i:=13) (N:=some 93) (v:=?_) (a':=?_) #[true,true,true,true,true,true,true,true,true,true,true,true,true,true] rfl rfl (any_of HT_.out (by kernel_rfl)) (fun _ _ _ h=>h) (Or.inl ⟨by rfl,?_⟩) ?_ ?_;rotate_left
              ·intro w';go_simp;with_reducible rfl
              rotate_left
              ·simp only [Act.put,List.setIfInBounds_toArray,List.set_cons_zero,List.set_cons_succ,i64_w,i32_w];rfl
              refine done_ (done_of HT_.out (by kernel_rfl)) ?_
              try go_wp2
              go_roundg k3;case measure=>have:=HJ12.out;have:=HK2.out;have:=HK3.out;omega
              case rel=>exact ⟨(wrap64 (x11_3 + 1)),(by first | rfl | (simp;done) | (simp [*];done)),H',⟨by have:=HJ12.out;have:=HK2.out;have:=HK3.out;omega⟩,⟨by (with_reducible repeat (first | apply Kd.R_alloc | apply Kd.R_drewN | apply Kd.R_drew));exact Kd.R_mono HO_4.out (fun _ hk=>trivial)⟩,⟨by (with_reducible repeat (first | apply Kd.S_alloc | apply Kd.S_drewN | apply Kd.S_drew));exact Kd.S_mono HO_308000.out (fun _ hk=>⟨hk.1.1.1,hk.1.1.2⟩)⟩,⟨by (with_reducible repeat (first | apply Kd.S_alloc | apply Kd.S_drewN | apply Kd.S_drew));exact Kd.S_mono HO_319000.out (fun _ hk=>⟨hk.1.1.1,hk.1.1.2⟩)⟩,⟨bs BK307⟩,⟨bs BK318⟩,⟨hs2 HB GE307 GE318⟩⟩
             replace c62:=Bool.eq_false_iff.mpr c62;subst c62;have H1 : (some false) = some r:=by rw [if_neg (show ¬ (false = true) by decide)] at H;exact H
             clear H;have H:=H1;clear H1;exact absurd ((Option.some.inj H).trans hT.out) (by decide)
            rw [if_neg c58] at H;exact absurd H (by simp)
           rw [if_neg c57] at H;have c57b0 : decide (x11_3 < (t304.length : Int)) = false:=decide_eq_false c57;clear c57;replace H:=Option.bind_eq_some_iff.mp H;obtain ⟨t333,A680,H⟩:=H;replace H : (if t333 ≥ 2 then ((impl_SharedBy.f k3 t314 t317 (rd t304 (ji8))).bind fun t334=>(if t334 ≤ 3 then ((impl_SharedBy.f k3 t314 (-1) t317).bind fun t335=>(if t335 = 0 then ((impl_SharedBy.f k3 t314 t317 (rd t304 (ji8))).bind fun t336=>((spec_SharedBy.f k3 t314 t317 (rd t304 (ji8))).bind fun t337=>(some (t336 == t337)))) else (some false))) else (some false))) else (some false)) = some r:=H;have A68:=Aside0.mk A680;clear A680
           by_cases c69 : t333 ≥ 2
           ·rw [if_pos c69] at H;have c69b0 : decide (2 ≤ t333) = true:=decide_eq_true c69;clear c69;replace H:=Option.bind_eq_some_iff.mp H;obtain ⟨t334,A700,H⟩:=H;replace H : (if t334 ≤ 3 then ((impl_SharedBy.f k3 t314 (-1) t317).bind fun t335=>(if t335 = 0 then ((impl_SharedBy.f k3 t314 t317 (rd t304 (ji8))).bind fun t336=>((spec_SharedBy.f k3 t314 t317 (rd t304 (ji8))).bind fun t337=>(some (t336 == t337)))) else (some false))) else (some false)) = some r:=H;have A70:=Aside0.mk A700;clear A700
            by_cases c71 : t334 ≤ 3
            ·rw [if_pos c71] at H;have c71b0 : decide (t334 ≤ 3) = true:=decide_eq_true c71;clear c71;replace H:=Option.bind_eq_some_iff.mp H;obtain ⟨t335,A720,H⟩:=H;replace H : (if t335 = 0 then ((impl_SharedBy.f k3 t314 t317 (rd t304 (ji8))).bind fun t336=>((spec_SharedBy.f k3 t314 t317 (rd t304 (ji8))).bind fun t337=>(some (t336 == t337)))) else (some false)) = some r:=H;have A72:=Aside0.mk A720;clear A720
             by_cases c73 : t335 = 0
             ·rw [if_pos c73] at H;have c73b0 : (t335 == 0) = true:=beq_iff_eq.mpr c73;have c73b1 : (t335 != 0) = false:=bne_eq_false_iff_eq.mpr c73;clear c73;replace H:=Option.bind_eq_some_iff.mp H;obtain ⟨t336,A740,H⟩:=H;replace H : ((spec_SharedBy.f k3 t314 t317 (rd t304 (ji8))).bind fun t337=>(some (t336 == t337))) = some r:=H;have A74:=Aside0.mk A740;clear A740;replace H:=Option.bind_eq_some_iff.mp H;obtain ⟨t337,A750,H⟩:=H;replace H : (some (t336 == t337)) = some r:=H;have A75:=Aside0.mk A750;clear A750;obtain rfl:=Option.some.inj H
              try go_wp2
              have n0_:=Aside0.mk (Kd.R_drew HO_4.out);have n1_:=Aside0.mk (Kd.S_drew HO_308000.out);have n2_:=Aside0.mk (Kd.S_drew HO_319000.out);have n3_:=Aside0.mk (blk_drew BK307.out);have n4_:=Aside0.mk (blk_drew BK318.out);have n5_:=Aside0.mk (below_drew1 HB.out);clear HO_4;clear HO_308000;clear HO_319000;clear BK307;clear BK318;clear HB;have HO_4:=n0_;have HO_308000:=n1_;have HO_319000:=n2_;have BK307:=n3_;have BK318:=n4_;have HB:=n5_;clear n0_ n1_ n2_ n3_ n4_ n5_;refine start_ (n:=30) (S:=fun w'=>w'.cell? ⟨gb318,0,none⟩ = some (.slice Ao24 t314.length co24)) (ds:=[]) #[false,false,false,false,false,false,false,false,false,false,false,false,false,false,false,false,false,false,false,false,false,false,false,false,false,false,false,false,false,false] (by kernel_rfl) rfl rfl ((blk_cell BK318.out 0).trans rfl) (fun hHeld=>?_);refine with_tabW laws_FnTrees.tab20 laws_FnTrees.bits20 (fun HT_ HW_=>?_);generalize wr.drew = w76 at HO_4 HO_308000 HO_319000 BK307 BK318 HB hHeld ⊢;refine pure_ (i:=1) (N:=some 95) (v:=?_) (a':=?_) #[false,true,false,false,false,false,false,false,false,false,false,false,false,false,false,false,false,false,false,false,false,false,false,false,false,false,false,false,false,false] rfl rfl (any_of HT_.out (by kernel_rfl)) (fun _ _ _ h=>h) (Or.inl ⟨by rfl,?_⟩) ?_ ?_;rotate_left
              ·intro w';go_simp;with_reducible rfl
              rotate_left
              ·simp only [Act.put,List.setIfInBounds_toArray,List.set_cons_zero,List.set_cons_succ,i64_w,i32_w];rfl
              refine pure_ (i:=2) (N:=some 96) (v:=?_) (a':=?_) #[false,true,true,false,false,false,false,false,false,false,false,false,false,false,false,false,false,false,false,false,false,false,false,false,false,false,false,false,false,false] rfl rfl (any_of HT_.out (by kernel_rfl)) (fun _ _ _ h=>h) (Or.inl ⟨by rfl,?_⟩) ?_ ?_;rotate_left
              ·intro w';go_simp;with_reducible rfl
              rotate_left
              ·simp only [Act.put,List.setIfInBounds_toArray,List.set_cons_zero,List.set_cons_succ,i64_w,i32_w];rfl
              refine take_ (i:=0) (N:=some 94) (v:=?_) (a':=?_) #[true,true,true,false,false,false,false,false,false,false,false,false,false,false,false,false,false,false,false,false,false,false,false,false,false,false,false,false,false,false] rfl rfl (take_ofW HT_.out HW_.out (by kernel_rfl)) (fun _ _ _ h=>h) (Or.inl ⟨by rfl,?_⟩) hHeld ?_ ?_;rotate_left
              ·intro w' s0;go_simp;with_reducible rfl
              rotate_left
              ·simp only [Act.put,List.setIfInBounds_toArray,List.set_cons_zero,List.set_cons_succ,i64_w,i32_w];rfl
              refine one_ (i:=3) (N:=some 97) #[true,true,true,true,false,false,false,false,false,false,false,false,false,false,false,false,false,false,false,false,false,false,false,false,false,false,false,false,false,false] rfl rfl (one_of HT_.out (by kernel_rfl)) (by decide) (fun K hK=>?_);refine goes_ Try.func16 (by kernel_rfl) rfl #[.agg #[.slice Ao24 t314.length co24],.int .i64 t317,.int .i64 t317] (by rfl) rfl rfl (by (try simp only [List.map_toArray,List.map_cons,List.map_nil]);first | done | rfl | (simp only [List.length_drop,List.length_take];rfl)) ?_;with_reducible refine (impl_SharedBy.calls k3 _ _ t314 t317 t317 t333 _ ?side1 ?side2 A68.out).mono ?_
              (case side1=>repeat (first | exact (Kd.S_reads' HO_319000.out).2.2 | (with_reducible refine Kd.C_alloc ?_ _) | (with_reducible refine Kd.C_drewN ?_ _) | (with_reducible refine Kd.C_drew ?_)))
              (case side2=>exact (Kd.S_reads' HO_319000.out).2.1)
              rintro e w77 ⟨rfl,hb⟩;refine ⟨_,rfl,?_⟩;have n0_:=Aside0.mk (Kd.R_below (rs HO_4) hb);have n1_:=Aside0.mk (Kd.S_below (ss HO_308000) hb);have n2_:=Aside0.mk (Kd.S_below (ss HO_319000) hb);have n3_:=Aside0.mk (blk_below (g:=gb307) (o:=.cells #[.slice Ao16 t301.length co16] 26 (0,0)) (bs BK307) hb);have n4_:=Aside0.mk (blk_below (g:=gb318) (o:=.cells #[.slice Ao24 t314.length co24] 26 (0,0)) (bs BK318) hb);have n5_:=Aside0.mk (below_step (hs2 HB GE307 GE318) hb);clear HO_4;clear HO_308000;clear HO_319000;clear BK307;clear BK318;clear HB;have HO_4:=n0_;have HO_308000:=n1_;have HO_319000:=n2_;have BK307:=n3_;have BK318:=n4_;have HB:=n5_;clear n0_ n1_ n2_ n3_ n4_ n5_
              (try clear hb)
              (try clear hb2)
              (try clear hk)
              (try clear hi)
              refine hK.out _ _ ((blk_cell BK318.out 0).trans rfl) (fun hHeld=>?_);clear hK K;refine norm_ (a':=?_) ?_ ?_;rotate_left
              ·show Act.put _ (some 97) _ = _;simp only [Act.put,List.setIfInBounds_toArray,List.set_cons_zero,List.set_cons_succ,i64_w,i32_w];rfl
              refine pure_ (i:=4) (N:=some 98) (v:=?_) (a':=?_) #[true,true,true,true,true,false,false,false,false,false,false,false,false,false,false,false,false,false,false,false,false,false,false,false,false,false,false,false,false,false] rfl rfl (any_of HT_.out (by kernel_rfl)) (fun _ _ _ h=>h) (Or.inl ⟨by rfl,?_⟩) ?_ ?_;rotate_left
              ·intro w';go_simp;with_reducible rfl
              rotate_left
              ·simp only [Act.put,List.setIfInBounds_toArray,List.set_cons_zero,List.set_cons_succ,i64_w,i32_w];rfl
              refine pure_ (i:=5) (N:=some 99) (v:=?_) (a':=?_) #[true,true,true,true,true,true,false,false,false,false,false,false,false,false,false,false,false,false,false,false,false,false,false,false,false,false,false,false,false,false] rfl rfl (any_of HT_.out (by kernel_rfl)) (fun _ _ _ h=>h) (Or.inl ⟨by rfl,?_⟩) ?_ ?_;rotate_left
              ·intro w';go_simp;with_reducible rfl
              rotate_left
              ·simp only [Act.put,List.setIfInBounds_toArray,List.set_cons_zero,List.set_cons_succ,i64_w,i32_w];rfl
              refine pure_ (i:=7) (N:=some 101) (v:=?_) (a':=?_) #[true,true,true,true,true,true,false,true,false,false,false,false,false,false,false,false,false,false,false,false,false,false,false,false,false,false,false,false,false,false] rfl rfl (any_of HT_.out (by kernel_rfl)) (fun _ _ _ h=>h) (Or.inl ⟨by rfl,?_⟩) ?_ ?_;rotate_left
              ·intro w';go_simp;with_reducible rfl
              rotate_left
              ·simp only [Act.put,List.setIfInBounds_toArray,List.set_cons_zero,List.set_cons_succ,i64_w,i32_w];rfl
              refine pure_ (i:=8) (N:=some 102) (v:=?_) (a':=?_) #[true,true,true,true,true,true,false,true,true,false,false,false,false,false,false,false,false,false,false,false,false,false,false,false,false,false,false,false,false,false] rfl rfl (any_of HT_.out (by kernel_rfl)) (fun _ _ _ h=>h) (Or.inl ⟨by rfl,?_⟩) ?_ ?_;rotate_left
              ·intro w';go_simp;with_reducible rfl
              rotate_left
              ·simp only [Act.put,List.setIfInBounds_toArray,List.set_cons_zero,List.set_cons_succ,i64_w,i32_w];rfl
              refine take_ (i:=6) (N:=some 100) (v:=?_) (a':=?_) #[true,true,true,true,true,true,true,true,true,false,false,false,false,false,false,false,false,false,false,false,false,false,false,false,false,false,false,false,false,false] rfl rfl (take_ofW HT_.out HW_.out (by kernel_rfl)) (fun _ _ _ h=>h) (Or.inl ⟨by rfl,?_⟩) hHeld ?_ ?_;rotate_left
              ·intro w' s0;go_simp;with_reducible rfl
              rotate_left
              ·simp only [Act.put,List.setIfInBounds_toArray,List.set_cons_zero,List.set_cons_succ,i64_w,i32_w];rfl
              refine one_ (i:=9) (N:=some 103) #[true,true,true,true,true,true,true,true,true,true,false,false,false,false,false,false,false,false,false,false,false,false,false,false,false,false,false,false,false,false] rfl rfl (one_of HT_.out (by kernel_rfl)) (by decide) (fun K hK=>?_);refine goes_ Try.func16 (by kernel_rfl) rfl #[.agg #[.slice Ao24 t314.length co24],.int .i64 t317,.int .i64 (rd t304 (ji8))] (by rfl) rfl rfl (by (try simp only [List.map_toArray,List.map_cons,List.map_nil]);first | done | (simp only [hji8];rfl) | rfl | (simp only [List.length_drop,List.length_take];rfl)) ?_;with_reducible refine (impl_SharedBy.calls k3 _ _ t314 t317 (rd t304 (ji8)) t334 _ ?side1 ?side2 A70.out).mono ?_
              (case side1=>repeat (first | exact (Kd.S_reads' HO_319000.out).2.2 | (with_reducible refine Kd.C_alloc ?_ _) | (with_reducible refine Kd.C_drewN ?_ _) | (with_reducible refine Kd.C_drew ?_)))
              (case side2=>exact (Kd.S_reads' HO_319000.out).2.1)
              rintro e w78 ⟨rfl,hb⟩;refine ⟨_,rfl,?_⟩;have n0_:=Aside0.mk (Kd.R_below (rs HO_4) hb);have n1_:=Aside0.mk (Kd.S_below (ss HO_308000) hb);have n2_:=Aside0.mk (Kd.S_below (ss HO_319000) hb);have n3_:=Aside0.mk (blk_below (g:=gb307) (o:=.cells #[.slice Ao16 t301.length co16] 26 (0,0)) (bs BK307) hb);have n4_:=Aside0.mk (blk_below (g:=gb318) (o:=.cells #[.slice Ao24 t314.length co24] 26 (0,0)) (bs BK318) hb);have n5_:=Aside0.mk (below_step (hs2 HB GE307 GE318) hb);clear HO_4;clear HO_308000;clear HO_319000;clear BK307;clear BK318;clear HB;have HO_4:=n0_;have HO_308000:=n1_;have HO_319000:=n2_;have BK307:=n3_;have BK318:=n4_;have HB:=n5_;clear n0_ n1_ n2_ n3_ n4_ n5_
              (try clear hb)
              (try clear hb2)
              (try clear hk)
              (try clear hi)
              refine hK.out _ _ ((blk_cell BK318.out 0).trans rfl) (fun hHeld=>?_);clear hK K;refine norm_ (a':=?_) ?_ ?_;rotate_left
              ·show Act.put _ (some 103) _ = _;simp only [Act.put,List.setIfInBounds_toArray,List.set_cons_zero,List.set_cons_succ,i64_w,i32_w];rfl
              refine pure_ (i:=10) (N:=some 104) (v:=?_) (a':=?_) #[true,true,true,true,true,true,true,true,true,true,true,false,false,false,false,false,false,false,false,false,false,false,false,false,false,false,false,false,false,false] rfl rfl (any_of HT_.out (by kernel_rfl)) (fun _ _ _ h=>h) (Or.inl ⟨by rfl,?_⟩) ?_ ?_;rotate_left
              ·intro w';go_simp;with_reducible rfl
              rotate_left
              ·simp only [Act.put,List.setIfInBounds_toArray,List.set_cons_zero,List.set_cons_succ,i64_w,i32_w];rfl
              refine pure_ (i:=11) (N:=some 105) (v:=?_) (a':=?_) #[true,true,true,true,true,true,true,true,true,true,true,true,false,false,false,false,false,false,false,false,false,false,false,false,false,false,false,false,false,false] rfl rfl (any_of HT_.out (by kernel_rfl)) (fun _ _ _ h=>h) (Or.inl ⟨by rfl,?_⟩) ?_ ?_;rotate_left
              ·intro w';go_simp;with_reducible rfl
              rotate_left
              ·simp only [Act.put,List.setIfInBounds_toArray,List.set_cons_zero,List.set_cons_succ,i64_w,i32_w];rfl
              refine pure_ (i:=12) (N:=some 106) (v:=?_) (a':=?_) #[true,true,true,true,true,true,true,true,true,true,true,true,true,false,false,false,false,false,false,false,false,false,false,false,false,false,false,false,false,false] rfl rfl (any_of HT_.out (by kernel_rfl)) (fun _ _ _ h=>h) (Or.inl ⟨by rfl,?_⟩) ?_ ?_;rotate_left
              ·intro w';go_simp;with_reducible rfl
              rotate_left
              ·simp only [Act.put,List.setIfInBounds_toArray,List.set_cons_zero,List.set_cons_succ,i64_w,i32_w];rfl
              refine pure_ (i:=14) (N:=some 108) (v:=?_) (a':=?_) #[true,true,true,true,true,true,true,true,true,true,true,true,true,false,true,false,false,false,false,false,false,false,false,false,false,false,false,false,false,false] rfl rfl (any_of HT_.out (by kernel_rfl)) (fun _ _ _ h=>h) (Or.inl ⟨by rfl,?_⟩) ?_ ?_;rotate_left
              ·intro w';go_simp;with_reducible rfl
              rotate_left
              ·simp only [Act.put,List.setIfInBounds_toArray,List.set_cons_zero,List.set_cons_succ,i64_w,i32_w];rfl
              refine take_ (i:=13) (N:=some 107) (v:=?_) (a':=?_) #[true,true,true,true,true,true,true,true,true,true,true,true,true,true,true,false,false,false,false,false,false,false,false,false,false,false,false,false,false,false] rfl rfl (take_ofW HT_.out HW_.out (by kernel_rfl)) (fun _ _ _ h=>h) (Or.inl ⟨by rfl,?_⟩) hHeld ?_ ?_;rotate_left
              ·intro w' s0;go_simp;with_reducible rfl
              rotate_left
              ·simp only [Act.put,List.setIfInBounds_toArray,List.set_cons_zero,List.set_cons_succ,i64_w,i32_w];rfl
              refine one_ (i:=15) (N:=some 109) #[true,true,true,true,true,true,true,true,true,true,true,true,true,true,true,true,false,false,false,false,false,false,false,false,false,false,false,false,false,false] rfl rfl (one_of HT_.out (by kernel_rfl)) (by decide) (fun K hK=>?_);refine goes_ Try.func16 (by kernel_rfl) rfl #[.agg #[.slice Ao24 t314.length co24],.int .i64 (-1),.int .i64 t317] (by rfl) rfl rfl (by (try simp only [List.map_toArray,List.map_cons,List.map_nil]);first | done | rfl | (simp only [List.length_drop,List.length_take];rfl)) ?_;with_reducible refine (impl_SharedBy.calls k3 _ _ t314 (-1) t317 t335 _ ?side1 ?side2 A72.out).mono ?_
              (case side1=>repeat (first | exact (Kd.S_reads' HO_319000.out).2.2 | (with_reducible refine Kd.C_alloc ?_ _) | (with_reducible refine Kd.C_drewN ?_ _) | (with_reducible refine Kd.C_drew ?_)))
              (case side2=>exact (Kd.S_reads' HO_319000.out).2.1)
              rintro e w79 ⟨rfl,hb⟩;refine ⟨_,rfl,?_⟩;have n0_:=Aside0.mk (Kd.R_below (rs HO_4) hb);have n1_:=Aside0.mk (Kd.S_below (ss HO_308000) hb);have n2_:=Aside0.mk (Kd.S_below (ss HO_319000) hb);have n3_:=Aside0.mk (blk_below (g:=gb307) (o:=.cells #[.slice Ao16 t301.length co16] 26 (0,0)) (bs BK307) hb);have n4_:=Aside0.mk (blk_below (g:=gb318) (o:=.cells #[.slice Ao24 t314.length co24] 26 (0,0)) (bs BK318) hb);have n5_:=Aside0.mk (below_step (hs2 HB GE307 GE318) hb);clear HO_4;clear HO_308000;clear HO_319000;clear BK307;clear BK318;clear HB;have HO_4:=n0_;have HO_308000:=n1_;have HO_319000:=n2_;have BK307:=n3_;have BK318:=n4_;have HB:=n5_;clear n0_ n1_ n2_ n3_ n4_ n5_
              (try clear hb)
              (try clear hb2)
              (try clear hk)
              (try clear hi)
              refine hK.out _ _ ((blk_cell BK318.out 0).trans rfl) (fun hHeld=>?_);clear hK K;refine norm_ (a':=?_) ?_ ?_;rotate_left
              ·show Act.put _ (some 109) _ = _;simp only [Act.put,List.setIfInBounds_toArray,List.set_cons_zero,List.set_cons_succ,i64_w,i32_w];rfl
              refine pure_ (i:=16) (N:=some 110) (v:=?_) (a':=?_) #[true,true,true,true,true,true,true,true,true,true,true,true,true,true,true,true,true,false,false,false,false,false,false,false,false,false,false,false,false,false] rfl rfl (any_of HT_.out (by kernel_rfl)) (fun _ _ _ h=>h) (Or.inl ⟨by rfl,?_⟩) ?_ ?_;rotate_left
              ·intro w';go_simp;with_reducible rfl
              rotate_left
              ·simp only [Act.put,List.setIfInBounds_toArray,List.set_cons_zero,List.set_cons_succ,i64_w,i32_w];rfl
              refine pure_ (i:=17) (N:=some 111) (v:=?_) (a':=?_) #[true,true,true,true,true,true,true,true,true,true,true,true,true,true,true,true,true,true,false,false,false,false,false,false,false,false,false,false,false,false] rfl rfl (any_of HT_.out (by kernel_rfl)) (fun _ _ _ h=>h) (Or.inl ⟨by rfl,?_⟩) ?_ ?_;rotate_left
              ·intro w';go_simp;with_reducible rfl
              rotate_left
              ·simp only [Act.put,List.setIfInBounds_toArray,List.set_cons_zero,List.set_cons_succ,i64_w,i32_w];rfl
              refine pure_ (i:=18) (N:=some 112) (v:=?_) (a':=?_) #[true,true,true,true,true,true,true,true,true,true,true,true,true,true,true,true,true,true,true,false,false,false,false,false,false,false,false,false,false,false] rfl rfl (any_of HT_.out (by kernel_rfl)) (fun _ _ _ h=>h) (Or.inl ⟨by rfl,?_⟩) ?_ ?_;rotate_left
              ·intro w';go_simp;with_reducible rfl
              rotate_left
              ·simp only [Act.put,List.setIfInBounds_toArray,List.set_cons_zero,List.set_cons_succ,i64_w,i32_w];rfl
              refine pure_ (i:=20) (N:=some 114) (v:=?_) (a':=?_) #[true,true,true,true,true,true,true,true,true,true,true,true,true,true,true,true,true,true,true,false,true,false,false,false,false,false,false,false,false,false] rfl rfl (any_of HT_.out (by kernel_rfl)) (fun _ _ _ h=>h) (Or.inl ⟨by rfl,?_⟩) ?_ ?_;rotate_left
              ·intro w';go_simp;with_reducible rfl
              rotate_left
              ·simp only [Act.put,List.setIfInBounds_toArray,List.set_cons_zero,List.set_cons_succ,i64_w,i32_w];rfl
              refine pure_ (i:=21) (N:=some 115) (v:=?_) (a':=?_) #[true,true,true,true,true,true,true,true,true,true,true,true,true,true,true,true,true,true,true,false,true,true,false,false,false,false,false,false,false,false] rfl rfl (any_of HT_.out (by kernel_rfl)) (fun _ _ _ h=>h) (Or.inl ⟨by rfl,?_⟩) ?_ ?_;rotate_left
              ·intro w';go_simp;with_reducible rfl
              rotate_left
              ·simp only [Act.put,List.setIfInBounds_toArray,List.set_cons_zero,List.set_cons_succ,i64_w,i32_w];rfl
              refine pure_ (i:=24) (N:=some 118) (v:=?_) (a':=?_) #[true,true,true,true,true,true,true,true,true,true,true,true,true,true,true,true,true,true,true,false,true,true,false,false,true,false,false,false,false,false] rfl rfl (any_of HT_.out (by kernel_rfl)) (fun _ _ _ h=>h) (Or.inl ⟨by rfl,?_⟩) ?_ ?_;rotate_left
              ·intro w';go_simp;with_reducible rfl
              rotate_left
              ·simp only [Act.put,List.setIfInBounds_toArray,List.set_cons_zero,List.set_cons_succ,i64_w,i32_w];rfl
              refine pure_ (i:=25) (N:=some 119) (v:=?_) (a':=?_) #[true,true,true,true,true,true,true,true,true,true,true,true,true,true,true,true,true,true,true,false,true,true,false,false,true,true,false,false,false,false] rfl rfl (any_of HT_.out (by kernel_rfl)) (fun _ _ _ h=>h) (Or.inl ⟨by rfl,?_⟩) ?_ ?_;rotate_left
              ·intro w';go_simp;with_reducible rfl
              rotate_left
              ·simp only [Act.put,List.setIfInBounds_toArray,List.set_cons_zero,List.set_cons_succ,i64_w,i32_w];rfl
              refine take_ (i:=19) (N:=some 113) (v:=?_) (a':=?_) #[true,true,true,true,true,true,true,true,true,true,true,true,true,true,true,true,true,true,true,true,true,true,false,false,true,true,false,false,false,false] rfl rfl (take_ofW HT_.out HW_.out (by kernel_rfl)) (fun _ _ _ h=>h) (Or.inl ⟨by rfl,?_⟩) hHeld ?_ ?_;rotate_left
              ·intro w' s0;go_simp;with_reducible rfl
              rotate_left
              ·simp only [Act.put,List.setIfInBounds_toArray,List.set_cons_zero,List.set_cons_succ,i64_w,i32_w];rfl
              refine take_ (i:=23) (N:=some 117) (v:=?_) (a':=?_) #[true,true,true,true,true,true,true,true,true,true,true,true,true,true,true,true,true,true,true,true,true,true,false,true,true,true,false,false,false,false] rfl rfl (take_ofW HT_.out HW_.out (by kernel_rfl)) (fun _ _ _ h=>h) (Or.inl ⟨by rfl,?_⟩) hHeld ?_ ?_;rotate_left
              ·intro w' s0;go_simp;with_reducible rfl
              rotate_left
              ·simp only [Act.put,List.setIfInBounds_toArray,List.set_cons_zero,List.set_cons_succ,i64_w,i32_w];rfl
              refine one_ (i:=22) (N:=some 116) #[true,true,true,true,true,true,true,true,true,true,true,true,true,true,true,true,true,true,true,true,true,true,true,true,true,true,false,false,false,false] rfl rfl (one_of HT_.out (by kernel_rfl)) (by decide) (fun K hK=>?_);refine goes_ Try.func16 (by kernel_rfl) rfl #[.agg #[.slice Ao24 t314.length co24],.int .i64 t317,.int .i64 (rd t304 (ji8))] (by rfl) rfl rfl (by (try simp only [List.map_toArray,List.map_cons,List.map_nil]);first | done | (simp only [hji8];rfl) | rfl | (simp only [List.length_drop,List.length_take];rfl)) ?_;with_reducible refine (impl_SharedBy.calls k3 _ _ t314 t317 (rd t304 (ji8)) t336 _ ?side1 ?side2 A74.out).mono ?_
              (case side1=>repeat (first | exact (Kd.S_reads' HO_319000.out).2.2 | (with_reducible refine Kd.C_alloc ?_ _) | (with_reducible refine Kd.C_drewN ?_ _) | (with_reducible refine Kd.C_drew ?_)))
              (case side2=>exact (Kd.S_reads' HO_319000.out).2.1)
              rintro e w80 ⟨rfl,hb⟩;refine ⟨_,rfl,?_⟩;have n0_:=Aside0.mk (Kd.R_below (rs HO_4) hb);have n1_:=Aside0.mk (Kd.S_below (ss HO_308000) hb);have n2_:=Aside0.mk (Kd.S_below (ss HO_319000) hb);have n3_:=Aside0.mk (blk_below (g:=gb307) (o:=.cells #[.slice Ao16 t301.length co16] 26 (0,0)) (bs BK307) hb);have n4_:=Aside0.mk (blk_below (g:=gb318) (o:=.cells #[.slice Ao24 t314.length co24] 26 (0,0)) (bs BK318) hb);have n5_:=Aside0.mk (below_step (hs2 HB GE307 GE318) hb);clear HO_4;clear HO_308000;clear HO_319000;clear BK307;clear BK318;clear HB;have HO_4:=n0_;have HO_308000:=n1_;have HO_319000:=n2_;have BK307:=n3_;have BK318:=n4_;have HB:=n5_;clear n0_ n1_ n2_ n3_ n4_ n5_
              (try clear hb)
              (try clear hb2)
              (try clear hk)
              (try clear hi)
              refine hK.out _ _ ((blk_cell BK318.out 0).trans rfl) (fun hHeld=>?_);clear hK K;refine norm_ (a':=?_) ?_ ?_;rotate_left
              ·show Act.put _ (some 116) _ = _;simp only [Act.put,List.setIfInBounds_toArray,List.set_cons_zero,List.set_cons_succ,i64_w,i32_w];rfl
              refine one_ (i:=26) (N:=some 120) #[true,true,true,true,true,true,true,true,true,true,true,true,true,true,true,true,true,true,true,true,true,true,true,true,true,true,true,false,false,false] rfl rfl (one_of HT_.out (by kernel_rfl)) (by decide) (fun K hK=>?_);refine goes_ Try.func17 (by kernel_rfl) rfl #[.agg #[.slice Ao24 t314.length co24],.int .i64 t317,.int .i64 (rd t304 (ji8))] (by rfl) rfl rfl (by (try simp only [List.map_toArray,List.map_cons,List.map_nil]);first | done | (simp only [hji8];rfl) | rfl | (simp only [List.length_drop,List.length_take];rfl)) ?_;with_reducible refine (spec_SharedBy.calls k3 _ _ t314 t317 (rd t304 (ji8)) t337 _ ?side1 ?side2 A75.out).mono ?_
              (case side1=>repeat (first | exact (Kd.S_reads' HO_319000.out).2.2 | (with_reducible refine Kd.C_alloc ?_ _) | (with_reducible refine Kd.C_drewN ?_ _) | (with_reducible refine Kd.C_drew ?_)))
              (case side2=>exact (Kd.S_reads' HO_319000.out).2.1)
              rintro e w81 ⟨rfl,hb⟩;refine ⟨_,rfl,?_⟩;have n0_:=Aside0.mk (Kd.R_below (rs HO_4) hb);have n1_:=Aside0.mk (Kd.S_below (ss HO_308000) hb);have n2_:=Aside0.mk (Kd.S_below (ss HO_319000) hb);have n3_:=Aside0.mk (blk_below (g:=gb307) (o:=.cells #[.slice Ao16 t301.length co16] 26 (0,0)) (bs BK307) hb);have n4_:=Aside0.mk (blk_below (g:=gb318) (o:=.cells #[.slice Ao24 t314.length co24] 26 (0,0)) (bs BK318) hb);have n5_:=Aside0.mk (below_step (hs2 HB GE307 GE318) hb);clear HO_4;clear HO_308000;clear HO_319000;clear BK307;clear BK318;clear HB;have HO_4:=n0_;have HO_308000:=n1_;have HO_319000:=n2_;have BK307:=n3_;have BK318:=n4_;have HB:=n5_;clear n0_ n1_ n2_ n3_ n4_ n5_
              (try clear hb)
              (try clear hb2)
              (try clear hk)
              (try clear hi)
              refine hK.out _ _ ((blk_cell BK318.out 0).trans rfl) (fun hHeld=>?_);clear hK K;refine norm_ (a':=?_) ?_ ?_;rotate_left
              ·show Act.put _ (some 120) _ = _;simp only [Act.put,List.setIfInBounds_toArray,List.set_cons_zero,List.set_cons_succ,i64_w,i32_w];rfl
              refine pure_ (i:=27) (N:=some 121) (v:=?_) (a':=?_) #[true,true,true,true,true,true,true,true,true,true,true,true,true,true,true,true,true,true,true,true,true,true,true,true,true,true,true,true,false,false] rfl rfl (any_of HT_.out (by kernel_rfl)) (fun _ _ _ h=>h) (Or.inl ⟨by rfl,?_⟩) ?_ ?_;rotate_left
              ·intro w';go_simp;with_reducible rfl
              rotate_left
              ·simp only [Act.put,List.setIfInBounds_toArray,List.set_cons_zero,List.set_cons_succ,i64_w,i32_w];rfl
              refine pure_ (i:=28) (N:=some 122) (v:=?_) (a':=?_) #[true,true,true,true,true,true,true,true,true,true,true,true,true,true,true,true,true,true,true,true,true,true,true,true,true,true,true,true,true,false] rfl rfl (any_of HT_.out (by kernel_rfl)) (fun _ _ _ h=>h) (Or.inl ⟨by rfl,?_⟩) ?_ ?_;rotate_left
              ·intro w';go_simp;with_reducible rfl
              rotate_left
              ·simp only [Act.put,List.setIfInBounds_toArray,List.set_cons_zero,List.set_cons_succ,i64_w,i32_w];rfl
              refine pure_ (i:=29) (N:=some 2) (v:=?_) (a':=?_) #[true,true,true,true,true,true,true,true,true,true,true,true,true,true,true,true,true,true,true,true,true,true,true,true,true,true,true,true,true,true] rfl rfl (any_of HT_.out (by kernel_rfl)) (fun _ _ _ h=>h) (Or.inl ⟨by rfl,?_⟩) ?_ ?_;rotate_left
              ·intro w';go_simp;with_reducible rfl
              rotate_left
              ·simp only [Act.put,List.setIfInBounds_toArray,List.set_cons_zero,List.set_cons_succ,i64_w,i32_w];rfl
              refine done_ (done_of HT_.out (by kernel_rfl)) ?_
              try go_wp2
              go_ret
              exact ⟨by first | rfl | (simp [errW_none,errW_some] <;> rfl) | (simp only [← hji8];first | rfl | (simp [errW_none,errW_some] <;> rfl)) | (simp [*,errW_none,errW_some] <;> rfl),hs2 HB GE307 GE318⟩
             rw [if_neg c73] at H;have c73b0 : (t335 == 0) = false:=beq_eq_false_iff_ne.mpr c73;have c73b1 : (t335 != 0) = true:=bne_iff_ne.mpr c73;exact absurd ((Option.some.inj H).trans hT.out) (by decide)
            rw [if_neg c71] at H;have c71b0 : decide (t334 ≤ 3) = false:=decide_eq_false c71;clear c71;exact absurd ((Option.some.inj H).trans hT.out) (by decide)
           rw [if_neg c69] at H;have c69b0 : decide (2 ≤ t333) = false:=decide_eq_false c69;clear c69;exact absurd ((Option.some.inj H).trans hT.out) (by decide)
    rw [if_neg c11] at H;exact absurd H (by simp)
   rw [if_neg c10] at H;exact absurd H (by simp)
  rw [if_neg c9] at H;exact absurd H (by simp)
 rw [if_neg c6] at H;exact absurd H (by simp)
def laws_FnTrees.Pure : Prop:=∀ (l0 : List Int),l0.length ≤ maxLen → l0.length * 1 ≤ 140737488351232 → (∀ x ∈ l0,(Lit.int .u8 x).wf = true) → ∃ k,laws_FnTrees.f k l0 = some true
theorem laws_FnTrees.walk (P : laws_FnTrees.Pure) (a0 : Option Addr) (len0 cap0 : Nat) (z0 : List Int) (w : World) (w0 : (a0 = none ∧ len0 = 0 ∧ cap0 = 0 ∧ z0 = []) ∨ ∃ x,a0 = some x ∧ len0 ≤ cap0 ∧ cap0 ≤ maxLen ∧ z0.length = cap0 ∧ (∀ i,i < z0.length → w.cell? (x.add i) = some (.int .u8 (z0.getD i 0))) ∧ ∀ n ∈ z0,(Lit.int .u8 n).wf = true) (y0 : len0 * 1 ≤ 140737488351232) :
  Calls Try.prog 3 #[.slice a0 len0 cap0] w fun e w'=>e = .returned (.bool true) ∧ Below w.heap.size w w':=by
 obtain ⟨l0,rfl,hr0,hm0,hw0,hc0⟩:=ReadsInt.ofRowC w0;obtain ⟨k,h⟩:=P l0 hm0 y0 hw0;refine (laws_FnTrees.calls k _ _ l0 true ⟨rfl⟩ w (Kd.C_of_reads (d:=(0 : Int)) (h1:=fun _=>rfl) hr0) hc0 h).mono ?_;rintro e w' ⟨rfl,hd⟩;exact ⟨rfl,hd⟩
end Go.Proofs.Ytjpjikhokpfhmaa.PT

/- Plain facts on rounds, lists and whole numbers, for the pure statements. -/
namespace Go.Proofs.Ytjpjikhokpfhmaa.Pu
set_option linter.unusedVariables false
set_option linter.unusedSimpArgs false
open Go.RowKit Go.Proofs.YtjpjikhokpfhmaaW.PrintWords

theorem w64 {x : Int} (h1 : -9223372036854775808 ≤ x) (h2 : x ≤ 9223372036854775807) : wrap64 x = x := by
  unfold wrap64; omega
theorem wsucc {i n : Nat} (h : i < n) (hn : n ≤ 9223372036854775807) : wrap64 ((i : Int) + 1) = ((i + 1 : Nat) : Int) := by
  rw [w64 (by omega) (by omega)]; rfl
theorem wf_i64 {n : Int} (h : (Lit.int .i64 n).wf = true) : -9223372036854775808 ≤ n ∧ n ≤ 9223372036854775807 := by
  simp only [Lit.wf, Bool.and_eq_true, decide_eq_true_eq] at h
  have h1 : IntKind.min .i64 = -9223372036854775808 := by decide
  have h2 : IntKind.max .i64 = 9223372036854775807 := by decide
  omega

/-- Rounds: what is told, a step on. -/
theorem ev_some {α : Type} {g : Nat → Option α} {r : α} (h : ∀ k, g (k + 1) = some r) : Ev g r := Ev.step h (Ev.now r)
theorem ev_const {α : Type} {o : Option α} {r : α} (h : o = some r) : Ev (fun _ => o) r := ⟨0, fun _ _ => h⟩
theorem ev_bind {α β : Type} {g : Nat → Option α} {f : Nat → α → Option β} {a : α} {r : β} (h : Ev g a) (k : Ev (fun n => f n a) r) : Ev (fun n => (g n).bind (f n)) r := Ev.bind h k
theorem ev_uniq {α : Type} {g : Nat → Option α} {a b : α} (h : Ev g a) (k : Ev g b) : a = b := by
  obtain ⟨K, hK⟩ := h
  obtain ⟨M, hM⟩ := k
  have h1 := hK (max K M) (Nat.le_max_left _ _)
  rw [hM (max K M) (Nat.le_max_right _ _)] at h1
  injection h1 with h1
  exact h1.symm
theorem ev_ext {α : Type} {g f : Nat → Option α} {r : α} (h : ∀ k, g k = f k) (k : Ev f r) : Ev g r := Ev.congr h k

/-- A row that is made and filled, place by place. -/
theorem ev_fill {β : Type} {L : Nat → List β → Int → Option (List β)} {E : Nat → Int → Option β} {n : Nat} {e : Nat → β} (hn : n ≤ 9223372036854775807)
    (hs : ∀ k xs i, L (k + 1) xs i = if i < (n : Int) then (if 0 ≤ i then ((E k i).bind fun b => if i < (xs.length : Int) then L k (xs.set i.toNat b) (wrap64 (i + 1)) else none) else none) else some xs)
    (hE : ∀ i, i < n → Ev (fun k => E k (i : Int)) (e i)) :
    ∀ (d i : Nat) (xs : List β), xs.length = n → i + d = n → Ev (fun k => L k xs (i : Int)) (xs.take i ++ (List.range' i d).map e) := by
  intro d
  induction d with
  | zero =>
    intro i xs hl hi
    refine ev_some fun k => ?_
    rw [hs, if_neg (by omega)]
    simp [List.take_of_length_le (show xs.length ≤ i by omega)]
  | succ d ih =>
    intro i xs hl hi
    refine Ev.step (f := fun k => (E k (i : Int)).bind fun b => L k (xs.set i b) ((i + 1 : Nat) : Int)) (fun k => ?_) ?_
    · rw [hs, if_pos (by omega), if_pos (by omega), wsucc (n := n) (by omega) hn]
      congr 1
      funext b
      rw [if_pos (by omega)]
      rfl
    · refine ev_bind (hE i (by omega)) ?_
      have h := ih (i + 1) (xs.set i (e i)) (by rw [List.length_set]; exact hl) (by omega)
      have e1 : (xs.set i (e i)).take (i + 1) ++ (List.range' (i + 1) d).map e = xs.take i ++ (List.range' i (d + 1)).map e := by
        rw [List.range'_succ, List.map_cons, List.take_succ_eq_append_getElem (by rw [List.length_set]; omega), List.getElem_set_self, List.take_set_of_le (Nat.le_refl _)]
        simp
      rw [e1] at h
      exact h
theorem map_range {α β : Type} (l : List α) (z : α) (g : α → β) : (List.range' 0 l.length).map (fun i => g (l.getD i z)) = l.map g := by
  apply List.ext_getElem
  · simp
  · intro i h1 h2
    simp only [List.length_map] at h2
    simp [List.getD_eq_getElem?_getD, List.getElem?_eq_getElem h2]
theorem ev_fill_all {α β : Type} {L : Nat → List β → Int → Option (List β)} {E : Nat → Int → Option β} {l : List α} {z : α} {g : α → β} {xs : List β} (hn : l.length ≤ 9223372036854775807)
    (hs : ∀ k xs i, L (k + 1) xs i = if i < (l.length : Int) then (if 0 ≤ i then ((E k i).bind fun b => if i < (xs.length : Int) then L k (xs.set i.toNat b) (wrap64 (i + 1)) else none) else none) else some xs)
    (hE : ∀ i, i < l.length → Ev (fun k => E k (i : Int)) (g (l.getD i z))) (hx : xs.length = l.length) : Ev (fun k => L k xs 0) (l.map g) := by
  have h := ev_fill (e := fun i => g (l.getD i z)) hn hs hE l.length 0 xs hx (by omega)
  rw [map_range] at h
  simpa using h

/-- Every place meets a test, tried place by place. -/
theorem ev_all {L E : Nat → Int → Option Bool} {n m : Nat} (hn : n ≤ 9223372036854775807) (hnm : n ≤ m)
    (hs : ∀ k i, L (k + 1) i = if i < (n : Int) then (if 0 ≤ i then (if i < (m : Int) then ((E k i).bind fun b => if b = true then L k (wrap64 (i + 1)) else some false) else none) else none) else some true)
    (hE : ∀ i, i < n → Ev (fun k => E k (i : Int)) true) : ∀ (d i : Nat), i + d = n → Ev (fun k => L k (i : Int)) true := by
  intro d
  induction d with
  | zero => intro i hi; exact ev_some fun k => by rw [hs, if_neg (by omega)]
  | succ d ih =>
    intro i hi
    refine Ev.step (f := fun k => (E k (i : Int)).bind fun b => if b = true then L k ((i + 1 : Nat) : Int) else some false) (fun k => ?_) (ev_bind (hE i (by omega)) (by simpa using ih (i + 1) (by omega)))
    rw [hs, if_pos (by omega), if_pos (by omega), if_pos (by omega), wsucc (n := n) (by omega) hn]

/-- What is left of a number, place by place, as long as it is not below 0. -/
theorem ev_size {L E : Nat → Int → Int → Option Int} {n : Nat} {P : Nat → Prop} (hn : n ≤ 9223372036854775807)
    (hs : ∀ k a i, L (k + 1) a i = if i < (n : Int) then (if 0 ≤ i then ((E k i a).bind fun t => if t < 0 then some (-1) else L k t (wrap64 (i + 1))) else none) else some a)
    (hE : ∀ i a, i < n → 0 ≤ a → a ≤ 1048576 → ∃ t, Ev (fun k => E k (i : Int) a) t ∧ t ≤ a ∧ (0 ≤ t → P i)) :
    ∀ (d i : Nat) (a : Int), i + d = n → 0 ≤ a → a ≤ 1048576 → ∃ r, Ev (fun k => L k a (i : Int)) r ∧ r ≤ a ∧ (0 ≤ r → ∀ m, i ≤ m → m < n → P m) := by
  intro d
  induction d with
  | zero => intro i a hi h0 h1; exact ⟨a, ev_some fun k => by rw [hs, if_neg (by omega)], Int.le_refl _, fun _ m h2 h3 => by omega⟩
  | succ d ih =>
    intro i a hi h0 h1
    obtain ⟨t, ht, hta, hp⟩ := hE i a (by omega) h0 h1
    have hst : ∀ k, L (k + 1) a (i : Int) = (E k (i : Int) a).bind fun t => if t < 0 then some (-1) else L k t ((i + 1 : Nat) : Int) := fun k => by
      rw [hs, if_pos (by omega), if_pos (by omega), wsucc (n := n) (by omega) hn]
    by_cases hneg : t < 0
    · exact ⟨-1, Ev.step hst (ev_bind ht (by simp only [if_pos hneg]; exact Ev.now _)), by omega, fun h => by omega⟩
    · obtain ⟨r, hr, hra, hq⟩ := ih (i + 1) t (by omega) (by omega) (by omega)
      refine ⟨r, Ev.step hst (ev_bind ht (by simp only [if_neg hneg]; exact hr)), by omega, fun h0r m h2 h3 => ?_⟩
      by_cases e : m = i
      · subst e; exact hp (by omega)
      · exact hq h0r m (by omega) h3
end Go.Proofs.Ytjpjikhokpfhmaa.Pu

/- Elements of rows, by their number (in a seat without the laws' own copies of knots: in place of PuArena). -/
namespace Go.Proofs.Ytjpjikhokpfhmaa.Pu
open Go.RowKit Go.Proofs.Ytjpjikhokpfhmaa.PT Go.Proofs.YtjpjikhokpfhmaaW.PrintWords

theorem rd_nat (l : List Int) (i : Nat) : rd l (i : Int) = l.getD i 0 := rfl
theorem rdIK_nat (l : List S47) (i : Nat) : rd_T47 l (i : Int) = l.getD i z47 := rfl
end Go.Proofs.Ytjpjikhokpfhmaa.Pu

/- When an arena is right, as one test; the program's and the reference's ArenaOk answer it. -/
namespace Go.Proofs.Ytjpjikhokpfhmaa.Pu
set_option linter.unusedVariables false
set_option linter.unusedSimpArgs false
open Go.RowKit Go.Proofs.Ytjpjikhokpfhmaa.PT Go.Proofs.YtjpjikhokpfhmaaW.PrintWords

theorem in_eq (a l h : Int) : impl_in.f a l h = some (decide (l ≤ a ∧ a ≤ h)) := by
  unfold impl_in.f
  by_cases h1 : a ≥ l
  · rw [if_pos h1]; congr 1; simp; omega
  · rw [if_neg h1]; congr 1; simp; omega
theorem l01In_eq (a l h : Int) : spec_l01In.f a l h = some (decide (l ≤ a ∧ a ≤ h)) := by
  unfold spec_l01In.f
  by_cases h1 : a ≥ l
  · rw [if_pos h1]; congr 1; simp; omega
  · rw [if_neg h1]; congr 1; simp; omega

/-- A kid of the knot at place i. -/
def kidB (l : List S47) (i : Nat) (leaf : Bool) (n : Int) : Bool :=
  if leaf = true then decide (0 ≤ n) else decide (n = -1) || (decide (0 ≤ n ∧ n ≤ (i : Int) - 1) && (l.getD n.toNat z47).f0)
def knotB (l : List S47) (i : Nat) (x : S47) : Bool := decide (x.f1.length = 4) && x.f1.all (kidB l i x.f0)
def arenaB (l : List S47) : Bool := (List.range' 0 l.length).all fun i => knotB l i (l.getD i z47)

theorem sArena_step (k : Nat) (kids : List Int) (i j : Nat) (a : List S47) (leaf : Bool) (hi : i < a.length) (hn : a.length ≤ 9223372036854775807) (hj : j < 4) (hk : kids.length = 4) :
    spec_ArenaOk.l1 (k + 1) i j a leaf kids = if kidB a i leaf (kids.getD j 0) = true then spec_ArenaOk.l1 k i ((j + 1 : Nat) : Int) a leaf kids else some false := by
  simp only [spec_ArenaOk.l1]
  rw [if_pos (by omega), if_pos (by omega), if_pos (by omega), wsucc (n := 4) hj (by omega), w64 (x := (i : Int) - 1) (by omega) (by omega), rd_nat]
  generalize kids.getD j 0 = n
  unfold kidB
  cases leaf with
  | true => by_cases h : n < 0 <;> simp [h] <;> omega
  | false =>
    simp only [Bool.false_eq_true, if_false, l01In_eq, Option.bind_some, decide_eq_true_eq]
    by_cases h1 : n = -1
    · simp [h1]
    · by_cases h2 : 0 ≤ n ∧ n ≤ (i : Int) - 1
      · rw [if_neg h1, if_pos h2, if_pos h2.1, if_pos (by omega)]
        simp [h1, h2, rd_T47]
      · simp [h1, h2]
theorem iArena_step (k : Nat) (kids : List Int) (i j : Nat) (a : List S47) (leaf : Bool) (hi : i < a.length) (hn : a.length ≤ 9223372036854775807) (hj : j < 4) (hk : kids.length = 4) :
    impl_ArenaOk.l1 (k + 1) i a a.length i kids kids.length j a leaf kids = if kidB a i leaf (kids.getD j 0) = true then impl_ArenaOk.l1 k i a a.length i kids kids.length ((j + 1 : Nat) : Int) a leaf kids else some false := by
  simp only [impl_ArenaOk.l1]
  rw [if_pos (by omega), if_pos (by omega), if_pos (by omega), wsucc (n := 4) hj (by omega), w64 (x := (i : Int) - 1) (by omega) (by omega), rd_nat]
  generalize kids.getD j 0 = n
  unfold kidB
  cases leaf with
  | true => by_cases h : n < 0 <;> simp [h] <;> omega
  | false =>
    simp only [Bool.false_eq_true, if_false, in_eq, Option.bind_some, decide_eq_true_eq]
    by_cases h1 : n = -1
    · simp [h1]
    · by_cases h2 : 0 ≤ n ∧ n ≤ (i : Int) - 1
      · rw [if_neg h1, if_pos h2, if_pos h2.1, if_pos (by omega)]
        simp [h1, h2, rd_T47]
      · simp [h1, h2]
/-- The kids of one knot, tried in order; then what comes. -/
theorem ev_kids {L : Nat → Int → Option Bool} {g : Nat → Option Bool} {kids : List Int} {T : Int → Bool} {r : Bool} (hk : kids.length = 4)
    (hs : ∀ k j, j < 4 → L (k + 1) ((j : Nat) : Int) = if T (kids.getD j 0) = true then L k ((j + 1 : Nat) : Int) else some false) (he : ∀ k, L (k + 1) 4 = g k) (hr : Ev g r) :
    ∀ (d j : Nat), j + d = 4 → Ev (fun k => L k (j : Int)) ((kids.drop j).all T && r) := by
  intro d
  induction d with
  | zero =>
    intro j hj
    obtain rfl : j = 4 := by omega
    refine Ev.step (f := g) (fun k => he k) ?_
    rw [List.drop_eq_nil_of_le (by omega)]
    exact hr
  | succ d ih =>
    intro j hj
    have hjl : j < kids.length := by omega
    rw [List.drop_eq_getElem_cons hjl, List.all_cons]
    have e : kids.getD j 0 = kids[j] := by rw [List.getD_eq_getElem?_getD, List.getElem?_eq_getElem hjl]; rfl
    by_cases h : T kids[j] = true
    · rw [h, Bool.true_and]
      exact Ev.step (f := fun k => L k ((j + 1 : Nat) : Int)) (fun k => by rw [hs k j (by omega), e, if_pos h]) (ih (j + 1) (by omega))
    · rw [Bool.eq_false_iff.mpr h, Bool.false_and, Bool.false_and]
      exact ev_some fun k => by rw [hs k j (by omega), e, if_neg h]
theorem sArena_ev (a : List S47) (hn : a.length ≤ 9223372036854775807) : Ev (fun k => spec_ArenaOk.f k a) (arenaB a) := by
  have main : ∀ (d i : Nat), i + d = a.length → Ev (fun k => spec_ArenaOk.l0 k (i : Int) a) ((List.range' i d).all fun i => knotB a i (a.getD i z47)) := by
    intro d
    induction d with
    | zero => intro i hi; exact ev_some fun k => by simp only [spec_ArenaOk.l0]; rw [if_neg (by omega)]; rfl
    | succ d ih =>
      intro i hi
      rw [List.range'_succ, List.all_cons]
      unfold knotB
      by_cases h4 : (a.getD i z47).f1.length = 4
      · rw [decide_eq_true h4, Bool.true_and]
        have h := ev_kids (L := fun k j => spec_ArenaOk.l1 k i j a (a.getD i z47).f0 (a.getD i z47).f1) (T := kidB a i (a.getD i z47).f0) h4 (fun k j hj => sArena_step k (a.getD i z47).f1 i j a _ (by omega) hn hj h4)
          (g := fun k => spec_ArenaOk.l0 k ((i + 1 : Nat) : Int) a) (fun k => by simp only [spec_ArenaOk.l1]; rw [if_neg (by omega), wsucc (n := a.length) (by omega) hn]) (ih (i + 1) (by omega)) 4 0 rfl
        refine Ev.step (fun k => ?_) h
        simp only [spec_ArenaOk.l0]
        rw [if_pos (by omega), if_pos (by omega), rdIK_nat, if_pos (by omega)]
        rfl
      · rw [decide_eq_false h4, Bool.false_and, Bool.false_and]
        refine ev_some fun k => ?_
        simp only [spec_ArenaOk.l0]
        rw [if_pos (by omega), if_pos (by omega), rdIK_nat, if_neg (by omega)]
  exact main a.length 0 (by omega)
theorem iArena_ev (a : List S47) (hn : a.length ≤ 9223372036854775807) : Ev (fun k => impl_ArenaOk.f k a) (arenaB a) := by
  have main : ∀ (d i : Nat), i + d = a.length → Ev (fun k => impl_ArenaOk.l0 k a a.length (i : Int) a) ((List.range' i d).all fun i => knotB a i (a.getD i z47)) := by
    intro d
    induction d with
    | zero => intro i hi; exact ev_some fun k => by simp only [impl_ArenaOk.l0]; rw [if_neg (by omega)]; rfl
    | succ d ih =>
      intro i hi
      rw [List.range'_succ, List.all_cons]
      unfold knotB
      by_cases h4 : (a.getD i z47).f1.length = 4
      · rw [decide_eq_true h4, Bool.true_and]
        have h := ev_kids (L := fun k j => impl_ArenaOk.l1 k i a a.length i (a.getD i z47).f1 (a.getD i z47).f1.length j a (a.getD i z47).f0 (a.getD i z47).f1) (T := kidB a i (a.getD i z47).f0) h4 (fun k j hj => iArena_step k (a.getD i z47).f1 i j a _ (by omega) hn hj h4)
          (g := fun k => impl_ArenaOk.l0 k a a.length ((i + 1 : Nat) : Int) a) (fun k => by simp only [impl_ArenaOk.l1]; rw [if_neg (by omega), wsucc (n := a.length) (by omega) hn]) (ih (i + 1) (by omega)) 4 0 rfl
        refine Ev.step (fun k => ?_) h
        simp only [impl_ArenaOk.l0]
        rw [if_pos (by omega), if_pos (by omega), if_pos (by omega), rdIK_nat, if_pos (by omega)]
        rfl
      · rw [decide_eq_false h4, Bool.false_and, Bool.false_and]
        refine ev_some fun k => ?_
        simp only [impl_ArenaOk.l0]
        rw [if_pos (by omega), if_pos (by omega), if_pos (by omega), rdIK_nat, if_neg (by omega)]
  exact main a.length 0 (by omega)
end Go.Proofs.Ytjpjikhokpfhmaa.Pu

/- The number of a sector of a tree, as one function; the program's and the reference's GetAt answer it. -/
namespace Go.Proofs.Ytjpjikhokpfhmaa.Pu
set_option linter.unusedVariables false
set_option linter.unusedSimpArgs false
open Go.RowKit Go.Proofs.Ytjpjikhokpfhmaa.PT Go.Proofs.YtjpjikhokpfhmaaW.PrintWords

def rootB (a : List S47) (r : Int) : Bool := decide (0 ≤ r ∧ r ≤ (a.length : Int) - 1) && !(a.getD r.toNat z47).f0
def numB (a : List S47) (r s : Int) : Int := if (a.getD r.toNat z47).f1.getD (s / 4).toNat 0 < 0 then 0 else (a.getD ((a.getD r.toNat z47).f1.getD (s / 4).toNat 0).toNat z47).f1.getD (s % 4).toNat 0
def getB (a : List S47) (r s : Int) : Int := if (0 ≤ s ∧ s ≤ 15) ∧ rootB a r = true ∧ arenaB a = true then numB a r s else 0

theorem knot_of {a : List S47} (h : arenaB a = true) {i : Nat} (hi : i < a.length) : (a.getD i z47).f1.length = 4 ∧ ∀ n ∈ (a.getD i z47).f1, kidB a i (a.getD i z47).f0 n = true := by
  unfold arenaB at h
  rw [List.all_eq_true] at h
  have h1 := h i (by simp; omega)
  unfold knotB at h1
  rw [Bool.and_eq_true, decide_eq_true_eq, List.all_eq_true] at h1
  exact h1
theorem getD_mem {α : Type} {l : List α} {i : Nat} {z : α} (hi : i < l.length) : l.getD i z ∈ l := by
  rw [List.getD_eq_getElem?_getD, List.getElem?_eq_getElem hi]; exact List.getElem_mem hi
/-- A kid of a knot that is no leaf: -1, or the place of a leaf. -/
theorem kid_of {a : List S47} (h : arenaB a = true) {r : Nat} (hr : r < a.length) (hf : (a.getD r z47).f0 = false) {j : Nat} (hj : j < 4) :
    (a.getD r z47).f1.getD j 0 = -1 ∨ (0 ≤ (a.getD r z47).f1.getD j 0 ∧ (a.getD r z47).f1.getD j 0 < r ∧ (a.getD ((a.getD r z47).f1.getD j 0).toNat z47).f0 = true) := by
  obtain ⟨h4, hk⟩ := knot_of h hr
  have h1 := hk _ (getD_mem (i := j) (z := 0) (by omega))
  unfold kidB at h1
  rw [hf] at h1
  simp only [Bool.false_eq_true, if_false, Bool.or_eq_true, decide_eq_true_eq, Bool.and_eq_true] at h1
  rcases h1 with h1 | ⟨h1, h2⟩
  · exact .inl h1
  · exact .inr ⟨h1.1, by omega, h2⟩
theorem iRoot_eq (a : List S47) (r : Int) (hn : a.length ≤ 9223372036854775807) : impl_isRoot.f a r = some (rootB a r) := by
  unfold impl_isRoot.f rootB
  rw [w64 (by omega) (by omega), in_eq]
  simp only [Option.bind_some]
  by_cases h : 0 ≤ r ∧ r ≤ (a.length : Int) - 1
  · rw [decide_eq_true h, if_pos rfl, if_pos h.1, if_pos (by omega), Bool.true_and]; rfl
  · rw [decide_eq_false h, if_neg (by decide), Bool.false_and]
theorem sRoot_eq (a : List S47) (r : Int) (hn : a.length ≤ 9223372036854775807) : spec_l11Root.f a r = some (decide (r = -1) || rootB a r) := by
  unfold spec_l11Root.f rootB
  by_cases h0 : r = -1
  · rw [if_pos h0, decide_eq_true h0, Bool.true_or]
  · rw [if_neg h0, decide_eq_false h0, Bool.false_or, w64 (by omega) (by omega), l01In_eq]
    simp only [Option.bind_some]
    by_cases h : 0 ≤ r ∧ r ≤ (a.length : Int) - 1
    · rw [decide_eq_true h, if_pos rfl, if_pos h.1, if_pos (by omega), Bool.true_and]; rfl
    · rw [decide_eq_false h, if_neg (by decide), Bool.false_and]
theorem div4 {s : Int} (h0 : 0 ≤ s) (h1 : s ≤ 15) : wrap64 (Int.tdiv s 4) = s / 4 ∧ Int.tmod s 4 = s % 4 ∧ 0 ≤ s / 4 ∧ s / 4 < 4 ∧ 0 ≤ s % 4 ∧ s % 4 < 4 := by
  rw [Int.tdiv_eq_ediv_of_nonneg h0, Int.tmod_eq_emod_of_nonneg h0, w64 (by omega) (by omega)]
  omega
theorem root_lt {a : List S47} {r : Int} (h : rootB a r = true) : 0 ≤ r ∧ r.toNat < a.length ∧ (a.getD r.toNat z47).f0 = false := by
  unfold rootB at h
  rw [Bool.and_eq_true, decide_eq_true_eq, Bool.not_eq_true'] at h
  exact ⟨h.1.1, by omega, h.2⟩
theorem iNumber_eq (a : List S47) (r s : Int) (ha : arenaB a = true) (hr : rootB a r = true) (h0 : 0 ≤ s) (h1 : s ≤ 15) : impl_numberAt.f a r s = some (numB a r s) := by
  obtain ⟨r0, rl, rf⟩ := root_lt hr
  obtain ⟨d1, d2, d3, d4, d5, d6⟩ := div4 h0 h1
  have h4 := (knot_of ha rl).1
  have hk := kid_of ha rl rf (j := (s / 4).toNat) (by omega)
  unfold impl_numberAt.f numB
  simp only [d1, d2]
  show (if 0 ≤ r then if r < (a.length : Int) then if 0 ≤ s / 4 then if s / 4 < (((a.getD r.toNat z47).f1.length : Nat) : Int) then if (a.getD r.toNat z47).f1.getD (s / 4).toNat 0 < 0 then some 0 else if 0 ≤ (a.getD r.toNat z47).f1.getD (s / 4).toNat 0 then if (a.getD r.toNat z47).f1.getD (s / 4).toNat 0 < (a.length : Int) then if 0 ≤ s % 4 then if s % 4 < (((a.getD ((a.getD r.toNat z47).f1.getD (s / 4).toNat 0).toNat z47).f1.length : Nat) : Int) then some ((a.getD ((a.getD r.toNat z47).f1.getD (s / 4).toNat 0).toNat z47).f1.getD (s % 4).toNat 0) else none else none else none else none else none else none else none else none) = _
  rw [if_pos r0, if_pos (by omega), if_pos d3, if_pos (by omega)]
  rcases hk with hk | ⟨k0, k1, _⟩
  · rw [if_pos (by omega), if_pos (by omega)]
  · have h5 := (knot_of ha (i := ((a.getD r.toNat z47).f1.getD (s / 4).toNat 0).toNat) (by omega)).1
    rw [if_neg (by omega), if_pos k0, if_pos (by omega), if_pos d5, if_pos (by omega), if_neg (by omega)]
theorem sGet_eq (a : List S47) (r s : Int) (ha : arenaB a = true) (hr : rootB a r = true) (h0 : 0 ≤ s) (h1 : s ≤ 15) : spec_l11Get.f a r s = some (numB a r s) := by
  obtain ⟨r0, rl, rf⟩ := root_lt hr
  have h := iNumber_eq a r s ha hr h0 h1
  unfold impl_numberAt.f at h
  unfold spec_l11Get.f
  rw [if_neg (by omega)]
  exact h
theorem iGetAt_ev (a : List S47) (r s : Int) (hn : a.length ≤ 9223372036854775807) : Ev (fun k => impl_GetAt.f k a r s) (getB a r s) := by
  unfold impl_GetAt.f getB
  simp only [in_eq, iRoot_eq a r hn, Option.bind_some, decide_eq_true_eq]
  by_cases h1 : 0 ≤ s ∧ s ≤ 15
  · by_cases h2 : rootB a r = true
    · simp only [if_pos h1, if_pos h2]
      refine ev_bind (iArena_ev a hn) ?_
      by_cases h3 : arenaB a = true
      · simp only [if_pos h3, if_pos (show (0 ≤ s ∧ s ≤ 15) ∧ rootB a r = true ∧ arenaB a = true from ⟨h1, h2, h3⟩)]
        rw [iNumber_eq a r s h3 h2 h1.1 h1.2]
        exact Ev.now _
      · simp only [if_neg h3, if_neg (show ¬ ((0 ≤ s ∧ s ≤ 15) ∧ rootB a r = true ∧ arenaB a = true) from fun h => h3 h.2.2)]
        exact Ev.now _
    · simp only [if_pos h1, if_neg h2, if_neg (show ¬ ((0 ≤ s ∧ s ≤ 15) ∧ rootB a r = true ∧ arenaB a = true) from fun h => h2 h.2.1)]
      exact Ev.now _
  · simp only [if_neg h1, if_neg (show ¬ ((0 ≤ s ∧ s ≤ 15) ∧ rootB a r = true ∧ arenaB a = true) from fun h => h1 h.1)]
    exact Ev.now _
theorem sGetAt_ev (a : List S47) (r s : Int) (hn : a.length ≤ 9223372036854775807) : Ev (fun k => spec_GetAt.f k a r s) (getB a r s) := by
  unfold spec_GetAt.f getB
  refine ev_bind (sArena_ev a hn) ?_
  by_cases h3 : arenaB a = true
  · simp only [if_pos h3, l01In_eq, sRoot_eq a r hn, Option.bind_some]
    by_cases h2 : rootB a r = true
    · simp only [h2, Bool.or_true, if_true]
      by_cases h1 : 0 ≤ s ∧ s ≤ 15
      · simp only [decide_eq_true h1, if_true, if_pos (show (0 ≤ s ∧ s ≤ 15) ∧ True ∧ arenaB a = true from ⟨h1, trivial, h3⟩)]
        rw [sGet_eq a r s h3 h2 h1.1 h1.2]
        exact Ev.now _
      · simp only [decide_eq_false h1, Bool.false_eq_true, if_false, if_neg (show ¬ ((0 ≤ s ∧ s ≤ 15) ∧ True ∧ arenaB a = true) from fun h => h1 h.1)]
        exact Ev.now _
    · have e : getB a r s = 0 := by unfold getB; exact if_neg fun h => h2 h.2.1
      unfold getB at e
      rw [e]
      by_cases h0 : r = -1
      · simp only [decide_eq_true h0, Bool.true_or, if_true]
        by_cases h1 : 0 ≤ s ∧ s ≤ 15
        · simp only [decide_eq_true h1, if_true]
          unfold spec_l11Get.f
          simp only [if_pos (show r < 0 by omega), Option.bind_some]
          exact Ev.now _
        · simp only [decide_eq_false h1, Bool.false_eq_true, if_false]
          exact Ev.now _
      · simp only [decide_eq_false h0, Bool.eq_false_iff.mpr h2, Bool.or_self, Bool.false_eq_true, if_false]
        exact Ev.now _
  · simp only [if_neg h3, if_neg (show ¬ ((0 ≤ s ∧ s ≤ 15) ∧ rootB a r = true ∧ arenaB a = true) from fun h => h3 h.2.2)]
    exact Ev.now _
end Go.Proofs.Ytjpjikhokpfhmaa.Pu

/- The copies of an arena. -/
namespace Go.Proofs.Ytjpjikhokpfhmaa.Pu
set_option linter.unusedVariables false
set_option linter.unusedSimpArgs false
open Go.RowKit Go.Proofs.Ytjpjikhokpfhmaa.PT Go.Proofs.YtjpjikhokpfhmaaW.PrintWords

theorem drop_cons {α : Type} {l : List α} {i : Nat} (z : α) (h : i < l.length) : l.drop i = l.getD i z :: l.drop (i + 1) := by
  rw [List.drop_eq_getElem_cons h, List.getD_eq_getElem?_getD, List.getElem?_eq_getElem h]; rfl
theorem sCopyArena_ev (a : List S47) (hn : a.length ≤ 1048576) (hx : ∀ x ∈ a, x.f1.length ≤ 1048576) : Ev (fun k => spec_l11Copy.f k a) a := by
  have main : ∀ (d i : Nat) (acc : List S47), i + d = a.length → acc.length = i → Ev (fun k => spec_l11Copy.l0 k (i : Int) a acc) (acc ++ a.drop i) := by
    intro d
    induction d with
    | zero => intro i acc hi hl; exact ev_some fun k => by simp only [spec_l11Copy.l0]; rw [if_neg (by omega), List.drop_eq_nil_of_le (by omega), List.append_nil]
    | succ d ih =>
      intro i acc hi hl
      have hil : i < a.length := by omega
      have hm := hx _ (getD_mem (z := z47) hil)
      have h := ih (i + 1) (acc ++ [a.getD i z47]) (by omega) (by simp; omega)
      rw [List.append_assoc, List.singleton_append, ← drop_cons z47 hil] at h
      refine Ev.step (fun k => ?_) h
      simp only [spec_l11Copy.l0]
      rw [if_pos (by omega), if_pos (by omega), rdIK_nat, Option.bind_some, if_pos (show ([] : List Int).length + (a.getD i z47).f1.length < 17592186044416 by rw [List.length_nil]; omega), if_pos (by omega), wsucc (n := a.length) hil (by omega), List.nil_append]
  have h := main a.length 0 [] (by omega) rfl
  rw [List.nil_append, List.drop_zero] at h
  exact h
theorem iCopyInts_eq {l : List Int} (h : l.length ≤ 1048576) : impl_copyInts.f l = some l := by
  unfold impl_copyInts.f
  rw [if_pos (by simp; omega), List.nil_append]
theorem app_ok {α : Type} (l : List α) {c : Nat} : l ++ [] = l := List.append_nil l
theorem iCopyArena_ev (a : List S47) (hn : a.length ≤ 1048576) (hx : ∀ x ∈ a, x.f1.length ≤ 1048576) : Ev (fun k => impl_copyArena.f k a) a := by
  have main : ∀ (d i : Nat) (acc : List S47), i + d = a.length → acc.length = i → Ev (fun k => impl_copyArena.l0 k a a.length (i : Int) acc) (acc ++ a.drop i) := by
    intro d
    induction d with
    | zero => intro i acc hi hl; exact ev_some fun k => by simp only [impl_copyArena.l0]; rw [if_neg (by omega), List.drop_eq_nil_of_le (by omega), List.append_nil]
    | succ d ih =>
      intro i acc hi hl
      have hil : i < a.length := by omega
      have h := ih (i + 1) (acc ++ [a.getD i z47]) (by omega) (by simp; omega)
      rw [List.append_assoc, List.singleton_append, ← drop_cons z47 hil] at h
      refine Ev.step (fun k => ?_) h
      simp only [impl_copyArena.l0]
      rw [if_pos (by omega), if_pos (by omega), if_pos (by omega), rdIK_nat, iCopyInts_eq (hx _ (getD_mem hil)), Option.bind_some, if_pos (by omega), wsucc (n := a.length) hil (by omega)]
  have h := main a.length 0 [] (by omega) rfl
  rw [List.nil_append, List.drop_zero] at h
  exact h
end Go.Proofs.Ytjpjikhokpfhmaa.Pu

/- What is put into a tree, as one function; the program's and the reference's PutAt answer it. -/
namespace Go.Proofs.Ytjpjikhokpfhmaa.Pu
set_option linter.unusedVariables false
set_option linter.unusedSimpArgs false
open Go.RowKit Go.Proofs.Ytjpjikhokpfhmaa.PT Go.Proofs.YtjpjikhokpfhmaaW.PrintWords

def topB (a : List S47) (r : Int) : List Int := if r = -1 then [-1, -1, -1, -1] else (a.getD r.toNat z47).f1
def leafB (a : List S47) (r s : Int) : List Int := if 0 ≤ (topB a r).getD (s / 4).toNat 0 then (a.getD ((topB a r).getD (s / 4).toNat 0).toNat z47).f1 else List.replicate 4 0
def canPut (a : List S47) (r s n : Int) : Prop := arenaB a = true ∧ (r = -1 ∨ rootB a r = true) ∧ (0 ≤ s ∧ s ≤ 15) ∧ 0 ≤ n
instance (a : List S47) (r s n : Int) : Decidable (canPut a r s n) := by unfold canPut; infer_instance
def putB (a : List S47) (r s n : Int) : List S47 × Int :=
  if canPut a r s n then (a ++ [⟨true, (leafB a r s).set (s % 4).toNat n⟩, ⟨false, (topB a r).set (s / 4).toNat (a.length : Int)⟩], (a.length : Int) + 1) else (a, r)
theorem putB_no {a : List S47} {r s n : Int} (h : ¬ canPut a r s n) : putB a r s n = (a, r) := if_neg h
theorem putB_yes {a : List S47} {r s n : Int} {t l : List Int} (h : canPut a r s n) (ht : topB a r = t) (hl : leafB a r s = l) :
    putB a r s n = (a ++ [⟨true, l.set (s % 4).toNat n⟩, ⟨false, t.set (s / 4).toNat (a.length : Int)⟩], (a.length : Int) + 1) := by
  unfold putB; rw [if_pos h, ht, hl]
theorem none4 : ∀ j : Nat, j < 4 → ([-1, -1, -1, -1] : List Int).getD j 0 = -1 := by decide
theorem rd_toNat (l : List Int) (i : Int) : rd l i = l.getD i.toNat 0 := Eq.trans rfl rfl
theorem rdK_toNat (l : List S47) (i : Int) : rd_T47 l i = l.getD i.toNat z47 := Eq.trans rfl rfl
theorem rep4_len : (List.replicate 4 (0 : Int)).length = 4 := rfl
theorem leaf_new {a : List S47} {r s : Int} {t : List Int} (ht : topB a r = t) (h : ¬ 0 ≤ t.getD (s / 4).toNat 0) : leafB a r s = List.replicate 4 0 := by
  unfold leafB; rw [ht, if_neg h]
theorem leaf_old {a : List S47} {r s : Int} {t : List Int} (ht : topB a r = t) (h : 0 ≤ t.getD (s / 4).toNat 0) : leafB a r s = (a.getD (t.getD (s / 4).toNat 0).toNat z47).f1 := by
  unfold leafB; rw [ht, if_pos h]
theorem top_none {a : List S47} {r : Int} (h : r = -1) : topB a r = [-1, -1, -1, -1] := if_pos h
theorem top_some {a : List S47} {r : Int} (h : ¬ r = -1) : topB a r = (a.getD r.toNat z47).f1 := if_neg h
theorem putB_bound {a : List S47} {r s n : Int} (hn : a.length ≤ 1048576) (hx : ∀ x ∈ a, x.f1.length ≤ 1048576) : (putB a r s n).1.length ≤ 1048578 ∧ ∀ x ∈ (putB a r s n).1, x.f1.length ≤ 1048576 := by
  by_cases h : canPut a r s n
  · have top : (topB a r).length ≤ 1048576 := by
      by_cases h0 : r = -1
      · rw [top_none h0]; decide
      · rw [top_some h0]
        obtain ⟨_, h2, _⟩ := h
        obtain ⟨_, rl, _⟩ := root_lt (h2.resolve_left h0)
        exact hx _ (getD_mem rl)
    have leaf : (leafB a r s).length ≤ 1048576 := by
      unfold leafB
      split
      · by_cases hi : ((topB a r).getD (s / 4).toNat 0).toNat < a.length
        · exact hx _ (getD_mem hi)
        · rw [List.getD_eq_getElem?_getD, List.getElem?_eq_none (by omega)]; exact Nat.zero_le _
      · rw [List.length_replicate]; omega
    rw [putB_yes h rfl rfl]
    refine ⟨by simp only [List.length_append, List.length_cons, List.length_nil]; omega, fun x hx' => ?_⟩
    rcases List.mem_append.1 hx' with hx' | hx'
    · exact hx _ hx'
    · rcases List.mem_cons.1 hx' with rfl | hx'
      · show (List.set _ _ _).length ≤ _
        rw [List.length_set]; exact leaf
      · obtain rfl := List.mem_singleton.1 hx'
        show (List.set _ _ _).length ≤ _
        rw [List.length_set]; exact top
  · rw [putB_no h]; exact ⟨by show a.length ≤ _; omega, hx⟩
theorem iPut_ev (a : List S47) (r s n : Int) (hn : a.length ≤ 1048576) (hx : ∀ x ∈ a, x.f1.length ≤ 1048576) : Ev (fun k => impl_PutAt.f k a r s n) (putB a r s n) := by
  unfold impl_PutAt.f
  refine ev_bind (iCopyArena_ev a hn hx) ?_
  by_cases h0 : r = -1
  · simp only [if_pos h0, in_eq, Option.bind_some, decide_eq_true_eq]
    by_cases h1 : 0 ≤ s ∧ s ≤ 15
    · obtain ⟨d1, d2, d3, d4, d5, d6⟩ := div4 h1.1 h1.2
      simp only [if_pos h1]
      by_cases h2 : n < 0
      · simp only [if_pos h2]; rw [putB_no (fun h => by have := h.2.2.2; omega)]; exact Ev.now _
      · simp only [if_neg h2]
        refine ev_bind (iArena_ev a (by omega)) ?_
        by_cases h3 : arenaB a = true
        · have hc : canPut a r s n := ⟨h3, .inl h0, h1, by omega⟩
          have ht := top_none (a := a) h0
          have hq : ¬ 0 ≤ ([-1, -1, -1, -1] : List Int).getD (s / 4).toNat 0 := by rw [none4 _ (by omega)]; decide
          rw [putB_yes hc ht (leaf_new ht hq)]
          simp only [if_pos h3, d1, d2, rd_toNat]
          rw [if_pos d3, if_pos d4, if_neg hq, if_pos d5, if_pos d6, if_pos (by omega), w64 (by omega) (by omega)]
          exact Ev.now _
        · simp only [if_neg h3]; rw [putB_no (fun h => h3 h.1)]; exact Ev.now _
    · simp only [if_neg h1]; rw [putB_no (fun h => h1 h.2.2.1)]; exact Ev.now _
  · simp only [if_neg h0, iRoot_eq a r (by omega), in_eq, Option.bind_some, decide_eq_true_eq]
    by_cases hr : rootB a r = true
    · obtain ⟨r0, rl, rf⟩ := root_lt hr
      simp only [if_pos hr]
      by_cases h1 : 0 ≤ s ∧ s ≤ 15
      · obtain ⟨d1, d2, d3, d4, d5, d6⟩ := div4 h1.1 h1.2
        simp only [if_pos h1]
        by_cases h2 : n < 0
        · simp only [if_pos h2]; rw [putB_no (fun h => by have := h.2.2.2; omega)]; exact Ev.now _
        · simp only [if_neg h2]
          refine ev_bind (iArena_ev a (by omega)) ?_
          by_cases h3 : arenaB a = true
          · have hc : canPut a r s n := ⟨h3, .inr hr, h1, by omega⟩
            have ht := top_some (a := a) h0
            have h4 := (knot_of h3 rl).1
            have hk := kid_of h3 rl rf (j := (s / 4).toNat) (by omega)
            simp only [if_pos h3, d1, d2, rdK_toNat]
            rw [if_pos r0, if_pos (by omega), iCopyInts_eq (hx _ (getD_mem rl)), Option.bind_some, if_pos d3, if_pos (by omega)]
            simp only [rd_toNat]
            rcases hk with hk | ⟨k0, k1, _⟩
            · have hq : ¬ 0 ≤ (a.getD r.toNat z47).f1.getD (s / 4).toNat 0 := by omega
              rw [putB_yes hc ht (leaf_new ht hq), if_neg hq, if_pos d5, if_pos d6, if_pos (by omega), w64 (by omega) (by omega)]
              exact Ev.now _
            · have hi : ((a.getD r.toNat z47).f1.getD (s / 4).toNat 0).toNat < a.length := by omega
              have h5 := (knot_of h3 hi).1
              rw [putB_yes hc ht (leaf_old ht k0), if_pos k0, if_pos (by omega), iCopyInts_eq (hx _ (getD_mem hi)), Option.bind_some, if_pos d5, if_pos (by omega), if_pos (by omega), w64 (by omega) (by omega)]
              exact Ev.now _
          · simp only [if_neg h3]; rw [putB_no (fun h => h3 h.1)]; exact Ev.now _
      · simp only [if_neg h1]; rw [putB_no (fun h => h1 h.2.2.1)]; exact Ev.now _
    · simp only [if_neg hr]; rw [putB_no (fun h => hr (h.2.1.resolve_left h0))]; exact Ev.now _
theorem sPut_ev (a : List S47) (r s n : Int) (hn : a.length ≤ 1048576) (hx : ∀ x ∈ a, x.f1.length ≤ 1048576) : Ev (fun k => spec_PutAt.f k a r s n) (putB a r s n) := by
  unfold spec_PutAt.f
  refine ev_bind (sCopyArena_ev a hn hx) (ev_bind (sArena_ev a (by omega)) ?_)
  by_cases h3 : arenaB a = true
  · simp only [if_pos h3, sRoot_eq a r (by omega), l01In_eq, Option.bind_some, Bool.or_eq_true, decide_eq_true_eq]
    by_cases hr : r = -1 ∨ rootB a r = true
    · simp only [if_pos hr]
      by_cases h1 : 0 ≤ s ∧ s ≤ 15
      · obtain ⟨d1, d2, d3, d4, d5, d6⟩ := div4 h1.1 h1.2
        simp only [if_pos h1]
        by_cases h2 : n < 0
        · simp only [if_pos h2]; rw [putB_no (fun h => by have := h.2.2.2; omega)]; exact Ev.now _
        · simp only [if_neg h2]
          have hc : canPut a r s n := ⟨h3, hr, h1, by omega⟩
          by_cases h0 : r = -1
          · have ht := top_none (a := a) h0
            have hq : ¬ 0 ≤ ([-1, -1, -1, -1] : List Int).getD (s / 4).toNat 0 := by rw [none4 _ (by omega)]; decide
            simp only [d1, d2]
            rw [putB_yes hc ht (leaf_new ht hq), if_neg (by omega), if_pos d3, if_pos d4, if_pos d5, if_pos d6, if_pos (by omega), w64 (by omega) (by omega), show (a.length : Int) + 2 - 1 = a.length + 1 by omega]
            exact Ev.now _
          · have ht := top_some (a := a) h0
            obtain ⟨r0, rl, rf⟩ := root_lt (hr.resolve_left h0)
            have h4 := (knot_of h3 rl).1
            have hk := kid_of h3 rl rf (j := (s / 4).toNat) (by omega)
            simp only [d1, d2, rdK_toNat]
            rw [if_pos r0, if_pos (by omega), if_pos (by omega), if_pos d3, if_pos (by omega)]
            simp only [rd_toNat]
            rcases hk with hk | ⟨k0, k1, _⟩
            · have hq : ¬ 0 ≤ (a.getD r.toNat z47).f1.getD (s / 4).toNat 0 := by omega
              rw [putB_yes hc ht (leaf_new ht hq), if_neg hq, if_pos d5, if_pos d6, if_pos (by omega), w64 (by omega) (by omega), show (a.length : Int) + 2 - 1 = a.length + 1 by omega]
              exact Ev.now _
            · have hi : ((a.getD r.toNat z47).f1.getD (s / 4).toNat 0).toNat < a.length := by omega
              have h5 := (knot_of h3 hi).1
              rw [putB_yes hc ht (leaf_old ht k0), if_pos k0, if_pos (by omega), if_pos (by omega), if_pos d5, if_pos (by omega), if_pos (by omega), w64 (by omega) (by omega), show (a.length : Int) + 2 - 1 = a.length + 1 by omega]
              exact Ev.now _
      · simp only [if_neg h1]; rw [putB_no (fun h => h1 h.2.2.1)]; exact Ev.now _
    · simp only [if_neg hr]; rw [putB_no (fun h => hr h.2.1)]; exact Ev.now _
  · simp only [if_neg h3]; rw [putB_no (fun h => h3 h.1)]; exact Ev.now _
end Go.Proofs.Ytjpjikhokpfhmaa.Pu

/- More plain facts on rounds: tests in a row, folds, searches. -/
namespace Go.Proofs.Ytjpjikhokpfhmaa.Pu
set_option linter.unusedVariables false
set_option linter.unusedSimpArgs false
open Go.RowKit Go.Proofs.YtjpjikhokpfhmaaW.PrintWords

/-- Tests in a row, one a round; then what comes. -/
theorem ev_scan {L : Nat → Int → Option Bool} {g : Nat → Option Bool} {n : Nat} {T : Nat → Bool} {r : Bool}
    (hs : ∀ k i, i < n → L (k + 1) (i : Int) = if T i = true then L k ((i + 1 : Nat) : Int) else some false) (he : ∀ k, L (k + 1) (n : Int) = g k) (hr : Ev g r) :
    ∀ (d i : Nat), i + d = n → Ev (fun k => L k (i : Int)) ((List.range' i d).all T && r) := by
  intro d
  induction d with
  | zero =>
    intro i hi
    obtain rfl : i = n := by omega
    exact Ev.step he hr
  | succ d ih =>
    intro i hi
    rw [List.range'_succ, List.all_cons]
    by_cases h : T i = true
    · rw [h, Bool.true_and]
      exact Ev.step (fun k => by rw [hs k i (by omega), if_pos h]) (ih (i + 1) (by omega))
    · rw [Bool.eq_false_iff.mpr h, Bool.false_and, Bool.false_and]
      exact ev_some fun k => by rw [hs k i (by omega), if_neg h]
/-- Tests in a row, each of many rounds; then what comes. -/
theorem ev_outer {L : Nat → Int → Option Bool} {n : Nat} {T : Nat → Bool} {r0 : Bool}
    (hs : ∀ i r, i < n → Ev (fun k => L k ((i + 1 : Nat) : Int)) r → Ev (fun k => L k (i : Int)) (T i && r)) (he : Ev (fun k => L k (n : Int)) r0) :
    ∀ (d i : Nat), i + d = n → Ev (fun k => L k (i : Int)) ((List.range' i d).all T && r0) := by
  intro d
  induction d with
  | zero =>
    intro i hi
    obtain rfl : i = n := by omega
    exact he
  | succ d ih =>
    intro i hi
    rw [List.range'_succ, List.all_cons, Bool.and_assoc]
    exact hs i _ (by omega) (ih (i + 1) (by omega))
/-- A state that is carried along; then what comes. -/
theorem ev_fold {σ ρ : Type} {L : Nat → σ → Int → Option ρ} {n : Nat} {F : σ → Nat → σ} {fin : σ → ρ} (Inv : Nat → σ → Prop)
    (hs : ∀ s i, i < n → Inv i s → ∀ r, Ev (fun k => L k (F s i) ((i + 1 : Nat) : Int)) r → Ev (fun k => L k s (i : Int)) r) (hi : ∀ s i, i < n → Inv i s → Inv (i + 1) (F s i))
    (he : ∀ s, Inv n s → Ev (fun k => L k s (n : Int)) (fin s)) : ∀ (d i : Nat) (s : σ), i + d = n → Inv i s → Ev (fun k => L k s (i : Int)) (fin ((List.range' i d).foldl F s)) := by
  intro d
  induction d with
  | zero =>
    intro i s h hv
    obtain rfl : i = n := by omega
    exact he s hv
  | succ d ih =>
    intro i s h hv
    rw [List.range'_succ, List.foldl_cons]
    exact hs s i (by omega) hv _ (ih (i + 1) (F s i) (by omega) (hi s i (by omega) hv))
/-- The first place that meets a test, -1 without one. -/
def findI (T : Nat → Bool) : Nat → Nat → Int
  | _, 0 => -1
  | i, d + 1 => if T i = true then (i : Int) else findI T (i + 1) d
theorem ev_find {L : Nat → Int → Option Int} {n : Nat} {T : Nat → Bool}
    (hy : ∀ i, i < n → T i = true → Ev (fun k => L k (i : Int)) (i : Int)) (hn : ∀ i, i < n → T i = false → ∀ r, Ev (fun k => L k ((i + 1 : Nat) : Int)) r → Ev (fun k => L k (i : Int)) r)
    (he : Ev (fun k => L k (n : Int)) (-1)) : ∀ (d i : Nat), i + d = n → Ev (fun k => L k (i : Int)) (findI T i d) := by
  intro d
  induction d with
  | zero =>
    intro i hi
    obtain rfl : i = n := by omega
    exact he
  | succ d ih =>
    intro i hi
    unfold findI
    by_cases h : T i = true
    · rw [if_pos h]; exact hy i (by omega) h
    · rw [if_neg h]; exact hn i (by omega) (Bool.eq_false_iff.mpr h) _ (ih (i + 1) (by omega))
theorem findI_range {T : Nat → Bool} : ∀ (d i : Nat), findI T i d = -1 ∨ ∃ j, i ≤ j ∧ j < i + d ∧ findI T i d = (j : Int) ∧ T j = true
  | 0, i => .inl rfl
  | d + 1, i => by
    unfold findI
    by_cases h : T i = true
    · rw [if_pos h]; exact .inr ⟨i, Nat.le_refl _, by omega, rfl, h⟩
    · rw [if_neg h]
      rcases findI_range d (i + 1) with h1 | ⟨j, h1, h2, h3, h4⟩
      · exact .inl h1
      · exact .inr ⟨j, by omega, by omega, h3, h4⟩
theorem bytes_empty (a : ByteArray) : (a.toList == ([] : List UInt8)) = decide ((a.size : Int) ≤ 0) := by
  rw [ByteArray.toList_eq]
  have h : a.data.toList.length = a.size := by rw [Array.length_toList]; rfl
  cases e : a.data.toList with
  | nil =>
    have h1 : a.size = 0 := by rw [← h, e]; rfl
    rw [decide_eq_true (by omega)]; rfl
  | cons x l =>
    have h1 : a.size = l.length + 1 := by rw [← h, e]; rfl
    rw [decide_eq_false (by omega)]; rfl
theorem getD_mem' {α : Type} {l : List α} {i : Nat} {z : α} (hi : i < l.length) : l.getD i z ∈ l := by
  rw [List.getD_eq_getElem?_getD, List.getElem?_eq_getElem hi]; exact List.getElem_mem hi
end Go.Proofs.Ytjpjikhokpfhmaa.Pu

/- The numbers of all sectors of a tree, as one list; the program's and the reference's AllAt tell it. -/
namespace Go.Proofs.Ytjpjikhokpfhmaa.Pu
set_option linter.unusedVariables false
set_option linter.unusedSimpArgs false
open Go.RowKit Go.Proofs.Ytjpjikhokpfhmaa.PT Go.Proofs.YtjpjikhokpfhmaaW.PrintWords

def allB (a : List S47) (r : Int) : List Int := (List.range' 0 16).map fun (i : Nat) => getB a r (i : Int)
theorem allB_len (a : List S47) (r : Int) : (allB a r).length = 16 := by simp [allB]
theorem allB_get (a : List S47) (r : Int) {i : Nat} (hi : i < 16) : (allB a r).getD i 0 = getB a r (i : Int) := by
  rw [List.getD_eq_getElem?_getD, List.getElem?_eq_getElem (by rw [allB_len]; exact hi)]
  simp [allB]
theorem iAllAt_ev (a : List S47) (r : Int) (hn : a.length ≤ 9223372036854775807) : Ev (fun k => impl_AllAt.f k a r) (allB a r) := by
  have main : ∀ (d i : Nat) (acc : List Int), i + d = 16 → acc.length = i → Ev (fun k => impl_AllAt.l0 k r acc (i : Int) a) (acc ++ (List.range' i d).map fun (i : Nat) => getB a r (i : Int)) := by
    intro d
    induction d with
    | zero => intro i acc hi hl; exact ev_some fun k => by simp only [impl_AllAt.l0]; rw [if_neg (by omega)]; simp
    | succ d ih =>
      intro i acc hi hl
      have h := ih (i + 1) (acc ++ [getB a r (i : Int)]) (by omega) (by simp; omega)
      rw [List.append_assoc, List.singleton_append] at h
      rw [List.range'_succ, List.map_cons]
      refine Ev.step (f := fun k => (impl_GetAt.f k a r (i : Int)).bind fun t => impl_AllAt.l0 k r (acc ++ [t]) ((i + 1 : Nat) : Int) a) (fun k => ?_) (ev_bind (iGetAt_ev a r i hn) h)
      simp only [impl_AllAt.l0]
      rw [if_pos (by omega), wsucc (n := 16) (by omega) (by omega)]
      simp only [if_pos (show acc.length < 17592186044416 by omega)]
  exact main 16 0 [] rfl rfl
theorem sAllAt_ev (a : List S47) (r : Int) (hn : a.length ≤ 9223372036854775807) : Ev (fun k => spec_AllAt.f k a r) (allB a r) := by
  have main : ∀ (d i : Nat) (acc : List Int), i + d = 16 → acc.length = i → Ev (fun k => spec_AllAt.l0 k r acc (i : Int) a) (acc ++ (List.range' i d).map fun (i : Nat) => getB a r (i : Int)) := by
    intro d
    induction d with
    | zero => intro i acc hi hl; exact ev_some fun k => by simp only [spec_AllAt.l0]; rw [if_neg (by omega)]; simp
    | succ d ih =>
      intro i acc hi hl
      have h := ih (i + 1) (acc ++ [getB a r (i : Int)]) (by omega) (by simp; omega)
      rw [List.append_assoc, List.singleton_append] at h
      rw [List.range'_succ, List.map_cons]
      refine Ev.step (f := fun k => (spec_GetAt.f k a r (i : Int)).bind fun t => spec_AllAt.l0 k r (acc ++ [t]) ((i + 1 : Nat) : Int) a) (fun k => ?_) (ev_bind (sGetAt_ev a r i hn) h)
      simp only [spec_AllAt.l0]
      rw [if_pos (by omega), wsucc (n := 16) (by omega) (by omega)]
      simp only [if_pos (show acc.length < 17592186044416 by omega)]
  exact main 16 0 [] rfl rfl
theorem drop_get {α : Type} {l : List α} {i : Nat} (z : α) (h : i < l.length) : l.drop i = l.getD i z :: l.drop (i + 1) := by
  rw [List.drop_eq_getElem_cons h, List.getD_eq_getElem?_getD, List.getElem?_eq_getElem h]; rfl
end Go.Proofs.Ytjpjikhokpfhmaa.Pu

/- Trees: what is put into a tree is there, all else is as it was; a right arena stays right. -/

namespace Go.Proofs.Ytjpjikhokpfhmaa.Pu
set_option linter.unusedVariables false
set_option linter.unusedSimpArgs false
open Go.RowKit Go.Proofs.Ytjpjikhokpfhmaa.PT Go.Proofs.YtjpjikhokpfhmaaW.PrintWords

theorem getD_app {α : Type} {a t : List α} {i : Nat} {z : α} (h : i < a.length) : (a ++ t).getD i z = a.getD i z := by
  rw [List.getD_eq_getElem?_getD, List.getD_eq_getElem?_getD, List.getElem?_append_left h]
theorem getD_app0 {α : Type} {a : List α} {x y z : α} : (a ++ [x, y]).getD a.length z = x := by
  rw [List.getD_eq_getElem?_getD, List.getElem?_append_right (by omega), Nat.sub_self]; rfl
theorem getD_app1 {α : Type} {a : List α} {x y z : α} : (a ++ [x, y]).getD (a.length + 1) z = y := by
  rw [List.getD_eq_getElem?_getD, List.getElem?_append_right (by omega), Nat.add_sub_cancel_left]; rfl
theorem getD_set' {α : Type} {l : List α} {c : Nat} (i : Nat) (v z : α) (hc : c < l.length) : (l.set c v).getD i z = if c = i then v else l.getD i z := by
  rw [List.getD_eq_getElem?_getD, List.getD_eq_getElem?_getD, List.getElem?_set]
  by_cases h : c = i
  · subst h; simp [hc]
  · rw [if_neg h, if_neg h]
theorem getD_rep' {α : Type} (n i : Nat) (z : α) : (List.replicate n z).getD i z = z := by
  rw [List.getD_eq_getElem?_getD, List.getElem?_replicate]
  by_cases h : i < n <;> simp [h]
theorem kidB_app {a t : List S47} {i : Nat} (hi : i ≤ a.length) (leaf : Bool) (n : Int) : kidB (a ++ t) i leaf n = kidB a i leaf n := by
  unfold kidB
  by_cases h : leaf = true
  · rw [if_pos h, if_pos h]
  · rw [if_neg h, if_neg h]
    by_cases hk : 0 ≤ n ∧ n ≤ (i : Int) - 1
    · rw [getD_app (by omega)]
    · rw [decide_eq_false hk, Bool.false_and, Bool.false_and]
theorem knotB_app {a t : List S47} {i : Nat} (hi : i ≤ a.length) (x : S47) : knotB (a ++ t) i x = knotB a i x := by
  unfold knotB; rw [show kidB (a ++ t) i x.f0 = kidB a i x.f0 from funext fun n => kidB_app hi _ _]
theorem arenaB_iff {a : List S47} : arenaB a = true ↔ ∀ i, i < a.length → knotB a i (a.getD i z47) = true := by
  unfold arenaB
  rw [List.all_eq_true]
  constructor
  · intro h i hi; exact h i (by simp; omega)
  · intro h i hi; simp at hi; exact h i (by omega)
theorem knotB_iff {a : List S47} {i : Nat} {x : S47} : knotB a i x = true ↔ x.f1.length = 4 ∧ ∀ n ∈ x.f1, kidB a i x.f0 n = true := by
  unfold knotB; rw [Bool.and_eq_true, decide_eq_true_eq, List.all_eq_true]
theorem kid_leaf {a : List S47} {i : Nat} {n : Int} : kidB a i true n = true ↔ 0 ≤ n := by
  unfold kidB; rw [if_pos rfl, decide_eq_true_eq]
theorem kid_top {a : List S47} {i : Nat} {n : Int} : kidB a i false n = true ↔ n = -1 ∨ ((0 ≤ n ∧ n ≤ (i : Int) - 1) ∧ (a.getD n.toNat z47).f0 = true) := by
  unfold kidB; rw [if_neg (by decide), Bool.or_eq_true, Bool.and_eq_true, decide_eq_true_eq, decide_eq_true_eq]
/-- What is put on: the knots of a tree are right. -/
theorem top_right {a : List S47} {r : Int} (ha : arenaB a = true) (hr : r = -1 ∨ rootB a r = true) : (topB a r).length = 4 ∧ ∀ n ∈ topB a r, kidB a a.length false n = true := by
  by_cases h0 : r = -1
  · rw [top_none h0]
    refine ⟨rfl, fun n hn => ?_⟩
    have : n = -1 := by simpa using hn
    exact kid_top.2 (.inl this)
  · obtain ⟨r0, rl, rf⟩ := root_lt (hr.resolve_left h0)
    obtain ⟨h4, hk⟩ := knot_of ha rl
    rw [top_some h0]
    refine ⟨h4, fun n hn => ?_⟩
    have h := hk n hn
    rw [rf] at h
    rcases kid_top.1 h with h | ⟨h1, h2⟩
    · exact kid_top.2 (.inl h)
    · exact kid_top.2 (.inr ⟨by omega, h2⟩)
theorem top_kid {a : List S47} {r : Int} (ha : arenaB a = true) (hr : r = -1 ∨ rootB a r = true) {j : Nat} (hj : j < 4) : (topB a r).getD j 0 = -1 ∨ ((0 ≤ (topB a r).getD j 0 ∧ (topB a r).getD j 0 < (a.length : Int)) ∧ (a.getD ((topB a r).getD j 0).toNat z47).f0 = true) := by
  obtain ⟨h4, hk⟩ := top_right ha hr
  rcases kid_top.1 (hk _ (getD_mem (i := j) (z := 0) (by omega))) with h | ⟨h1, h2⟩
  · exact .inl h
  · exact .inr ⟨by omega, h2⟩
theorem leaf_right {a : List S47} {r s : Int} (ha : arenaB a = true) (hr : r = -1 ∨ rootB a r = true) (h0 : 0 ≤ s) (h1 : s ≤ 15) : (leafB a r s).length = 4 ∧ ∀ n ∈ leafB a r s, 0 ≤ n := by
  unfold leafB
  split
  · rename_i h
    rcases top_kid ha hr (j := (s / 4).toNat) (by omega) with hk | ⟨hk, hf⟩
    · omega
    · obtain ⟨h4, hn⟩ := knot_of ha (i := ((topB a r).getD (s / 4).toNat 0).toNat) (by omega)
      rw [hf] at hn
      exact ⟨h4, fun n h => kid_leaf.1 (hn n h)⟩
  · refine ⟨rfl, fun n hn => ?_⟩
    have := (List.mem_replicate.1 hn).2
    omega
theorem put_eq {a : List S47} {r s n : Int} (h : canPut a r s n) : putB a r s n = (a ++ [⟨true, (leafB a r s).set (s % 4).toNat n⟩, ⟨false, (topB a r).set (s / 4).toNat (a.length : Int)⟩], (a.length : Int) + 1) := putB_yes h rfl rfl
theorem put_len {a : List S47} {r s n : Int} (h : canPut a r s n) : (putB a r s n).1.length = a.length + 2 := by rw [put_eq h]; simp
theorem put_root {a : List S47} {r s n : Int} (h : canPut a r s n) : (putB a r s n).2 = (a.length : Int) + 1 := by rw [put_eq h]
theorem put_arena {a : List S47} {r s n : Int} (h : canPut a r s n) : arenaB (putB a r s n).1 = true := by
  obtain ⟨ha, hr, ⟨h0, h1⟩, hn⟩ := id h
  obtain ⟨t4, tk⟩ := top_right ha hr
  obtain ⟨l4, lk⟩ := leaf_right ha hr h0 h1
  rw [put_eq h]
  rw [arenaB_iff]
  intro i hi
  have hi : i < a.length + 2 := by simpa using hi
  by_cases hc : i < a.length
  · rw [getD_app hc, knotB_app (by omega)]
    exact arenaB_iff.1 ha i hc
  by_cases he : i = a.length
  · subst he
    rw [getD_app0, knotB_app (Nat.le_refl _), knotB_iff]
    refine ⟨by show (List.set _ _ _).length = 4; rw [List.length_set, l4], fun x hx => kid_leaf.2 ?_⟩
    rcases List.mem_or_eq_of_mem_set hx with hx | hx
    · exact lk x hx
    · omega
  · obtain rfl : i = a.length + 1 := by omega
    rw [getD_app1, knotB_iff]
    refine ⟨by show (List.set _ _ _).length = 4; rw [List.length_set, t4], fun x hx => kid_top.2 ?_⟩
    rcases List.mem_or_eq_of_mem_set hx with hx | hx
    · rcases kid_top.1 (tk x hx) with hx | ⟨h5, h6⟩
      · exact .inl hx
      · exact .inr ⟨by omega, by rw [getD_app (by omega)]; exact h6⟩
    · refine .inr ⟨by omega, ?_⟩
      rw [hx, Int.toNat_natCast, getD_app0]
theorem root_app {a t : List S47} {x : Int} (h : rootB a x = true) : rootB (a ++ t) x = true := by
  obtain ⟨h0, h1, h2⟩ := root_lt h
  unfold rootB
  rw [getD_app h1, h2, decide_eq_true (by simp only [List.length_append]; omega)]; rfl
theorem put_keeps {a : List S47} {r s n x : Int} (h : canPut a r s n) (hx : rootB a x = true) : rootB (putB a r s n).1 x = true := by
  rw [put_eq h]; exact root_app hx
theorem put_new {a : List S47} {r s n : Int} (h : canPut a r s n) : rootB (putB a r s n).1 (putB a r s n).2 = true := by
  rw [put_eq h]
  unfold rootB
  rw [show ((a.length : Int) + 1).toNat = a.length + 1 by omega, getD_app1, decide_eq_true (by simp only [List.length_append, List.length_cons, List.length_nil]; omega)]; rfl
theorem get_root {a : List S47} {r i : Int} (ha : arenaB a = true) (hr : rootB a r = true) (h0 : 0 ≤ i) (h1 : i ≤ 15) : getB a r i = numB a r i := if_pos ⟨⟨h0, h1⟩, hr, ha⟩
theorem get_none {a : List S47} {r i : Int} (hr : r = -1) : getB a r i = 0 := if_neg fun h => by have := (root_lt h.2.1).1; omega
/-- A number of a tree, by its top. -/
theorem get_top {a : List S47} {r i : Int} (ha : arenaB a = true) (hr : r = -1 ∨ rootB a r = true) (h0 : 0 ≤ i) (h1 : i ≤ 15) : getB a r i = if (topB a r).getD (i / 4).toNat 0 < 0 then 0 else (a.getD ((topB a r).getD (i / 4).toNat 0).toNat z47).f1.getD (i % 4).toNat 0 := by
  by_cases h : r = -1
  · rw [get_none h, top_none h, none4 _ (by omega), if_pos (by decide)]
  · rw [get_root ha (hr.resolve_left h) h0 h1, top_some h]; rfl
theorem get_out {a : List S47} {r i : Int} (h : ¬ (0 ≤ i ∧ i ≤ 15)) : getB a r i = 0 := if_neg fun g => h g.1
theorem get_app {a t : List S47} {x i : Int} (ha : arenaB a = true) (hb : arenaB (a ++ t) = true) (hx : x = -1 ∨ rootB a x = true) : getB (a ++ t) x i = getB a x i := by
  by_cases hi : 0 ≤ i ∧ i ≤ 15
  · by_cases h : x = -1
    · rw [get_none h, get_none h]
    · have hr := hx.resolve_left h
      obtain ⟨r0, rl, rf⟩ := root_lt hr
      rw [get_root hb (root_app hr) hi.1 hi.2, get_root ha hr hi.1 hi.2]
      unfold numB
      rw [getD_app rl]
      rcases kid_of ha rl rf (j := (i / 4).toNat) (by omega) with hk | ⟨k0, k1, _⟩
      · rw [hk, if_pos (by decide), if_pos (by decide)]
      · rw [if_neg (by omega), if_neg (by omega), getD_app (by omega)]
  · rw [get_out hi, get_out hi]
/-- All other trees are as they were. -/
theorem put_old {a : List S47} {r s n x i : Int} (h : canPut a r s n) (hx : x = -1 ∨ rootB a x = true) : getB (putB a r s n).1 x i = getB a x i := by
  have hb := put_arena h
  rw [put_eq h] at hb ⊢
  exact get_app h.1 hb hx
/-- What is put is there; all else of the tree is as it was. -/
theorem put_get {a : List S47} {r s n i : Int} (h : canPut a r s n) (h0 : 0 ≤ i) (h1 : i ≤ 15) : getB (putB a r s n).1 (putB a r s n).2 i = if i = s then n else getB a r i := by
  have hb := put_arena h
  have hq := put_new h
  obtain ⟨ha, hr, ⟨s0, s1⟩, hn⟩ := id h
  obtain ⟨t4, _⟩ := top_right ha hr
  obtain ⟨l4, _⟩ := leaf_right ha hr s0 s1
  rw [get_root hb hq h0 h1, get_top ha hr h0 h1]
  rw [put_eq h]
  unfold numB
  show (if ((a ++ _).getD ((a.length : Int) + 1).toNat z47).f1.getD _ 0 < 0 then (0 : Int) else _) = _
  rw [show ((a.length : Int) + 1).toNat = a.length + 1 by omega, getD_app1]
  simp only
  rw [getD_set' _ _ _ (by omega)]
  by_cases hq : (s / 4).toNat = (i / 4).toNat
  · rw [if_pos hq, if_neg (by omega), Int.toNat_natCast, getD_app0]
    simp only
    rw [getD_set' _ _ _ (by omega)]
    by_cases hm : (s % 4).toNat = (i % 4).toNat
    · rw [if_pos hm, if_pos (by omega)]
    · rw [if_neg hm, if_neg (by omega)]
      unfold leafB
      rw [hq]
      by_cases hk : 0 ≤ (topB a r).getD (i / 4).toNat 0
      · rw [if_pos hk, if_neg (by omega)]
      · rw [if_neg hk, if_pos (by omega), getD_rep']
  · rw [if_neg hq, if_neg (show ¬ i = s by omega)]
    rcases top_kid ha hr (j := (i / 4).toNat) (by omega) with hk | ⟨hk, _⟩
    · rw [hk, if_pos (by decide), if_pos (by decide)]
    · rw [if_neg (by omega), if_neg (by omega), getD_app (by omega)]
theorem allB_ext {a b : List S47} {r q : Int} (h : ∀ i : Int, 0 ≤ i → i ≤ 15 → getB a r i = getB b q i) : allB a r = allB b q := by
  unfold allB
  refine List.map_congr_left fun i hi => h i (by omega) ?_
  simp at hi; omega
end Go.Proofs.Ytjpjikhokpfhmaa.Pu

/- The reference's draws: a byte, a number below a bound, some places. -/
namespace Go.Proofs.Ytjpjikhokpfhmaa.Pu
set_option linter.unusedVariables false
set_option linter.unusedSimpArgs false
open Go.RowKit Go.Proofs.Ytjpjikhokpfhmaa.PT Go.Proofs.YtjpjikhokpfhmaaW.PrintWords

theorem and255 (x : Int) : 0 ≤ Go.bits .and .i64 x 255 ∧ Go.bits .and .i64 x 255 ≤ 255 := by
  have h : (BitVec.ofInt 64 x &&& BitVec.ofInt 64 255).toNat ≤ 255 := by
    rw [BitVec.toNat_and]; exact Nat.le_trans Nat.and_le_right (by decide)
  have e : Go.bits .and .i64 x 255 = Go.IntKind.i64.wrap ((BitVec.ofInt 64 x &&& BitVec.ofInt 64 255).toNat : Int) := rfl
  rw [e, Go.IntKind.wrap_i64]
  omega
/-- A draw's state: the place lies in the code. -/
theorem byte_eq (b : List Int) (i h : Int) (h0 : 0 ≤ i) (h1 : i ≤ b.length) (hb : b.length ≤ 9223372036854775807) : ∃ v i' h', spec_l01Byte.f b i h = some (v, i', h') ∧ (0 ≤ v ∧ v ≤ 255) ∧ 0 ≤ i' ∧ i' ≤ b.length := by
  unfold spec_l01Byte.f
  by_cases hi : i < (b.length : Int)
  · rw [if_pos hi, if_pos h0, w64 (x := i + 1) (by omega) (by omega)]
    exact ⟨_, _, _, rfl, and255 _, by omega, by omega⟩
  · rw [if_neg hi]
    exact ⟨_, _, _, rfl, and255 _, by omega, by omega⟩
theorem below_eq (b : List Int) (i h n : Int) (h0 : 0 ≤ i) (h1 : i ≤ b.length) (hb : b.length ≤ 9223372036854775807) (hn : 0 < n) : ∃ v i' h', spec_l01Below.f b i h n = some (v, i', h') ∧ (0 ≤ v ∧ v < n) ∧ 0 ≤ i' ∧ i' ≤ b.length := by
  unfold spec_l01Below.f
  rw [if_neg (by omega)]
  obtain ⟨v, i1, g1, e1, ⟨v0, v1⟩, a1, b1⟩ := byte_eq b i h h0 h1 hb
  rw [e1]
  by_cases hs : n ≤ 256
  · rw [if_pos hs, Option.bind_some, if_neg (by omega)]
    exact ⟨_, _, _, rfl, ⟨Int.tmod_nonneg _ v0, Int.tmod_lt_of_pos _ hn⟩, a1, b1⟩
  · rw [if_neg hs, Option.bind_some]
    obtain ⟨y, i2, g2, e2, ⟨y0, y1⟩, a2, b2⟩ := byte_eq b i1 g1 a1 b1 hb
    obtain ⟨z, i3, g3, e3, ⟨z0, z1⟩, a3, b3⟩ := byte_eq b i2 g2 a2 b2 hb
    obtain ⟨u, i4, g4, e4, ⟨u0, u1⟩, a4, b4⟩ := byte_eq b i3 g3 a3 b3 hb
    simp only [e2, e3, e4, Option.bind_some]
    rw [if_neg (by omega), w64 (x := v * 16777216) (by omega) (by omega), w64 (x := y * 65536) (by omega) (by omega), w64 (x := v * 16777216 + y * 65536) (by omega) (by omega), w64 (x := z * 256) (by omega) (by omega), w64 (x := v * 16777216 + y * 65536 + z * 256) (by omega) (by omega), w64 (x := v * 16777216 + y * 65536 + z * 256 + u) (by omega) (by omega)]
    exact ⟨_, _, _, rfl, ⟨Int.tmod_nonneg _ (by omega), Int.tmod_lt_of_pos _ hn⟩, a4, b4⟩
theorem new_ev (b : List Int) (hb : b.length ≤ 9223372036854775807) : ∃ h, Ev (fun k => spec_l01New.f k b) (b, 0, h) := by
  unfold spec_l01New.f
  have main : ∀ (d i : Nat) (h : Int), i + d = b.length → ∃ g, Ev (fun k => spec_l01New.l0 k b h (i : Int)) (b, 0, g) := by
    intro d
    induction d with
    | zero => intro i h hi; exact ⟨h, ev_some fun k => by simp only [spec_l01New.l0]; rw [if_neg (by omega)]⟩
    | succ d ih =>
      intro i h hi
      by_cases hf : (i : Int) < 4000
      · obtain ⟨g, hg⟩ := ih (i + 1) (Go.bits .and .i64 (wrap64 ((wrap64 ((wrap64 (h * 131)) + (wrap64 (rd b (i : Int))))) + 7)) 1073741823) (by omega)
        refine ⟨g, Ev.step (fun k => ?_) hg⟩
        simp only [spec_l01New.l0]
        rw [if_pos (by omega), if_pos hf, if_pos (by omega), wsucc (n := b.length) (by omega) hb]
      · exact ⟨h, ev_some fun k => by simp only [spec_l01New.l0]; rw [if_pos (by omega), if_neg hf]⟩
  exact main b.length 0 _ (by omega)
theorem places_ev (b : List Int) (hb : b.length ≤ 9223372036854775807) : ∃ p, Ev (fun k => spec_DrawPlaces.f k b) p ∧ p.length = 12 ∧ ∀ x ∈ p, 0 ≤ x ∧ x < 10000 := by
  unfold spec_DrawPlaces.f
  obtain ⟨h, hnew⟩ := new_ev b hb
  obtain ⟨v, i1, g1, e1, _, a1, b1⟩ := byte_eq b 0 h (by omega) (by omega) hb
  have main : ∀ (d i : Nat) (acc : List Int) (j g : Int), i + d = 12 → acc.length = i → (∀ x ∈ acc, 0 ≤ x ∧ x < 10000) → 0 ≤ j → j ≤ b.length → ∃ p, Ev (fun k => spec_DrawPlaces.l0 k acc (i : Int) b j g) p ∧ p.length = 12 ∧ ∀ x ∈ p, 0 ≤ x ∧ x < 10000 := by
    intro d
    induction d with
    | zero => intro i acc j g hi hl ha _ _; exact ⟨acc, ev_some fun k => by simp only [spec_DrawPlaces.l0]; rw [if_neg (by omega)], by omega, ha⟩
    | succ d ih =>
      intro i acc j g hi hl ha hj0 hj1
      obtain ⟨y, j2, g2, e2, hy, a2, b2⟩ := below_eq b j g 10000 hj0 hj1 hb (by omega)
      obtain ⟨p, hp, hp2, hp3⟩ := ih (i + 1) (acc ++ [y]) j2 g2 (by omega) (by simp; omega) (fun x hx => by
        rcases List.mem_append.1 hx with hx | hx
        · exact ha x hx
        · obtain rfl := List.mem_singleton.1 hx; exact hy) a2 b2
      refine ⟨p, Ev.step (fun k => ?_) hp, hp2, hp3⟩
      simp only [spec_DrawPlaces.l0]
      rw [if_pos (by omega), e2]
      simp only [Option.bind_some]
      rw [if_pos (by omega), wsucc (n := 12) (by omega) (by omega)]
  obtain ⟨p, hp, hp2, hp3⟩ := main 12 0 [] i1 g1 rfl rfl (fun x hx => by cases hx) a1 b1
  refine ⟨p, ev_bind hnew ?_, hp2, hp3⟩
  simp only [e1, Option.bind_some]
  exact hp
end Go.Proofs.Ytjpjikhokpfhmaa.Pu

/- A drawn forest: a right arena, and its roots. -/
namespace Go.Proofs.Ytjpjikhokpfhmaa.Pu
set_option linter.unusedVariables false
set_option linter.unusedSimpArgs false
open Go.RowKit Go.Proofs.Ytjpjikhokpfhmaa.PT Go.Proofs.YtjpjikhokpfhmaaW.PrintWords

def Woods (a : List S47) (roots : List Int) : Prop := arenaB a = true ∧ ∀ x ∈ roots, x = -1 ∨ rootB a x = true
theorem woods_len {a : List S47} (ha : arenaB a = true) : ∀ x ∈ a, x.f1.length = 4 := by
  intro x hx
  obtain ⟨i, hi, rfl⟩ := List.getElem_of_mem hx
  have h := (knot_of ha hi).1
  rwa [List.getD_eq_getElem?_getD, List.getElem?_eq_getElem hi] at h
theorem woods_le {a : List S47} (ha : arenaB a = true) : ∀ x ∈ a, x.f1.length ≤ 1048576 := fun x hx => by rw [woods_len ha x hx]; omega
theorem forest_ev (b : List Int) (hb : b.length ≤ 9223372036854775807) : ∃ a roots, Ev (fun k => spec_DrawForest.f k b) (a, roots) ∧ Woods a roots ∧ (1 ≤ roots.length ∧ roots.length ≤ 8) ∧ a.length ≤ 14 := by
  unfold spec_DrawForest.f spec_l11Arena.f
  obtain ⟨h, hnew⟩ := new_ev b hb
  have main : ∀ (d i : Nat) (a : List S47) (roots : List Int) (j g : Int), i + d = 7 → roots.length = i + 1 → a.length ≤ 2 * i → Woods a roots → 0 ≤ j → j ≤ b.length →
      ∃ a' roots' j' g', Ev (fun k => spec_l11Arena.l0 k roots (i : Int) b j g a) (a', roots', j', g') ∧ Woods a' roots' ∧ (1 ≤ roots'.length ∧ roots'.length ≤ 8) ∧ a'.length ≤ 14 := by
    intro d
    induction d with
    | zero =>
      intro i a roots j g hi hl hl2 hw hj0 hj1
      obtain ⟨v, j2, g2, e2, ⟨v0, v1⟩, a2, b2⟩ := below_eq b j g 8 hj0 hj1 hb (by omega)
      refine ⟨a, roots, j2, g2, ev_some fun k => ?_, hw, by omega, by omega⟩
      simp only [spec_l11Arena.l0, e2, Option.bind_some]
      rw [if_neg (by omega)]
    | succ d ih =>
      intro i a roots j g hi hl hl2 hw hj0 hj1
      obtain ⟨v, j2, g2, e2, ⟨v0, v1⟩, a2, b2⟩ := below_eq b j g 8 hj0 hj1 hb (by omega)
      by_cases hv : (i : Int) < v
      · obtain ⟨m, j3, g3, e3, ⟨m0, m1⟩, a3, b3⟩ := below_eq b j2 g2 (roots.length : Int) a2 b2 hb (by omega)
        obtain ⟨s, j4, g4, e4, ⟨s0, s1⟩, a4, b4⟩ := below_eq b j3 g3 16 a3 b3 hb (by omega)
        obtain ⟨n, j5, g5, e5, ⟨n0, n1⟩, a5, b5⟩ := below_eq b j4 g4 9 a4 b4 hb (by omega)
        have hr := hw.2 _ (getD_mem (l := roots) (i := m.toNat) (z := 0) (by omega))
        have hc : canPut a (roots.getD m.toNat 0) s n := ⟨hw.1, hr, ⟨s0, by omega⟩, n0⟩
        have hput := sPut_ev a (roots.getD m.toNat 0) s n (by omega) (woods_le hw.1)
        have pl := put_len hc
        have pr := put_new hc
        have pa := put_arena hc
        have pk : ∀ x, rootB a x = true → rootB (putB a (roots.getD m.toNat 0) s n).1 x = true := fun x hx => put_keeps hc hx
        generalize putB a (roots.getD m.toNat 0) s n = R at hput pl pr pa pk
        obtain ⟨a', roots', j', g', h1, h2, h3, h4⟩ := ih (i + 1) R.1 (roots ++ [R.2]) j5 g5 (by omega) (by simp; omega) (by omega) ⟨pa, fun x hx => by
          rcases List.mem_append.1 hx with hx | hx
          · exact (hw.2 x hx).imp id (pk x)
          · obtain rfl := List.mem_singleton.1 hx; exact .inr pr⟩ a5 b5
        refine ⟨a', roots', j', g', ?_, h2, h3, h4⟩
        refine Ev.step (f := fun k => (spec_PutAt.f k a (roots.getD m.toNat 0) s n).bind fun R => spec_l11Arena.l0 k (roots ++ [R.2]) ((i + 1 : Nat) : Int) b j5 g5 R.1) (fun k => ?_) (ev_bind hput h1)
        simp only [spec_l11Arena.l0, e2, e3, e4, e5, Option.bind_some]
        rw [if_pos hv, if_pos m0, if_pos m1, wsucc (n := 7) (by omega) (by omega)]
        simp only [if_pos (show roots.length < 17592186044416 by omega)]
        rfl
      · refine ⟨a, roots, j2, g2, ev_some fun k => ?_, hw, by omega, by omega⟩
        simp only [spec_l11Arena.l0, e2, Option.bind_some]
        rw [if_neg hv]
  obtain ⟨a', roots', j', g', h1, h2, h3, h4⟩ := main 7 0 [] [-1] 0 h rfl rfl (Nat.le_refl _) ⟨rfl, fun x hx => .inl (List.mem_singleton.1 hx)⟩ (by omega) (by omega)
  exact ⟨a', roots', ev_bind hnew (ev_bind h1 (Ev.now _)), h2, h3, h4⟩
end Go.Proofs.Ytjpjikhokpfhmaa.Pu

/- A list is as itself; a wood's bounds. -/
namespace Go.Proofs.Ytjpjikhokpfhmaa.Pu
set_option linter.unusedVariables false
set_option linter.unusedSimpArgs false
open Go.RowKit Go.Proofs.Ytjpjikhokpfhmaa.PT Go.Proofs.YtjpjikhokpfhmaaW.PrintWords

theorem same_ev (l : List Int) (hl : l.length ≤ 9223372036854775807) : Ev (fun k => laws_sameInts.f k l l) true := by
  unfold laws_sameInts.f
  simp only [if_true]
  have main : ∀ (d i : Nat), i + d = l.length → Ev (fun k => laws_sameInts.l0 k l l (i : Int)) true := by
    intro d
    induction d with
    | zero => intro i hi; exact ev_some fun k => by simp only [laws_sameInts.l0]; rw [if_neg (by omega)]
    | succ d ih =>
      intro i hi
      refine Ev.step (fun k => ?_) (ih (i + 1) (by omega))
      simp only [laws_sameInts.l0]
      rw [if_pos (by omega), if_pos (by omega), if_pos (by omega), if_pos trivial, wsucc (n := l.length) (by omega) hl]
  exact main l.length 0 (by omega)
theorem same_ev' {l m : List Int} (e : l = m) (hl : l.length ≤ 9223372036854775807) : Ev (fun k => laws_sameInts.f k l m) true := by
  subst e; exact same_ev l hl
theorem mod_lt {x n : Int} (h : 0 ≤ x) (hn : 0 < n) : 0 ≤ Int.tmod x n ∧ Int.tmod x n < n := ⟨Int.tmod_nonneg _ h, Int.tmod_lt_of_pos _ hn⟩
end Go.Proofs.Ytjpjikhokpfhmaa.Pu

/- What an arena keeps when it is swept from some roots; the program's and the reference's SweepArena tell it. -/
namespace Go.Proofs.Ytjpjikhokpfhmaa.Pu
set_option linter.unusedVariables false
set_option linter.unusedSimpArgs false
open Go.RowKit Go.Proofs.Ytjpjikhokpfhmaa.PT Go.Proofs.YtjpjikhokpfhmaaW.PrintWords

theorem mem_cons_ne {x y : Int} {t : List Int} (h : ¬ y = x) : decide (x ∈ y :: t) = decide (x ∈ t) := by
  have : ¬ x = y := fun e => h e.symm
  simp [this]
theorem rdOf_nat {α : Type} (z : α) (l : List α) (i : Nat) : rdOf z l (i : Int) = l.getD i z := rfl
theorem getD_set {α : Type} {l : List α} {c : Nat} (i : Nat) (v z : α) (hc : c < l.length) : (l.set c v).getD i z = if i = c then v else l.getD i z := by
  rw [List.getD_eq_getElem?_getD, List.getD_eq_getElem?_getD, List.getElem?_set]
  by_cases h : c = i
  · subst h; simp [hc]
  · rw [if_neg h, if_neg (fun e => h e.symm)]
theorem getD_rep {α : Type} (n i : Nat) (z : α) : (List.replicate n z).getD i z = z := by
  rw [List.getD_eq_getElem?_getD, List.getElem?_replicate]
  by_cases h : i < n <;> simp [h]

/-- A list whose first j elements are changed. -/
def upd (f : Int → Int) : List Int → Nat → List Int
  | [], _ => []
  | x :: l, 0 => x :: l
  | x :: l, j + 1 => f x :: upd f l j
theorem upd_zero (f : Int → Int) (l : List Int) : upd f l 0 = l := by cases l <;> rfl
theorem upd_full (f : Int → Int) : ∀ l : List Int, upd f l l.length = l.map f
  | [] => rfl
  | x :: l => by show f x :: upd f l l.length = f x :: l.map f; rw [upd_full f l]
theorem upd_len (f : Int → Int) : ∀ (l : List Int) (j : Nat), (upd f l j).length = l.length
  | [], _ => rfl
  | x :: l, 0 => rfl
  | x :: l, j + 1 => by show (upd f l j).length + 1 = l.length + 1; rw [upd_len f l j]
theorem upd_get (f : Int → Int) : ∀ (l : List Int) (j : Nat), (upd f l j).getD j 0 = l.getD j 0
  | [], _ => rfl
  | x :: l, 0 => rfl
  | x :: l, j + 1 => by show (upd f l j).getD j 0 = l.getD j 0; exact upd_get f l j
theorem upd_set (f : Int → Int) : ∀ (l : List Int) (j : Nat), j < l.length → (upd f l j).set j (f (l.getD j 0)) = upd f l (j + 1)
  | [], j, h => absurd h (by simp)
  | x :: l, 0, _ => by show f x :: l = f x :: upd f l 0; rw [upd_zero]
  | x :: l, j + 1, h => by
    show f x :: (upd f l j).set j (f (l.getD j 0)) = f x :: upd f l (j + 1)
    rw [upd_set f l j (by simpa using h)]
theorem upd_id (f : Int → Int) : ∀ (l : List Int) (j : Nat), f (l.getD j 0) = l.getD j 0 → upd f l j = upd f l (j + 1)
  | [], _, _ => rfl
  | x :: l, 0, h => by
    have h2 : f x = x := h
    show x :: l = f x :: upd f l 0
    rw [upd_zero, h2]
  | x :: l, j + 1, h => by
    show f x :: upd f l j = f x :: upd f l (j + 1)
    rw [upd_id f l j h]

/-- A root keeps a knot: itself, or its kid. -/
def keptB (a : List S47) (r : Int) (i : Nat) : Bool := rootB a r && (decide ((i : Int) = r) || decide ((i : Int) ∈ (a.getD r.toNat z47).f1))
def movB (pos : List Int) (x : Int) : Int := if x ≥ 0 then pos.getD x.toNat 0 else x
def swKids (leaf : Bool) (pos kids : List Int) : List Int := if leaf = true then kids else kids.map (movB pos)
def swAll (a : List S47) (K : Nat → Bool) : Nat → Nat → List Int → List S47 → List Int × List S47
  | 0, _, pos, out => (pos, out)
  | d + 1, i, pos, out => if K i = true then swAll a K d (i + 1) (pos.set i (out.length : Int)) (out ++ [⟨(a.getD i z47).f0, swKids (a.getD i z47).f0 pos (a.getD i z47).f1⟩]) else swAll a K d (i + 1) pos out
def keepB (a : List S47) (roots : List Int) (i : Nat) : Bool := roots.any fun r => keptB a r i
def sweepOk (a : List S47) (roots : List Int) : Bool := arenaB a && roots.all fun r => decide (r = -1) || rootB a r
def sweepB (a : List S47) (roots : List Int) : List S47 × List Int :=
  if sweepOk a roots = true then ((swAll a (keepB a roots) a.length 0 (List.replicate a.length 0) []).2, roots.map (movB (swAll a (keepB a roots) a.length 0 (List.replicate a.length 0) []).1)) else (a, roots)
theorem swAll_pos (a : List S47) (K : Nat → Bool) : ∀ (d i : Nat) (pos : List Int) (out : List S47), (swAll a K d i pos out).1.length = pos.length
  | 0, _, _, _ => rfl
  | d + 1, i, pos, out => by
    unfold swAll
    by_cases h : K i = true
    · rw [if_pos h, swAll_pos a K d]; exact List.length_set
    · rw [if_neg h, swAll_pos a K d]
theorem swAll_out (a : List S47) (K : Nat → Bool) : ∀ (d i : Nat) (pos : List Int) (out : List S47), (swAll a K d i pos out).2.length = out.length + ((List.range' i d).filter K).length
  | 0, _, _, _ => rfl
  | d + 1, i, pos, out => by
    unfold swAll
    rw [List.range'_succ]
    by_cases h : K i = true
    · rw [if_pos h, swAll_out a K d, List.filter_cons, if_pos h]; simp; omega
    · rw [if_neg h, swAll_out a K d, List.filter_cons, if_neg h]

theorem iHasInt_ev (l : List Int) (x : Int) (hl : l.length ≤ 9223372036854775807) : Ev (fun k => impl_hasInt.f k l x) (decide (x ∈ l)) := by
  have main : ∀ (d i : Nat), i + d = l.length → Ev (fun k => impl_hasInt.l0 k x l l.length (i : Int)) (decide (x ∈ l.drop i)) := by
    intro d
    induction d with
    | zero => intro i hi; exact ev_some fun k => by simp only [impl_hasInt.l0]; rw [if_neg (by omega), List.drop_eq_nil_of_le (by omega)]; simp
    | succ d ih =>
      intro i hi
      have hil : i < l.length := by omega
      rw [drop_cons 0 hil]
      by_cases h : l.getD i 0 = x
      · rw [h, decide_eq_true (List.mem_cons_self)]
        refine ev_some fun k => ?_
        simp only [impl_hasInt.l0]
        rw [if_pos (by omega), if_pos (by omega), if_pos (by omega), rd_nat, if_pos h]
      · rw [mem_cons_ne h]
        refine Ev.step (fun k => ?_) (ih (i + 1) (by omega))
        simp only [impl_hasInt.l0]
        rw [if_pos (by omega), if_pos (by omega), if_pos (by omega), rd_nat, if_neg h, wsucc (n := l.length) hil hl]
  have h := main l.length 0 (by omega)
  rw [List.drop_zero] at h
  exact h
/-- The knots that a root keeps, as the program lists them. -/
theorem iKnots_ev (a : List S47) (r : Int) (hn : a.length ≤ 1048576) (hx : ∀ x ∈ a, x.f1.length ≤ 1048576) :
    ∃ L, Ev (fun k => impl_knotsOf.f k a r) L ∧ L.length ≤ 1048577 ∧ ∀ i : Nat, i < a.length → ((i : Int) ∈ L ↔ keptB a r i = true) := by
  unfold impl_knotsOf.f keptB
  simp only [iRoot_eq a r (by omega), Option.bind_some]
  by_cases hr : rootB a r = true
  · obtain ⟨r0, rl, _⟩ := root_lt hr
    simp only [if_pos hr, if_pos r0, if_pos (show r < (a.length : Int) by omega), rd_T47]
    have hm := hx _ (getD_mem (z := z47) rl)
    generalize (a.getD r.toNat z47).f1 = kids at hm ⊢
    have main : ∀ (d i : Nat) (acc : List Int), i + d = kids.length → acc.length ≤ 1 + i →
        ∃ L, Ev (fun k => impl_knotsOf.l0 k acc kids kids.length (i : Int) a) L ∧ L.length ≤ 1048577 ∧ ∀ j : Nat, j < a.length → ((j : Int) ∈ L ↔ (j : Int) ∈ acc ∨ (j : Int) ∈ kids.drop i) := by
      intro d
      induction d with
      | zero =>
        intro i acc hi hl
        refine ⟨acc, ev_some fun k => by simp only [impl_knotsOf.l0]; rw [if_neg (by omega)], by omega, fun j _ => ?_⟩
        rw [List.drop_eq_nil_of_le (by omega)]
        simp
      | succ d ih =>
        intro i acc hi hl
        have hil : i < kids.length := by omega
        have st : ∀ k, impl_knotsOf.l0 (k + 1) acc kids kids.length (i : Int) a = if 0 ≤ kids.getD i 0 ∧ kids.getD i 0 ≤ (a.length : Int) - 1 then (impl_hasInt.f k acc (kids.getD i 0)).bind fun t => if t = true then impl_knotsOf.l0 k acc kids kids.length ((i + 1 : Nat) : Int) a else impl_knotsOf.l0 k (acc ++ [kids.getD i 0]) kids kids.length ((i + 1 : Nat) : Int) a else impl_knotsOf.l0 k acc kids kids.length ((i + 1 : Nat) : Int) a := fun k => by
          simp only [impl_knotsOf.l0]
          rw [if_pos (by omega), if_pos (by omega), if_pos (by omega), rd_nat, w64 (x := (a.length : Int) - 1) (by omega) (by omega), wsucc (n := kids.length) hil (by omega)]
          simp only [in_eq, Option.bind_some, decide_eq_true_eq, if_pos (show acc.length < 17592186044416 by omega)]
        rw [drop_cons 0 hil]
        by_cases h : 0 ≤ kids.getD i 0 ∧ kids.getD i 0 ≤ (a.length : Int) - 1
        · by_cases h2 : kids.getD i 0 ∈ acc
          · obtain ⟨L, h3, h4, h5⟩ := ih (i + 1) acc (by omega) (by omega)
            refine ⟨L, Ev.step (fun k => by rw [st k, if_pos h]) (ev_bind (iHasInt_ev acc _ (by omega)) ?_), h4, fun j hj => ?_⟩
            · rw [decide_eq_true h2]; simp only [if_true]; exact h3
            · rw [h5 j hj, List.mem_cons]
              constructor
              · rintro (h | h)
                · exact .inl h
                · exact .inr (.inr h)
              · rintro (h | h | h)
                · exact .inl h
                · exact .inl (by rw [h]; exact h2)
                · exact .inr h
          · obtain ⟨L, h3, h4, h5⟩ := ih (i + 1) (acc ++ [kids.getD i 0]) (by omega) (by simp; omega)
            refine ⟨L, Ev.step (fun k => by rw [st k, if_pos h]) (ev_bind (iHasInt_ev acc _ (by omega)) ?_), h4, fun j hj => ?_⟩
            · rw [decide_eq_false h2]; exact h3
            · rw [h5 j hj, List.mem_cons, List.mem_append, List.mem_singleton, or_assoc]
        · obtain ⟨L, h3, h4, h5⟩ := ih (i + 1) acc (by omega) (by omega)
          refine ⟨L, Ev.step (fun k => by rw [st k, if_neg h]) h3, h4, fun j hj => ?_⟩
          rw [h5 j hj, List.mem_cons]
          constructor
          · rintro (h | h)
            · exact .inl h
            · exact .inr (.inr h)
          · rintro (h6 | h6 | h6)
            · exact .inl h6
            · exact absurd (by omega) h
            · exact .inr h6
    obtain ⟨L, h1, h2, h3⟩ := main kids.length 0 [r] (by omega) (by simp)
    refine ⟨L, h1, h2, fun i hi => ?_⟩
    rw [h3 i hi, hr]
    simp
  · simp only [if_neg hr, Bool.eq_false_iff.mpr hr]
    exact ⟨[], Ev.now _, by simp, fun i hi => by simp⟩
/-- The knots that a root keeps, as the reference marks them. -/
theorem sHas_ev (a : List S47) (r : Int) (hn : a.length ≤ 1048576) (ha : arenaB a = true) (hr : (decide (r = -1) || rootB a r) = true) :
    ∃ L, Ev (fun k => spec_l11Has.f k a r) L ∧ L.length = a.length ∧ ∀ i : Nat, i < a.length → L.getD i false = keptB a r i := by
  unfold spec_l11Has.f keptB
  simp only [if_pos (show (0 : Int) ≤ (a.length : Int) by omega), Int.toNat_natCast, if_pos (show a.length ≤ 281474976710656 by omega), Option.bind_some, List.length_replicate]
  by_cases h0 : r < 0
  · refine ⟨_, by simp only [if_pos h0]; exact Ev.now _, by simp, fun i hi => ?_⟩
    rw [getD_rep]
    unfold rootB
    rw [decide_eq_false (by omega)]; rfl
  · have hb : rootB a r = true := by
      rw [Bool.or_eq_true, decide_eq_true_eq] at hr
      rcases hr with h | h
      · omega
      · exact h
    obtain ⟨r0, rl, rf⟩ := root_lt hb
    simp only [if_neg h0, if_pos r0, if_pos (show r < (a.length : Int) by omega), hb, Bool.true_and]
    obtain ⟨h4, _⟩ := knot_of ha rl
    have main : ∀ (d j : Nat) (acc : List Bool), j + d = 4 → acc.length = a.length → ∃ L, Ev (fun k => spec_l11Has.l0 k r acc (j : Int) a) L ∧ L.length = a.length ∧ ∀ i : Nat, i < a.length → L.getD i false = (acc.getD i false || decide ((i : Int) ∈ (a.getD r.toNat z47).f1.drop j)) := by
      intro d
      induction d with
      | zero =>
        intro j acc hj hl
        refine ⟨acc, ev_some fun k => by simp only [spec_l11Has.l0]; rw [if_neg (by omega)], hl, fun i _ => ?_⟩
        rw [List.drop_eq_nil_of_le (by omega)]
        simp
      | succ d ih =>
        intro j acc hj hl
        have hjl : j < (a.getD r.toNat z47).f1.length := by omega
        have hk := kid_of ha rl rf (j := j) (by omega)
        rw [drop_cons 0 hjl]
        have st : ∀ k, spec_l11Has.l0 (k + 1) r acc (j : Int) a = if (a.getD r.toNat z47).f1.getD j 0 ≥ 0 then spec_l11Has.l0 k r (acc.set ((a.getD r.toNat z47).f1.getD j 0).toNat true) ((j + 1 : Nat) : Int) a else spec_l11Has.l0 k r acc ((j + 1 : Nat) : Int) a := fun k => by
          simp only [spec_l11Has.l0]
          rw [show rd_T47 a r = a.getD r.toNat z47 from rfl, if_pos (by omega), if_pos r0, if_pos (by omega), if_pos (by omega), if_pos (by omega), rd_nat, wsucc (i := j) (n := 4) (by omega) (by omega)]
          by_cases h : (a.getD r.toNat z47).f1.getD j 0 ≥ 0
          · rw [if_pos h, if_pos h, if_pos (by omega), if_pos (by omega)]
          · rw [if_neg h, if_neg h]
        rcases hk with hk | ⟨k0, k1, _⟩
        · obtain ⟨L, h3, h5, h6⟩ := ih (j + 1) acc (by omega) hl
          refine ⟨L, Ev.step (fun k => by rw [st k, if_neg (by omega)]) h3, h5, fun i hi => ?_⟩
          rw [h6 i hi, mem_cons_ne (by omega)]
        · obtain ⟨L, h3, h5, h6⟩ := ih (j + 1) (acc.set ((a.getD r.toNat z47).f1.getD j 0).toNat true) (by omega) (by rw [List.length_set]; exact hl)
          refine ⟨L, Ev.step (fun k => by rw [st k, if_pos (by omega)]) h3, h5, fun i hi => ?_⟩
          rw [h6 i hi, getD_set _ _ _ (by omega)]
          by_cases h : (a.getD r.toNat z47).f1.getD j 0 = (i : Int)
          · rw [if_pos (by omega), h, decide_eq_true (List.mem_cons_self)]; simp
          · rw [if_neg (by omega), mem_cons_ne h]
    obtain ⟨L, h1, h2, h3⟩ := main 4 0 ((List.replicate a.length false).set r.toNat true) rfl (by simp)
    refine ⟨L, h1, h2, fun i hi => ?_⟩
    rw [h3 i hi, getD_set _ _ _ (by simp; omega), getD_rep, List.drop_zero]
    by_cases h : (i : Int) = r
    · rw [if_pos (by omega), decide_eq_true h]
    · rw [if_neg (by omega), decide_eq_false h]
def swRes (roots : List Int) (z : List Int × List S47) : List S47 × List Int := (z.2, roots.map (movB z.1))
theorem okRoots {a : List S47} {roots : List Int} (h : (roots.all fun r => decide (r = -1) || rootB a r) = true) {m : Nat} (hm : m < roots.length) : (decide (roots.getD m 0 = -1) || rootB a (roots.getD m 0)) = true := by
  rw [List.all_eq_true] at h
  exact h _ (getD_mem hm)
theorem okRoots_lt {a : List S47} {roots : List Int} (h : (roots.all fun r => decide (r = -1) || rootB a r) = true) (m : Nat) (hm : m < roots.length) (hge : roots.getD m 0 ≥ 0) : roots.getD m 0 < (a.length : Int) := by
  have h1 := okRoots h hm
  rw [Bool.or_eq_true, decide_eq_true_eq] at h1
  rcases h1 with h1 | h1
  · omega
  · have := root_lt h1; omega
end Go.Proofs.Ytjpjikhokpfhmaa.Pu

/- How many knots two trees share, as one number; the program's and the reference's SharedBy tell it. -/
namespace Go.Proofs.Ytjpjikhokpfhmaa.Pu
set_option linter.unusedVariables false
set_option linter.unusedSimpArgs false
open Go.RowKit Go.Proofs.Ytjpjikhokpfhmaa.PT Go.Proofs.YtjpjikhokpfhmaaW.PrintWords

theorem nodup_le : ∀ {L M : List Int}, L.Nodup → (∀ x ∈ L, x ∈ M) → L.length ≤ M.length
  | [], _, _, _ => Nat.zero_le _
  | x :: L, M, h, hs => by
    have hx := hs x List.mem_cons_self
    obtain ⟨h1, h2⟩ := List.nodup_cons.1 h
    have h3 := nodup_le (L := L) (M := M.erase x) h2 fun y hy => (List.mem_erase_of_ne (by rintro rfl; exact h1 hy)).2 (hs y (List.mem_cons_of_mem _ hy))
    rw [List.length_erase_of_mem hx] at h3
    have := List.length_pos_of_mem hx
    simp only [List.length_cons]
    omega
theorem nodup_snoc {L : List Int} {x : Int} (h : L.Nodup) (hx : ¬ x ∈ L) : (L ++ [x]).Nodup := by
  rw [List.nodup_append]
  exact ⟨h, by simp, fun a ha b hb => by obtain rfl := List.mem_singleton.1 hb; rintro rfl; exact hx ha⟩
def bothB (a : List S47) (q r : Int) : List Nat := (List.range' 0 a.length).filter fun i => keptB a q i && keptB a r i
def shareB (a : List S47) (q r : Int) : Nat := (bothB a q r).length
theorem both_mem {a : List S47} {q r : Int} {i : Nat} : i ∈ bothB a q r ↔ i < a.length ∧ keptB a q i = true ∧ keptB a r i = true := by
  unfold bothB
  rw [List.mem_filter, List.mem_range', Bool.and_eq_true]
  constructor
  · rintro ⟨⟨j, h1, h2⟩, h3⟩; exact ⟨by omega, h3⟩
  · rintro ⟨h1, h3⟩; exact ⟨⟨i, h1, by omega⟩, h3⟩
theorem both_nodup (a : List S47) (q r : Int) : ((bothB a q r).map fun i : Nat => (i : Int)).Nodup := by
  unfold List.Nodup
  rw [List.pairwise_map]
  refine List.Pairwise.imp (R := fun x y => x < y) (fun h => by omega) ?_
  unfold bothB
  exact List.Pairwise.filter _ (List.pairwise_lt_range' (s := 0) (n := a.length))
theorem share_ge {a : List S47} {q r : Int} {L : List Int} (hn : L.Nodup) (h : ∀ x ∈ L, 0 ≤ x ∧ x.toNat < a.length ∧ keptB a q x.toNat = true ∧ keptB a r x.toNat = true) : L.length ≤ shareB a q r := by
  have := nodup_le (M := (bothB a q r).map fun i : Nat => (i : Int)) hn fun x hx => List.mem_map.2 ⟨x.toNat, both_mem.2 (h x hx).2, by have := (h x hx).1; omega⟩
  rwa [List.length_map] at this
theorem share_le {a : List S47} {q r : Int} {M : List Int} (h : ∀ i : Nat, i < a.length → keptB a q i = true → keptB a r i = true → (i : Int) ∈ M) : shareB a q r ≤ M.length := by
  have := nodup_le (M := M) (both_nodup a q r) fun x hx => by
    obtain ⟨i, hi, rfl⟩ := List.mem_map.1 hx
    obtain ⟨h1, h2, h3⟩ := both_mem.1 hi
    exact h i h1 h2 h3
  rwa [List.length_map] at this
/-- The knots that a root keeps, as the program lists them: each once. -/
theorem iKnots_ev' (a : List S47) (r : Int) (hn : a.length ≤ 1048576) (hx : ∀ x ∈ a, x.f1.length ≤ 1048576) :
    ∃ L, Ev (fun k => impl_knotsOf.f k a r) L ∧ L.length ≤ 1048577 ∧ L.Nodup ∧ (∀ x ∈ L, 0 ≤ x ∧ x.toNat < a.length) ∧ ∀ i : Nat, i < a.length → ((i : Int) ∈ L ↔ keptB a r i = true) := by
  unfold impl_knotsOf.f keptB
  simp only [iRoot_eq a r (by omega), Option.bind_some]
  by_cases hr : rootB a r = true
  · obtain ⟨r0, rl, _⟩ := root_lt hr
    simp only [if_pos hr, if_pos r0, if_pos (show r < (a.length : Int) by omega), rd_T47]
    have hm := hx _ (getD_mem (z := z47) rl)
    generalize (a.getD r.toNat z47).f1 = kids at hm ⊢
    have main : ∀ (d i : Nat) (acc : List Int), i + d = kids.length → acc.length ≤ 1 + i → acc.Nodup → (∀ x ∈ acc, 0 ≤ x ∧ x.toNat < a.length) →
        ∃ L, Ev (fun k => impl_knotsOf.l0 k acc kids kids.length (i : Int) a) L ∧ L.length ≤ 1048577 ∧ L.Nodup ∧ (∀ x ∈ L, 0 ≤ x ∧ x.toNat < a.length) ∧ ∀ j : Nat, j < a.length → ((j : Int) ∈ L ↔ (j : Int) ∈ acc ∨ (j : Int) ∈ kids.drop i) := by
      intro d
      induction d with
      | zero =>
        intro i acc hi hl hd hb
        refine ⟨acc, ev_some fun k => by simp only [impl_knotsOf.l0]; rw [if_neg (by omega)], by omega, hd, hb, fun j _ => ?_⟩
        rw [List.drop_eq_nil_of_le (by omega)]
        simp
      | succ d ih =>
        intro i acc hi hl hd hb
        have hil : i < kids.length := by omega
        have st : ∀ k, impl_knotsOf.l0 (k + 1) acc kids kids.length (i : Int) a = if 0 ≤ kids.getD i 0 ∧ kids.getD i 0 ≤ (a.length : Int) - 1 then (impl_hasInt.f k acc (kids.getD i 0)).bind fun t => if t = true then impl_knotsOf.l0 k acc kids kids.length ((i + 1 : Nat) : Int) a else impl_knotsOf.l0 k (acc ++ [kids.getD i 0]) kids kids.length ((i + 1 : Nat) : Int) a else impl_knotsOf.l0 k acc kids kids.length ((i + 1 : Nat) : Int) a := fun k => by
          simp only [impl_knotsOf.l0]
          rw [if_pos (by omega), if_pos (by omega), if_pos (by omega), rd_nat, w64 (x := (a.length : Int) - 1) (by omega) (by omega), wsucc (n := kids.length) hil (by omega)]
          simp only [in_eq, Option.bind_some, decide_eq_true_eq, if_pos (show acc.length < 17592186044416 by omega)]
        rw [drop_cons 0 hil]
        by_cases h : 0 ≤ kids.getD i 0 ∧ kids.getD i 0 ≤ (a.length : Int) - 1
        · by_cases h2 : kids.getD i 0 ∈ acc
          · obtain ⟨L, h3, h4, h6, h7, h5⟩ := ih (i + 1) acc (by omega) (by omega) hd hb
            refine ⟨L, Ev.step (fun k => by rw [st k, if_pos h]) (ev_bind (iHasInt_ev acc _ (by omega)) ?_), h4, h6, h7, fun j hj => ?_⟩
            · rw [decide_eq_true h2]; simp only [if_true]; exact h3
            · rw [h5 j hj, List.mem_cons]
              constructor
              · rintro (h | h)
                · exact .inl h
                · exact .inr (.inr h)
              · rintro (h | h | h)
                · exact .inl h
                · exact .inl (by rw [h]; exact h2)
                · exact .inr h
          · obtain ⟨L, h3, h4, h6, h7, h5⟩ := ih (i + 1) (acc ++ [kids.getD i 0]) (by omega) (by simp; omega) (nodup_snoc hd h2) (fun x hx => by
              rcases List.mem_append.1 hx with hx | hx
              · exact hb x hx
              · obtain rfl := List.mem_singleton.1 hx; exact ⟨h.1, by omega⟩)
            refine ⟨L, Ev.step (fun k => by rw [st k, if_pos h]) (ev_bind (iHasInt_ev acc _ (by omega)) ?_), h4, h6, h7, fun j hj => ?_⟩
            · rw [decide_eq_false h2]; exact h3
            · rw [h5 j hj, List.mem_cons, List.mem_append, List.mem_singleton, or_assoc]
        · obtain ⟨L, h3, h4, h8, h7, h5⟩ := ih (i + 1) acc (by omega) (by omega) hd hb
          refine ⟨L, Ev.step (fun k => by rw [st k, if_neg h]) h3, h4, h8, h7, fun j hj => ?_⟩
          rw [h5 j hj, List.mem_cons]
          constructor
          · rintro (h | h)
            · exact .inl h
            · exact .inr (.inr h)
          · rintro (h6 | h6 | h6)
            · exact .inl h6
            · exact absurd (by omega) h
            · exact .inr h6
    obtain ⟨L, h1, h2, h4, h5, h3⟩ := main kids.length 0 [r] (by omega) (by simp) (by simp) (fun x hx => by obtain rfl := List.mem_singleton.1 hx; exact ⟨r0, rl⟩)
    refine ⟨L, h1, h2, h4, h5, fun i hi => ?_⟩
    rw [h3 i hi, hr]
    simp
  · simp only [if_neg hr, Bool.eq_false_iff.mpr hr]
    exact ⟨[], Ev.now _, by simp, List.nodup_nil, fun x hx => (by cases hx), fun i hi => by simp⟩
theorem count_eq {a : List S47} {q r : Int} {L O : List Int} (hd : L.Nodup) (hb : ∀ x ∈ L, 0 ≤ x ∧ x.toNat < a.length) (hL : ∀ i : Nat, i < a.length → ((i : Int) ∈ L ↔ keptB a q i = true)) (hO : ∀ i : Nat, i < a.length → ((i : Int) ∈ O ↔ keptB a r i = true)) :
    (L.filter fun x => decide (x ∈ O)).length = shareB a q r := by
  refine Nat.le_antisymm (share_ge (List.Pairwise.filter _ hd) fun x hx => ?_) (share_le fun i hi h1 h2 => ?_)
  · obtain ⟨h1, h2⟩ := List.mem_filter.1 hx
    obtain ⟨h3, h4⟩ := hb x h1
    have e : ((x.toNat : Nat) : Int) = x := by omega
    exact ⟨h3, h4, (hL _ h4).1 (by rw [e]; exact h1), (hO _ h4).1 (by rw [e]; exact of_decide_eq_true h2)⟩
  · exact List.mem_filter.2 ⟨(hL i hi).2 h1, decide_eq_true ((hO i hi).2 h2)⟩
theorem iShared_ev (a : List S47) (q r : Int) (hn : a.length ≤ 1048576) (hx : ∀ x ∈ a, x.f1.length ≤ 1048576) : Ev (fun k => impl_SharedBy.f k a q r) (shareB a q r : Int) := by
  unfold impl_SharedBy.f
  obtain ⟨O, o1, o2, _, _, o5⟩ := iKnots_ev' a r hn hx
  obtain ⟨L, l1, l2, l3, l4, l5⟩ := iKnots_ev' a q hn hx
  refine ev_bind o1 (ev_bind l1 ?_)
  rw [← count_eq l3 l4 l5 o5]
  have main : ∀ (d i n : Nat), i + d = L.length → n ≤ i → Ev (fun k => impl_SharedBy.l0 k (n : Int) O L (L.length : Int) (i : Int)) ((n + ((L.drop i).filter fun x => decide (x ∈ O)).length : Nat) : Int) := by
    intro d
    induction d with
    | zero =>
      intro i n hi hni
      rw [List.drop_eq_nil_of_le (by omega)]
      exact ev_some fun k => by simp only [impl_SharedBy.l0]; rw [if_neg (by omega)]; rfl
    | succ d ih =>
      intro i n hi hni
      have hil : i < L.length := by omega
      rw [drop_cons 0 hil, List.filter_cons]
      refine Ev.step (f := fun k => (impl_hasInt.f k O (L.getD i 0)).bind fun t => if t = true then impl_SharedBy.l0 k ((n + 1 : Nat) : Int) O L (L.length : Int) ((i + 1 : Nat) : Int) else impl_SharedBy.l0 k (n : Int) O L (L.length : Int) ((i + 1 : Nat) : Int)) (fun k => ?_) (ev_bind (iHasInt_ev O _ (by omega)) ?_)
      · simp only [impl_SharedBy.l0]
        rw [if_pos (by omega), if_pos (by omega), if_pos (by omega), rd_nat, wsucc (i := n) (n := L.length) (by omega) (by omega), wsucc (n := L.length) hil (by omega)]
      · by_cases h : L.getD i 0 ∈ O
        · rw [decide_eq_true h]
          simp only [if_true]
          have := ih (i + 1) (n + 1) (by omega) (by omega)
          rw [List.length_cons]
          generalize (List.filter (fun x => decide (x ∈ O)) (List.drop (i + 1) L)).length = X at this ⊢
          rw [show n + (X + 1) = n + 1 + X by omega]
          exact this
        · rw [decide_eq_false h]
          exact ih (i + 1) n (by omega) (by omega)
  have h := main L.length 0 0 (by omega) (Nat.le_refl _)
  rw [List.drop_zero, Nat.zero_add] at h
  exact h
theorem sShared_ev (a : List S47) (q r : Int) (hn : a.length ≤ 1048576) (ha : arenaB a = true) (hq : q = -1 ∨ rootB a q = true) (hr : r = -1 ∨ rootB a r = true) : Ev (fun k => spec_SharedBy.f k a q r) (shareB a q r : Int) := by
  have hq' : (decide (q = -1) || rootB a q) = true := by rw [Bool.or_eq_true, decide_eq_true_eq]; exact hq
  have hr' : (decide (r = -1) || rootB a r) = true := by rw [Bool.or_eq_true, decide_eq_true_eq]; exact hr
  unfold spec_SharedBy.f
  refine ev_bind (sArena_ev a (by omega)) ?_
  simp only [ha, if_true, sRoot_eq a _ (show a.length ≤ 9223372036854775807 by omega), Option.bind_some, hq', hr', Bool.not_true]
  obtain ⟨X, x1, x2, x3⟩ := sHas_ev a q hn ha hq'
  obtain ⟨Y, y1, y2, y3⟩ := sHas_ev a r hn ha hr'
  refine Ev.step (f := fun k => (spec_l11Has.f k a q).bind fun t292 => (spec_l11Has.f k a r).bind fun t295 => spec_SharedBy.l0 k t292 t295 0 0) (fun k => by simp only [spec_SharedBy.j0]; rfl) (ev_bind x1 (ev_bind y1 ?_))
  have main : ∀ (d i n : Nat), i + d = a.length → n ≤ i → Ev (fun k => spec_SharedBy.l0 k X Y (n : Int) (i : Int)) ((n + ((List.range' i d).filter fun i => keptB a q i && keptB a r i).length : Nat) : Int) := by
    intro d
    induction d with
    | zero =>
      intro i n hi hni
      exact ev_some fun k => by simp only [spec_SharedBy.l0]; rw [if_neg (by omega)]; rfl
    | succ d ih =>
      intro i n hi hni
      have hil : i < a.length := by omega
      rw [List.range'_succ, List.filter_cons]
      have st : ∀ k, spec_SharedBy.l0 (k + 1) X Y (n : Int) (i : Int) = if (keptB a q i && keptB a r i) = true then spec_SharedBy.l0 k X Y ((n + 1 : Nat) : Int) ((i + 1 : Nat) : Int) else spec_SharedBy.l0 k X Y (n : Int) ((i + 1 : Nat) : Int) := fun k => by
        simp only [spec_SharedBy.l0]
        rw [if_pos (by omega), if_pos (by omega), show rdOf false X (i : Int) = X.getD i false from rfl, show rdOf false Y (i : Int) = Y.getD i false from rfl, x3 i hil, y3 i hil, wsucc (i := n) (n := a.length) (by omega) (by omega), wsucc (n := a.length) hil (by omega)]
        rw [if_pos (show (i : Int) < (Y.length : Int) by omega)]
        cases keptB a q i <;> cases keptB a r i <;> rfl
      by_cases h : (keptB a q i && keptB a r i) = true
      · rw [if_pos h]
        refine Ev.step (fun k => by rw [st k, if_pos h]) ?_
        have := ih (i + 1) (n + 1) (by omega) (by omega)
        rw [List.length_cons]
        generalize (List.filter (fun i => keptB a q i && keptB a r i) (List.range' (i + 1) d)).length = X at this ⊢
        rw [show n + (X + 1) = n + 1 + X by omega]
        exact this
      · rw [if_neg h]
        refine Ev.step (fun k => by rw [st k, if_neg h]) ?_
        exact ih (i + 1) n (by omega) (by omega)
  have h := main a.length 0 0 (by omega) (Nat.le_refl _)
  rw [Nat.zero_add] at h
  exact h
theorem share_none (a : List S47) (q : Int) : shareB a (-1) q = 0 := by
  have h := share_le (a := a) (q := -1) (r := q) (M := []) (fun i hi h1 _ => by
    unfold keptB at h1
    rw [Bool.and_eq_true] at h1
    have := (root_lt h1.1).1
    omega)
  exact Nat.le_zero.1 h
theorem mem_erase {l : List Int} {c : Nat} {v x : Int} (h : x ∈ l.set c v) (hv : x ≠ v) : x ∈ l.eraseIdx c := by
  induction l generalizing c with
  | nil => simp at h
  | cons y l ih =>
    cases c with
    | zero =>
      rcases List.mem_cons.1 h with h | h
      · exact absurd h hv
      · exact h
    | succ c =>
      rcases List.mem_cons.1 h with h | h
      · exact List.mem_cons.2 (.inl h)
      · exact List.mem_cons_of_mem _ (ih h)
/-- A tree that was put into: its knots, and those that it shares with the one before. -/
theorem put_share {a : List S47} {r s n : Int} (h : canPut a r s n) : 2 ≤ shareB (putB a r s n).1 (putB a r s n).2 (putB a r s n).2 ∧ shareB (putB a r s n).1 (putB a r s n).2 r ≤ 3 := by
  have hq := put_new h
  obtain ⟨ha, hr, ⟨s0, s1⟩, _⟩ := id h
  obtain ⟨t4, _⟩ := top_right ha hr
  have e := put_eq h
  rw [e] at hq
  rw [e]
  simp only at hq ⊢
  have hk : ∀ i : Nat, keptB (a ++ [⟨true, (leafB a r s).set (s % 4).toNat n⟩, ⟨false, (topB a r).set (s / 4).toNat (a.length : Int)⟩]) ((a.length : Int) + 1) i = true ↔ i = a.length + 1 ∨ (i : Int) ∈ (topB a r).set (s / 4).toNat (a.length : Int) := fun i => by
    unfold keptB
    rw [hq, Bool.true_and, Bool.or_eq_true, decide_eq_true_eq, decide_eq_true_eq, show ((a.length : Int) + 1).toNat = a.length + 1 by omega, getD_app1]
    constructor
    · rintro (h | h)
      · exact .inl (by omega)
      · exact .inr h
    · rintro (h | h)
      · exact .inl (by omega)
      · exact .inr h
  constructor
  · have := share_ge (a := a ++ [⟨true, (leafB a r s).set (s % 4).toNat n⟩, ⟨false, (topB a r).set (s / 4).toNat (a.length : Int)⟩]) (q := (a.length : Int) + 1) (r := (a.length : Int) + 1) (L := [(a.length : Int), (a.length : Int) + 1]) (by simp; omega) (fun x hx => by
      have k1 := (hk (a.length + 1)).2 (.inl rfl)
      have k2 := (hk a.length).2 (.inr (List.mem_iff_getElem.2 ⟨(s / 4).toNat, by rw [List.length_set]; omega, by rw [List.getElem_set_self]⟩))
      rcases List.mem_cons.1 hx with rfl | hx
      · rw [Int.toNat_natCast]
        exact ⟨by omega, by simp, k2, k2⟩
      · obtain rfl := List.mem_singleton.1 hx
        rw [show ((a.length : Int) + 1).toNat = a.length + 1 by omega]
        exact ⟨by omega, by simp, k1, k1⟩)
    exact this
  · have := share_le (a := a ++ [⟨true, (leafB a r s).set (s % 4).toNat n⟩, ⟨false, (topB a r).set (s / 4).toNat (a.length : Int)⟩]) (q := (a.length : Int) + 1) (r := r) (M := (topB a r).eraseIdx (s / 4).toNat) (fun i hi h1 h2 => by
      have hlt : i < a.length := by
        rcases hr with hr | hr
        · unfold keptB at h2
          rw [Bool.and_eq_true] at h2
          have := (root_lt h2.1).1
          omega
        · obtain ⟨r0, rl, rf⟩ := root_lt hr
          unfold keptB at h2
          rw [getD_app rl, Bool.and_eq_true, Bool.or_eq_true, decide_eq_true_eq, decide_eq_true_eq] at h2
          rcases h2.2 with h2 | h2
          · omega
          · have h3 := (knot_of ha rl).2 _ h2
            rw [rf] at h3
            rcases kid_top.1 h3 with h3 | h3
            · omega
            · omega
      rcases (hk i).1 h1 with h1 | h1
      · omega
      · exact mem_erase h1 (by omega))
    rw [List.length_eraseIdx_of_lt (by omega), t4] at this
    exact this
end Go.Proofs.Ytjpjikhokpfhmaa.Pu

/- FnTrees: what is put into a drawn tree is there; all else of it is as it was, and all other trees are. -/
namespace Go.Proofs.Ytjpjikhokpfhmaa.Pure
set_option linter.unusedVariables false
set_option linter.unusedSimpArgs false
open Go.RowKit Go.Proofs.Ytjpjikhokpfhmaa.PT Go.Proofs.YtjpjikhokpfhmaaW.PrintWords Go.Proofs.Ytjpjikhokpfhmaa.Pu

theorem FnTrees : laws_FnTrees.Pure := by
  intro l hl _ hx
  refine Ev.rounds (g := fun k => laws_FnTrees.f k l) ?_
  unfold maxLen at hl
  unfold laws_FnTrees.f laws_big.f
  refine ev_bind (Ev.now (decide ((l.length : Int) > 1048576))) ?_
  by_cases hbig : (l.length : Int) > 1048576
  · simp only [decide_eq_true hbig, if_true]; exact Ev.now _
  · simp only [decide_eq_false hbig, Bool.false_eq_true, if_false]
    obtain ⟨a, roots, hf, ⟨ha, hr⟩, ⟨r1, r8⟩, a14⟩ := forest_ev l (by omega)
    obtain ⟨p, hp, p12, pb⟩ := places_ev l (by omega)
    refine ev_bind hf (ev_bind hp ?_)
    obtain ⟨m0, m1⟩ := mod_lt (x := rd p 0) (n := (roots.length : Int)) (pb _ (getD_mem (i := 0) (z := 0) (by omega))).1 (by omega)
    obtain ⟨s0, s1⟩ := mod_lt (x := rd p 1) (n := 16) (pb _ (getD_mem (i := 1) (z := 0) (by omega))).1 (by omega)
    have hroot := hr _ (getD_mem (l := roots) (i := (Int.tmod (rd p 0) (roots.length : Int)).toNat) (z := 0) (by omega))
    simp only [p12, if_pos (show (0 : Int) < ((12 : Nat) : Int) by omega), if_neg (show ¬ (roots.length : Int) = 0 by omega), if_pos m0, if_pos m1, if_pos (show (1 : Int) < ((12 : Nat) : Int) by omega)]
    rw [show rd roots (Int.tmod (rd p 0) (roots.length : Int)) = roots.getD (Int.tmod (rd p 0) (roots.length : Int)).toNat 0 from rfl]
    generalize roots.getD (Int.tmod (rd p 0) (roots.length : Int)).toNat 0 = r at hroot ⊢
    generalize Int.tmod (rd p 1) 16 = s at s0 s1 ⊢
    have c1 : canPut a r s 77 := ⟨ha, hroot, ⟨s0, by omega⟩, by omega⟩
    have l1 := put_len c1
    have a1 := put_arena c1
    have q1 := put_new c1
    have g1 := fun (i : Int) h0 h1 => put_get (i := i) c1 h0 h1
    have o1 := fun (x i : Int) hx => put_old (x := x) (i := i) c1 hx
    have k1 : r = -1 ∨ rootB (putB a r s 77).1 r = true := hroot.imp id (put_keeps c1)
    obtain ⟨h2, h3⟩ := put_share c1
    refine ev_bind (iPut_ev a r s 77 (by omega) (woods_le ha)) ?_
    generalize putB a r s 77 = B at l1 a1 q1 g1 o1 k1 h2 h3 ⊢
    refine ev_bind (iArena_ev a (by omega)) ?_
    simp only [if_pos ha]
    refine ev_bind (iArena_ev B.1 (by omega)) ?_
    simp only [if_pos a1]
    refine ev_bind (iGetAt_ev B.1 B.2 s (by omega)) ?_
    rw [g1 s s0 (by omega), if_pos rfl]
    have hB := woods_le a1
    have last : Ev (fun k => laws_FnTrees.l1 k roots r B.2 (roots.length : Int) a B.1) true := by
      refine Ev.step (f := fun k => (impl_SharedBy.f k B.1 B.2 B.2).bind fun t333 => if t333 ≥ 2 then (impl_SharedBy.f k B.1 B.2 r).bind fun t334 => if t334 ≤ 3 then (impl_SharedBy.f k B.1 (-1) B.2).bind fun t335 => if t335 = 0 then (impl_SharedBy.f k B.1 B.2 r).bind fun t336 => (spec_SharedBy.f k B.1 B.2 r).bind fun t337 => some (t336 == t337) else some false else some false else some false) (fun k => by simp only [laws_FnTrees.l1]; rw [if_neg (by omega)]) ?_
      refine ev_bind (iShared_ev B.1 B.2 B.2 (by omega) hB) ?_
      simp only [if_pos (show ((shareB B.1 B.2 B.2 : Nat) : Int) ≥ 2 by omega)]
      refine ev_bind (iShared_ev B.1 B.2 r (by omega) hB) ?_
      simp only [if_pos (show ((shareB B.1 B.2 r : Nat) : Int) ≤ 3 by omega)]
      refine ev_bind (iShared_ev B.1 (-1) B.2 (by omega) hB) ?_
      rw [share_none]
      simp only [if_pos (show ((0 : Nat) : Int) = 0 from rfl)]
      refine ev_bind (iShared_ev B.1 B.2 r (by omega) hB) (ev_bind (sShared_ev B.1 B.2 r (by omega) a1 (.inr q1) k1) ?_)
      rw [beq_self_eq_true]
      exact Ev.now _
    have all : ∀ (d i : Nat), i + d = roots.length → Ev (fun k => laws_FnTrees.l1 k roots r B.2 (i : Int) a B.1) true := by
      intro d
      induction d with
      | zero => intro i hi; rw [show i = roots.length by omega]; exact last
      | succ d ih =>
        intro i hi
        refine Ev.step (f := fun k => (impl_AllAt.f k B.1 (roots.getD i 0)).bind fun t325 => (spec_AllAt.f k a (roots.getD i 0)).bind fun t329 => (laws_sameInts.f k t325 t329).bind fun t332 => if t332 = true then laws_FnTrees.l1 k roots r B.2 ((i + 1 : Nat) : Int) a B.1 else some false) (fun k => ?_) (ev_bind (iAllAt_ev B.1 _ (by omega)) (ev_bind (sAllAt_ev a _ (by omega)) (ev_bind (same_ev' (allB_ext fun j h0 h1 => o1 _ j (hr _ (getD_mem (by omega)))) (by rw [allB_len]; omega)) ?_)))
        · simp only [laws_FnTrees.l1]
          rw [if_pos (by omega), if_pos (by omega), rd_nat, wsucc (n := roots.length) (by omega) (by omega)]
        · simp only [if_true]; exact ih (i + 1) (by omega)
    have places : ∀ (d i : Nat), i + d = 16 → Ev (fun k => laws_FnTrees.l0 k roots r s B.2 (i : Int) a B.1) true := by
      intro d
      induction d with
      | zero =>
        intro i hi
        refine Ev.step (fun k => ?_) (all roots.length 0 (by omega))
        simp only [laws_FnTrees.l0]
        rw [if_neg (by omega)]; rfl
      | succ d ih =>
        intro i hi
        have h := ih (i + 1) (by omega)
        by_cases hs : (i : Int) = s
        · refine Ev.step (fun k => ?_) h
          simp only [laws_FnTrees.l0]
          rw [if_pos (by omega), if_pos hs, wsucc (n := 16) (by omega) (by omega)]
        · refine Ev.step (f := fun k => (impl_GetAt.f k B.1 B.2 (i : Int)).bind fun t322 => (spec_GetAt.f k a r (i : Int)).bind fun t323 => if t322 = t323 then laws_FnTrees.l0 k roots r s B.2 ((i + 1 : Nat) : Int) a B.1 else some false) (fun k => ?_) (ev_bind (iGetAt_ev B.1 B.2 _ (by omega)) (ev_bind (sGetAt_ev a r _ (by omega)) ?_))
          · simp only [laws_FnTrees.l0]
            rw [if_pos (by omega), if_neg hs, wsucc (n := 16) (by omega) (by omega)]
          · rw [g1 _ (by omega) (by omega), if_neg hs]
            simp only [eq_self_iff_true, if_true]
            exact h
    refine Ev.step (fun k => ?_) (places 16 0 rfl)
    simp only [laws_FnTrees.j0]
    rfl
end Go.Proofs.Ytjpjikhokpfhmaa.Pure

/- Functions of the translation as plain Lean functions, and for each that its call comes to just what its Lean function answers; its conditions stand in each theorem. Written by a program of this session. -/
namespace Go.Proofs.Ytjpjikhokpfhmaa.fnTrees
open Go.ChangeShapes Go.WideShapes Go.ChangeAt Go.RowKit
open Go.ChangeMaps (open_string shut_string)
set_option linter.unusedVariables false
theorem own : ownKnob Try.prog.godebug = none := by kernel_rfl
theorem laidOut : laidOutB Try.prog = true := by kernel_rfl
def IsRow (k : IntKind) (w : World) (a : Option Addr) (len cap : Nat) (zs : List Int) : Prop :=
  (a = none ∧ len = 0 ∧ cap = 0 ∧ zs = []) ∨
  ∃ x, a = some x ∧ len ≤ cap ∧ cap ≤ maxLen ∧ zs.length = cap ∧ (∀ i, i < zs.length → w.cell? (x.add i) = some (.int k (zs.getD i 0))) ∧ ∀ n ∈ zs, (Lit.int k n).wf = true
set_option maxRecDepth 100000 in
theorem lifted (os : Os) (started : os.Started) (H : Type) (enc : TypeId × Value → H) :
    ReturnsInHanded {} Try.checked os 3 .any (Rows.fnTreesSpec.pre6 enc Try.prog Try.f3 Rows.fnTreesRow.domain false) (Rows.fnTreesSpec.post enc Try.prog Try.f3 false true false false) := by
  refine returnsInHanded_of_change_sized (C := Try.checked) own started (by kernel_rfl) Try.func3
    (ChangeSpec.witness6 (enc := enc) (C := Try.checked) false ⟨#[], #[.slice none 0 0], []⟩ 8 (by kernel_rfl) (by kernel_rfl) (by kernel_rfl) (by kernel_rfl)) ?_
  intro W base args ds gs before hval0 hW hcnd hsz0 _
  have hsz : (DataW.weightsEach Try.prog (Try.f3.params.toList ++ Rows.fnTreesSpec.plain.varTypes Try.prog) (ds ++ gs)).all (· ≤ reachBytes) = true := hsz0
  have hval : ∀ (j : Nat) t v, Try.f3.params[j]? = some t → args[j]? = some v → Value.okWide Try.prog W .any base t v := hval0
  have hW' := hW
  obtain ⟨p, q, hA0, hV, rfl, hfz, hnd⟩ := hW
  have hA : DataW.TrodAll enc Try.prog W 0 (fun _ => true) true Try.f3.params.toList args.toList ds p := hA0
  rw [Try.params3] at hA hval hsz
  obtain ⟨v0, vs0, d0, ds0, p0, q0, hargs, rfl, rfl, h0, r0⟩ := trodAll_cons hA
  obtain ⟨rfl, rfl, rfl⟩ := trodAll_nil r0
  obtain rfl : args = #[v0] := by cases args; simp_all
  obtain ⟨rfl, rfl⟩ := trodVars_none hV
  obtain ⟨a0, len0, cap0, rfl⟩ := okWide_slice Try.underlying22 (hval 0 22 v0 rfl rfl)
  have k0 := h0
  have lt0 : ∀ x ∈ p0, x.block < W.heap.size := by obtain ⟨m, hm⟩ := k0; exact DataW.trod_lt m _ _ _ hm
  obtain ⟨z0, w0⟩ : ∃ zs, IsRow .u8 W a0 len0 cap0 zs := by
    obtain ⟨fuel, hf⟩ := h0
    rcases open_ints Try.underlying22 Try.underlying5 (by kernel_rfl) hf with ⟨hcs, _⟩ | ⟨x, l, c, zs, hcs, _, hl, hm, hz, _, hcell, hwz⟩
    · simp [Value.cells] at hcs
      obtain ⟨rfl, rfl, rfl⟩ := hcs
      exact ⟨[], .inl ⟨rfl, rfl, rfl, rfl⟩⟩
    · simp [Value.cells] at hcs
      obtain ⟨rfl, rfl, rfl⟩ := hcs
      exact ⟨zs, .inr ⟨_, rfl, hl, hm, by simpa using hz, hcell, hwz⟩⟩
  have y0 : len0 * 1 ≤ 140737488351232 := Go.Proofs.YtjpjikhokpfhmaaW.PrintWords.sized_ints hsz (j := 0) (t := 22) rfl rfl Try.underlying22 Try.underlying5 (by kernel_rfl) (by kernel_rfl) h0
  clear hA0 hval0 hsz0 hsz
  refine (PT.laws_FnTrees.walk Pure.FnTrees a0 len0 cap0 z0 W w0 y0).mono fun e W' ⟨he, bel⟩ => ?_
  subst he
  exact ⟨_, rfl, _, _, _, [], _, [], hW', trodAll_mk1 (shut_bool Try.underlying4 _), (trodAll_cons_mk (Below.trod laidOut (by kernel_rfl) (of_decide_eq_true (by kernel_rfl)) k0 bel lt0) trodAll_mk0), rfl, bel.frame _, fun h => by cases h⟩
theorem over : Rows.fnTreesRow.holds Try.pinned (OpenSpec.ofChange Rows.fnTreesSpec) :=
  OpenClaim.holds_of_wide 3 Try.f3 rfl rfl rfl rfl rfl rfl rfl ⟨rfl, rfl, rfl, rfl, rfl⟩ rfl rfl rfl rfl rfl (by kernel_rfl) Try.func3 (by kernel_rfl)
    (of_decide_eq_true (by kernel_rfl)) (by unfold Func.isWrapper; first | (rw [if_pos (by decide +kernel)]; kernel_rfl) | (rw [if_neg (by decide +kernel)]; exact ⟨rfl, rfl⟩))
    (fun os started H enc _ => lifted os started H enc)
theorem proved : Rows.FnTreesSaid := over
#print axioms proved
end Go.Proofs.Ytjpjikhokpfhmaa.fnTrees
namespace Go.Proofs.Ytjpjikhokpfhmaa
/-- The row, under a short name, for the claim. -/
theorem fnTrees_holds : Rows.FnTreesSaid := fnTrees.proved
end Go.Proofs.Ytjpjikhokpfhmaa
