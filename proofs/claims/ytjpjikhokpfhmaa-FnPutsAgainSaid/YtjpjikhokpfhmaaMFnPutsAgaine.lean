/- FnPutsAgain: functions of the translation as Lean functions with what their calls come to, plain lemmas on them, and, at the end, the row. Parts of one proof, merged by a program of this session; each part's own sentence stands at its head. -/
import Derived.Test.YtjpjikhokpfhmaaRows
import Derived.WalkKit
import Derived.ProofKit
import Derived.OpenShut
import Derived.ShutString
import Derived.ChangeOld
import Derived.Below
import Derived.SizedLaws
import Derived.Test.YtjpjikhokpfhmaaMFnPutsAgaind
namespace Go.Proofs.Ytjpjikhokpfhmaa.PT
open Go.RowKit Go.Proofs.YtjpjikhokpfhmaaW.PrintWords Go.Proofs.YtjpjikhokpfhmaaW.PrintLast Go.Proofs.YtjpjikhokpfhmaaW.PrintMore
attribute [local go_sem] max2_int min2_int max_two min_two max_three min_three max_four min_four   -- for this text's walks alone
set_option linter.unusedVariables false
set_option linter.unusedSimpArgs false
def laws_FnPutsAgain.f (k : Nat) (l0 : List Int) : Option (Bool):=(laws_big.f l0).bind fun t338=>(if t338 = true then (some true) else ((spec_DrawForest.f k l0).bind fun bt339=>((spec_DrawPlaces.f k l0).bind fun t346=>(if 0 < (t346.length : Int) then (if (bt339.2.length : Int) = 0 then (none) else (if 0 ≤ (Int.tmod (rd t346 0) (bt339.2.length : Int)) then (if (Int.tmod (rd t346 0) (bt339.2.length : Int)) < (bt339.2.length : Int) then (if 1 < (t346.length : Int) then (if 2 < (t346.length : Int) then ((impl_PutAt.f k bt339.1 (rd bt339.2 (Int.tmod (rd t346 0) (bt339.2.length : Int))) (Int.tmod (rd t346 1) 16) 5).bind fun bt353=>((impl_PutAt.f k bt353.1 bt353.2 (Int.tmod (rd t346 1) 16) 5).bind fun bt358=>((impl_PutAt.f k bt353.1 bt353.2 (Int.tmod (wrap64 ((wrap64 ((Int.tmod (rd t346 1) 16) + 1)) + (Int.tmod (rd t346 2) 15))) 16) 6).bind fun bt363=>((impl_PutAt.f k bt339.1 (rd bt339.2 (Int.tmod (rd t346 0) (bt339.2.length : Int))) (Int.tmod (wrap64 ((wrap64 ((Int.tmod (rd t346 1) 16) + 1)) + (Int.tmod (rd t346 2) 15))) 16) 6).bind fun bt368=>((impl_PutAt.f k bt368.1 bt368.2 (Int.tmod (rd t346 1) 16) 5).bind fun bt373=>((impl_AllAt.f k bt353.1 bt353.2).bind fun t378=>((impl_AllAt.f k bt358.1 bt358.2).bind fun t381=>((laws_sameInts.f k t378 t381).bind fun t384=>(if t384 = true then ((impl_AllAt.f k bt363.1 bt363.2).bind fun t385=>((impl_AllAt.f k bt373.1 bt373.2).bind fun t388=>((laws_sameInts.f k t385 t388).bind fun t391=>(if t391 = true then ((impl_GetAt.f k bt363.1 bt363.2 (Int.tmod (rd t346 1) 16)).bind fun t392=>(if t392 = 5 then ((impl_GetAt.f k bt363.1 bt363.2 (Int.tmod (wrap64 ((wrap64 ((Int.tmod (rd t346 1) 16) + 1)) + (Int.tmod (rd t346 2) 15))) 16)).bind fun t393=>(if t393 = 6 then ((impl_GetAt.f k bt373.1 bt373.2 99).bind fun t394=>(some (t394 == 0))) else (some false))) else (some false))) else (some false))))) else (some false)))))))))) else (none)) else (none)) else (none)) else (none))) else (none)))))
theorem laws_FnPutsAgain.mono : ∀ a0 k,LeO (laws_FnPutsAgain.f k a0) (laws_FnPutsAgain.f (k + 1) a0):=by
 intro a0 k;unfold laws_FnPutsAgain.f
 repeat' first
   | (with_reducible exact impl_AllAt.mono _ _ _)
   | (with_reducible exact impl_GetAt.mono _ _ _ _)
   | (with_reducible exact impl_PutAt.mono _ _ _ _ _)
   | (with_reducible exact laws_sameInts.mono _ _ _)
   | (with_reducible exact spec_DrawForest.mono _ _)
   | (with_reducible exact spec_DrawPlaces.mono _ _)
   | (with_reducible exact LeO.refl _)
   | (with_reducible exact LeO.none _)
   | (with_reducible refine LeO.ite ?_ ?_)
   | (with_reducible refine LeO.bind ?_ (fun _=>?_))
   | exact impl_AllAt.mono _ _ _
   | exact impl_GetAt.mono _ _ _ _
   | exact impl_PutAt.mono _ _ _ _ _
   | exact laws_sameInts.mono _ _ _
   | exact spec_DrawForest.mono _ _
   | exact spec_DrawPlaces.mono _ _
   | exact LeO.none _
   | refine LeO.ite ?_ ?_
   | refine LeO.bind ?_ (fun _=>?_)
def laws_FnPutsAgain.T13 : Bool × List (List Nat × List Nat):=(true,[([],[]),([],[]),([0,1],[0,1]),([],[]),([],[]),([3,4,2],[3,4]),([2,5,5],[2,5]),([6,6],[6]),([7],[7]),([7],[7]),([8,9,7,7],[7,8,9]),([7],[7]),([7],[7]),([11,12,10,7],[7,11,12]),([10,13,13,7],[7,10,13]),([7,14],[7,14]),([15,14],[15]),([16],[16]),([16],[16]),([16],[16]),([17,18,19,16,16],[16,17,18,19]),([20,16],[16,20]),([16,21],[16,21]),([22,20],[22]),([23],[23]),([23],[23]),([23],[23]),([24,25,26,23,23],[23,24,25,26]),([27,23],[23,27]),([23,28],[23,28]),([29,27],[29]),([30],[30]),([30],[30]),([31,32,30,30],[30,31,32]),([33,30],[30,33]),([30,34],[30,34]),([35,33,0,1,2,3,4,5,6,7,8,9,10,11,12,13,14,15,16,17,18,19,20,21,22,23,24,25,26,27,28,29,30,31,32,33,34,35],[35])])
def laws_FnPutsAgain.B13 : List Nat:=[0,0,3,0,0,31,63,127,255,255,1023,255,255,8191,16383,32767,65535,131071,131071,131071,1048575,2097151,4194303,8388607,16777215,16777215,16777215,134217727,268435455,536870911,1073741823,2147483647,2147483647,8589934591,17179869183,34359738367,68719476735]
theorem laws_FnPutsAgain.tab13 : rtab .any (opsOf Try.f4 13) = laws_FnPutsAgain.T13:=by kernel_rfl
theorem laws_FnPutsAgain.bits13 : waitsOk laws_FnPutsAgain.T13.2 laws_FnPutsAgain.B13 = true:=by kernel_rfl
set_option maxHeartbeats 8000000 in
set_option maxRecDepth 100000 in
theorem laws_FnPutsAgain.calls (k : Nat) (A0 : Option Addr) (c0 : Nat) (l0 : List Int) (r : Bool) (hT : Aside0 (r = true)) (w : World) (hr0 : Kd.C (Kd.int .u8) w A0 l0.length l0) (hc0 : l0.length ≤ c0) (h : laws_FnPutsAgain.f k l0 = some r) :
  Calls Try.prog 4 #[.slice A0 l0.length c0] w fun e w'=>e = .returned (.bool r) ∧ Below w.heap.size w w':=by
 have hu26:=Try.underlying26;have HR0:=Aside0.mk hr0;have HC0:=Aside0.mk hc0;clear hr0 hc0;have HB:=Aside0.mk (Below.refl w.heap.size w);have H : ((laws_big.f l0).bind fun t338=>(if t338 = true then (some true) else ((spec_DrawForest.f k l0).bind fun bt339=>((spec_DrawPlaces.f k l0).bind fun t346=>(if 0 < (t346.length : Int) then (if (bt339.2.length : Int) = 0 then (none) else (if 0 ≤ (Int.tmod (rd t346 0) (bt339.2.length : Int)) then (if (Int.tmod (rd t346 0) (bt339.2.length : Int)) < (bt339.2.length : Int) then (if 1 < (t346.length : Int) then (if 2 < (t346.length : Int) then ((impl_PutAt.f k bt339.1 (rd bt339.2 (Int.tmod (rd t346 0) (bt339.2.length : Int))) (Int.tmod (rd t346 1) 16) 5).bind fun bt353=>((impl_PutAt.f k bt353.1 bt353.2 (Int.tmod (rd t346 1) 16) 5).bind fun bt358=>((impl_PutAt.f k bt353.1 bt353.2 (Int.tmod (wrap64 ((wrap64 ((Int.tmod (rd t346 1) 16) + 1)) + (Int.tmod (rd t346 2) 15))) 16) 6).bind fun bt363=>((impl_PutAt.f k bt339.1 (rd bt339.2 (Int.tmod (rd t346 0) (bt339.2.length : Int))) (Int.tmod (wrap64 ((wrap64 ((Int.tmod (rd t346 1) 16) + 1)) + (Int.tmod (rd t346 2) 15))) 16) 6).bind fun bt368=>((impl_PutAt.f k bt368.1 bt368.2 (Int.tmod (rd t346 1) 16) 5).bind fun bt373=>((impl_AllAt.f k bt353.1 bt353.2).bind fun t378=>((impl_AllAt.f k bt358.1 bt358.2).bind fun t381=>((laws_sameInts.f k t378 t381).bind fun t384=>(if t384 = true then ((impl_AllAt.f k bt363.1 bt363.2).bind fun t385=>((impl_AllAt.f k bt373.1 bt373.2).bind fun t388=>((laws_sameInts.f k t385 t388).bind fun t391=>(if t391 = true then ((impl_GetAt.f k bt363.1 bt363.2 (Int.tmod (rd t346 1) 16)).bind fun t392=>(if t392 = 5 then ((impl_GetAt.f k bt363.1 bt363.2 (Int.tmod (wrap64 ((wrap64 ((Int.tmod (rd t346 1) 16) + 1)) + (Int.tmod (rd t346 2) 15))) 16)).bind fun t393=>(if t393 = 6 then ((impl_GetAt.f k bt373.1 bt373.2 99).bind fun t394=>(some (t394 == 0))) else (some false))) else (some false))) else (some false))))) else (some false)))))))))) else (none)) else (none)) else (none)) else (none))) else (none)))))) = some r:=h;clear h;replace H:=Option.bind_eq_some_iff.mp H;obtain ⟨t338,A20,H⟩:=H;replace H : (if t338 = true then (some true) else ((spec_DrawForest.f k l0).bind fun bt339=>((spec_DrawPlaces.f k l0).bind fun t346=>(if 0 < (t346.length : Int) then (if (bt339.2.length : Int) = 0 then (none) else (if 0 ≤ (Int.tmod (rd t346 0) (bt339.2.length : Int)) then (if (Int.tmod (rd t346 0) (bt339.2.length : Int)) < (bt339.2.length : Int) then (if 1 < (t346.length : Int) then (if 2 < (t346.length : Int) then ((impl_PutAt.f k bt339.1 (rd bt339.2 (Int.tmod (rd t346 0) (bt339.2.length : Int))) (Int.tmod (rd t346 1) 16) 5).bind fun bt353=>((impl_PutAt.f k bt353.1 bt353.2 (Int.tmod (rd t346 1) 16) 5).bind fun bt358=>((impl_PutAt.f k bt353.1 bt353.2 (Int.tmod (wrap64 ((wrap64 ((Int.tmod (rd t346 1) 16) + 1)) + (Int.tmod (rd t346 2) 15))) 16) 6).bind fun bt363=>((impl_PutAt.f k bt339.1 (rd bt339.2 (Int.tmod (rd t346 0) (bt339.2.length : Int))) (Int.tmod (wrap64 ((wrap64 ((Int.tmod (rd t346 1) 16) + 1)) + (Int.tmod (rd t346 2) 15))) 16) 6).bind fun bt368=>((impl_PutAt.f k bt368.1 bt368.2 (Int.tmod (rd t346 1) 16) 5).bind fun bt373=>((impl_AllAt.f k bt353.1 bt353.2).bind fun t378=>((impl_AllAt.f k bt358.1 bt358.2).bind fun t381=>((laws_sameInts.f k t378 t381).bind fun t384=>(if t384 = true then ((impl_AllAt.f k bt363.1 bt363.2).bind fun t385=>((impl_AllAt.f k bt373.1 bt373.2).bind fun t388=>((laws_sameInts.f k t385 t388).bind fun t391=>(if t391 = true then ((impl_GetAt.f k bt363.1 bt363.2 (Int.tmod (rd t346 1) 16)).bind fun t392=>(if t392 = 5 then ((impl_GetAt.f k bt363.1 bt363.2 (Int.tmod (wrap64 ((wrap64 ((Int.tmod (rd t346 1) 16) + 1)) + (Int.tmod (rd t346 2) 15))) 16)).bind fun t393=>(if t393 = 6 then ((impl_GetAt.f k bt373.1 bt373.2 99).bind fun t394=>(some (t394 == 0))) else (some false))) else (some false))) else (some false))))) else (some false)))))))))) else (none)) else (none)) else (none)) else (none))) else (none))))) = some r:=H;have A2:=Aside0.mk A20;clear A20
 by_cases c3 : t338 = true
 ·subst c3;have H1 : (some true) = some r:=by rw [if_pos rfl] at H;exact H
  clear H;have H:=H1;clear H1;obtain rfl:=Option.some.inj H
  go_enter Try.func4,Try.ntmps4
  go_wp2_with (first | ((with_reducible refine gate_callee (f:=6) rfl ?_);refine goesL_ (some 20) rfl rfl Try.func6 (by kernel_rfl) rfl #[.slice A0 l0.length c0] rfl (by (try simp only [List.map_toArray,List.map_cons,List.map_nil]);first | done | rfl | (simp only [List.length_drop,List.length_take];rfl)) ?_;(with_reducible refine (laws_big.calls _ _ l0 true _ ?side1 ?side2 A2.out).mono ?_);(case side1=>repeat (first | exact HR0.out | (with_reducible refine Kd.C_alloc ?_ _) | (with_reducible refine Kd.C_drewN ?_ _) | (with_reducible refine Kd.C_drew ?_)));(case side2=>exact HC0.out);rintro e w' ⟨rfl,⟨nd,rfl⟩⟩;refine ⟨_,rfl,?_⟩))
  go_ret
  exact ⟨by first | rfl | (simp [errW_none,errW_some] <;> rfl) | (simp [*,errW_none,errW_some] <;> rfl),hs HB⟩
 replace c3:=Bool.eq_false_iff.mpr c3;subst c3;have H1 : ((spec_DrawForest.f k l0).bind fun bt339=>((spec_DrawPlaces.f k l0).bind fun t346=>(if 0 < (t346.length : Int) then (if (bt339.2.length : Int) = 0 then (none) else (if 0 ≤ (Int.tmod (rd t346 0) (bt339.2.length : Int)) then (if (Int.tmod (rd t346 0) (bt339.2.length : Int)) < (bt339.2.length : Int) then (if 1 < (t346.length : Int) then (if 2 < (t346.length : Int) then ((impl_PutAt.f k bt339.1 (rd bt339.2 (Int.tmod (rd t346 0) (bt339.2.length : Int))) (Int.tmod (rd t346 1) 16) 5).bind fun bt353=>((impl_PutAt.f k bt353.1 bt353.2 (Int.tmod (rd t346 1) 16) 5).bind fun bt358=>((impl_PutAt.f k bt353.1 bt353.2 (Int.tmod (wrap64 ((wrap64 ((Int.tmod (rd t346 1) 16) + 1)) + (Int.tmod (rd t346 2) 15))) 16) 6).bind fun bt363=>((impl_PutAt.f k bt339.1 (rd bt339.2 (Int.tmod (rd t346 0) (bt339.2.length : Int))) (Int.tmod (wrap64 ((wrap64 ((Int.tmod (rd t346 1) 16) + 1)) + (Int.tmod (rd t346 2) 15))) 16) 6).bind fun bt368=>((impl_PutAt.f k bt368.1 bt368.2 (Int.tmod (rd t346 1) 16) 5).bind fun bt373=>((impl_AllAt.f k bt353.1 bt353.2).bind fun t378=>((impl_AllAt.f k bt358.1 bt358.2).bind fun t381=>((laws_sameInts.f k t378 t381).bind fun t384=>(if t384 = true then ((impl_AllAt.f k bt363.1 bt363.2).bind fun t385=>((impl_AllAt.f k bt373.1 bt373.2).bind fun t388=>((laws_sameInts.f k t385 t388).bind fun t391=>(if t391 = true then ((impl_GetAt.f k bt363.1 bt363.2 (Int.tmod (rd t346 1) 16)).bind fun t392=>(if t392 = 5 then ((impl_GetAt.f k bt363.1 bt363.2 (Int.tmod (wrap64 ((wrap64 ((Int.tmod (rd t346 1) 16) + 1)) + (Int.tmod (rd t346 2) 15))) 16)).bind fun t393=>(if t393 = 6 then ((impl_GetAt.f k bt373.1 bt373.2 99).bind fun t394=>(some (t394 == 0))) else (some false))) else (some false))) else (some false))))) else (some false)))))))))) else (none)) else (none)) else (none)) else (none))) else (none)))) = some r:=by rw [if_neg (show ¬ (false = true) by decide)] at H;exact H
 clear H;have H:=H1;clear H1;replace H:=Option.bind_eq_some_iff.mp H;obtain ⟨⟨t339,t342⟩,A40,H⟩:=H;replace H : ((spec_DrawPlaces.f k l0).bind fun t346=>(if 0 < (t346.length : Int) then (if (t342.length : Int) = 0 then (none) else (if 0 ≤ (Int.tmod (rd t346 0) (t342.length : Int)) then (if (Int.tmod (rd t346 0) (t342.length : Int)) < (t342.length : Int) then (if 1 < (t346.length : Int) then (if 2 < (t346.length : Int) then ((impl_PutAt.f k t339 (rd t342 (Int.tmod (rd t346 0) (t342.length : Int))) (Int.tmod (rd t346 1) 16) 5).bind fun bt353=>((impl_PutAt.f k bt353.1 bt353.2 (Int.tmod (rd t346 1) 16) 5).bind fun bt358=>((impl_PutAt.f k bt353.1 bt353.2 (Int.tmod (wrap64 ((wrap64 ((Int.tmod (rd t346 1) 16) + 1)) + (Int.tmod (rd t346 2) 15))) 16) 6).bind fun bt363=>((impl_PutAt.f k t339 (rd t342 (Int.tmod (rd t346 0) (t342.length : Int))) (Int.tmod (wrap64 ((wrap64 ((Int.tmod (rd t346 1) 16) + 1)) + (Int.tmod (rd t346 2) 15))) 16) 6).bind fun bt368=>((impl_PutAt.f k bt368.1 bt368.2 (Int.tmod (rd t346 1) 16) 5).bind fun bt373=>((impl_AllAt.f k bt353.1 bt353.2).bind fun t378=>((impl_AllAt.f k bt358.1 bt358.2).bind fun t381=>((laws_sameInts.f k t378 t381).bind fun t384=>(if t384 = true then ((impl_AllAt.f k bt363.1 bt363.2).bind fun t385=>((impl_AllAt.f k bt373.1 bt373.2).bind fun t388=>((laws_sameInts.f k t385 t388).bind fun t391=>(if t391 = true then ((impl_GetAt.f k bt363.1 bt363.2 (Int.tmod (rd t346 1) 16)).bind fun t392=>(if t392 = 5 then ((impl_GetAt.f k bt363.1 bt363.2 (Int.tmod (wrap64 ((wrap64 ((Int.tmod (rd t346 1) 16) + 1)) + (Int.tmod (rd t346 2) 15))) 16)).bind fun t393=>(if t393 = 6 then ((impl_GetAt.f k bt373.1 bt373.2 99).bind fun t394=>(some (t394 == 0))) else (some false))) else (some false))) else (some false))))) else (some false)))))))))) else (none)) else (none)) else (none)) else (none))) else (none))) = some r:=H;have A4:=Aside0.mk A40;clear A40;replace H:=Option.bind_eq_some_iff.mp H;obtain ⟨t346,A50,H⟩:=H;replace H : (if 0 < (t346.length : Int) then (if (t342.length : Int) = 0 then (none) else (if 0 ≤ (Int.tmod (rd t346 0) (t342.length : Int)) then (if (Int.tmod (rd t346 0) (t342.length : Int)) < (t342.length : Int) then (if 1 < (t346.length : Int) then (if 2 < (t346.length : Int) then ((impl_PutAt.f k t339 (rd t342 (Int.tmod (rd t346 0) (t342.length : Int))) (Int.tmod (rd t346 1) 16) 5).bind fun bt353=>((impl_PutAt.f k bt353.1 bt353.2 (Int.tmod (rd t346 1) 16) 5).bind fun bt358=>((impl_PutAt.f k bt353.1 bt353.2 (Int.tmod (wrap64 ((wrap64 ((Int.tmod (rd t346 1) 16) + 1)) + (Int.tmod (rd t346 2) 15))) 16) 6).bind fun bt363=>((impl_PutAt.f k t339 (rd t342 (Int.tmod (rd t346 0) (t342.length : Int))) (Int.tmod (wrap64 ((wrap64 ((Int.tmod (rd t346 1) 16) + 1)) + (Int.tmod (rd t346 2) 15))) 16) 6).bind fun bt368=>((impl_PutAt.f k bt368.1 bt368.2 (Int.tmod (rd t346 1) 16) 5).bind fun bt373=>((impl_AllAt.f k bt353.1 bt353.2).bind fun t378=>((impl_AllAt.f k bt358.1 bt358.2).bind fun t381=>((laws_sameInts.f k t378 t381).bind fun t384=>(if t384 = true then ((impl_AllAt.f k bt363.1 bt363.2).bind fun t385=>((impl_AllAt.f k bt373.1 bt373.2).bind fun t388=>((laws_sameInts.f k t385 t388).bind fun t391=>(if t391 = true then ((impl_GetAt.f k bt363.1 bt363.2 (Int.tmod (rd t346 1) 16)).bind fun t392=>(if t392 = 5 then ((impl_GetAt.f k bt363.1 bt363.2 (Int.tmod (wrap64 ((wrap64 ((Int.tmod (rd t346 1) 16) + 1)) + (Int.tmod (rd t346 2) 15))) 16)).bind fun t393=>(if t393 = 6 then ((impl_GetAt.f k bt373.1 bt373.2 99).bind fun t394=>(some (t394 == 0))) else (some false))) else (some false))) else (some false))))) else (some false)))))))))) else (none)) else (none)) else (none)) else (none))) else (none)) = some r:=H;have A5:=Aside0.mk A50;clear A50
 by_cases c6 : 0 < (t346.length : Int)
 ·rw [if_pos c6] at H;have c6b0 : decide (0 < (t346.length : Int)) = true:=decide_eq_true c6;have c6b1 : decide (0 < t346.length) = true:=decide_eq_true (by omega);clear c6
  by_cases c7 : (t342.length : Int) = 0
  ·rw [if_pos c7] at H;exact absurd H (by simp)
  rw [if_neg c7] at H;have c7b0 : ((t342.length : Int) == 0) = false:=beq_eq_false_iff_ne.mpr c7;have c7b1 : ((t342.length : Int) != 0) = true:=bne_iff_ne.mpr c7;have c7b2 : ¬ (t342 = []):=fun h_=>c7 (by rw [h_];rfl);obtain ⟨ji8,hji8⟩ : ∃ j_ : Int,(Int.tmod (rd t346 0) (t342.length : Int)) = j_:=⟨_,rfl⟩;replace H : (if 0 ≤ (ji8) then (if (ji8) < (t342.length : Int) then (if 1 < (t346.length : Int) then (if 2 < (t346.length : Int) then ((impl_PutAt.f k t339 (rd t342 (ji8)) (Int.tmod (rd t346 1) 16) 5).bind fun bt353=>((impl_PutAt.f k bt353.1 bt353.2 (Int.tmod (rd t346 1) 16) 5).bind fun bt358=>((impl_PutAt.f k bt353.1 bt353.2 (Int.tmod (wrap64 ((wrap64 ((Int.tmod (rd t346 1) 16) + 1)) + (Int.tmod (rd t346 2) 15))) 16) 6).bind fun bt363=>((impl_PutAt.f k t339 (rd t342 (ji8)) (Int.tmod (wrap64 ((wrap64 ((Int.tmod (rd t346 1) 16) + 1)) + (Int.tmod (rd t346 2) 15))) 16) 6).bind fun bt368=>((impl_PutAt.f k bt368.1 bt368.2 (Int.tmod (rd t346 1) 16) 5).bind fun bt373=>((impl_AllAt.f k bt353.1 bt353.2).bind fun t378=>((impl_AllAt.f k bt358.1 bt358.2).bind fun t381=>((laws_sameInts.f k t378 t381).bind fun t384=>(if t384 = true then ((impl_AllAt.f k bt363.1 bt363.2).bind fun t385=>((impl_AllAt.f k bt373.1 bt373.2).bind fun t388=>((laws_sameInts.f k t385 t388).bind fun t391=>(if t391 = true then ((impl_GetAt.f k bt363.1 bt363.2 (Int.tmod (rd t346 1) 16)).bind fun t392=>(if t392 = 5 then ((impl_GetAt.f k bt363.1 bt363.2 (Int.tmod (wrap64 ((wrap64 ((Int.tmod (rd t346 1) 16) + 1)) + (Int.tmod (rd t346 2) 15))) 16)).bind fun t393=>(if t393 = 6 then ((impl_GetAt.f k bt373.1 bt373.2 99).bind fun t394=>(some (t394 == 0))) else (some false))) else (some false))) else (some false))))) else (some false)))))))))) else (none)) else (none)) else (none)) else (none)) = some r:=by first | (rw [hji8] at H;exact H) | (simp only [hji8] at H ⊢;exact H)
  (try rw [hji8] at A2)
  (try rw [hji8] at A4)
  (try rw [hji8] at A5)
  by_cases c9 : 0 ≤ (ji8)
  ·rw [if_pos c9] at H;have c9b0 : decide (0 ≤ (ji8)) = true:=decide_eq_true c9;clear c9
   by_cases c10 : (ji8) < (t342.length : Int)
   ·rw [if_pos c10] at H;have c10b0 : decide ((ji8) < (t342.length : Int)) = true:=decide_eq_true c10;clear c10
    by_cases c11 : 1 < (t346.length : Int)
    ·rw [if_pos c11] at H;have c11b0 : decide (1 < (t346.length : Int)) = true:=decide_eq_true c11;have c11b1 : decide (1 < t346.length) = true:=decide_eq_true (by omega);clear c11
     by_cases c12 : 2 < (t346.length : Int)
     ·rw [if_pos c12] at H;have c12b0 : decide (2 < (t346.length : Int)) = true:=decide_eq_true c12;have c12b1 : decide (2 < t346.length) = true:=decide_eq_true (by omega);clear c12;replace H:=Option.bind_eq_some_iff.mp H;obtain ⟨⟨t353,t356⟩,A130,H⟩:=H;replace H : ((impl_PutAt.f k t353 t356 (Int.tmod (rd t346 1) 16) 5).bind fun bt358=>((impl_PutAt.f k t353 t356 (Int.tmod (wrap64 ((wrap64 ((Int.tmod (rd t346 1) 16) + 1)) + (Int.tmod (rd t346 2) 15))) 16) 6).bind fun bt363=>((impl_PutAt.f k t339 (rd t342 (ji8)) (Int.tmod (wrap64 ((wrap64 ((Int.tmod (rd t346 1) 16) + 1)) + (Int.tmod (rd t346 2) 15))) 16) 6).bind fun bt368=>((impl_PutAt.f k bt368.1 bt368.2 (Int.tmod (rd t346 1) 16) 5).bind fun bt373=>((impl_AllAt.f k t353 t356).bind fun t378=>((impl_AllAt.f k bt358.1 bt358.2).bind fun t381=>((laws_sameInts.f k t378 t381).bind fun t384=>(if t384 = true then ((impl_AllAt.f k bt363.1 bt363.2).bind fun t385=>((impl_AllAt.f k bt373.1 bt373.2).bind fun t388=>((laws_sameInts.f k t385 t388).bind fun t391=>(if t391 = true then ((impl_GetAt.f k bt363.1 bt363.2 (Int.tmod (rd t346 1) 16)).bind fun t392=>(if t392 = 5 then ((impl_GetAt.f k bt363.1 bt363.2 (Int.tmod (wrap64 ((wrap64 ((Int.tmod (rd t346 1) 16) + 1)) + (Int.tmod (rd t346 2) 15))) 16)).bind fun t393=>(if t393 = 6 then ((impl_GetAt.f k bt373.1 bt373.2 99).bind fun t394=>(some (t394 == 0))) else (some false))) else (some false))) else (some false))))) else (some false))))))))) = some r:=H;have A13:=Aside0.mk A130;clear A130;replace H:=Option.bind_eq_some_iff.mp H;obtain ⟨⟨t358,t361⟩,A140,H⟩:=H;replace H : ((impl_PutAt.f k t353 t356 (Int.tmod (wrap64 ((wrap64 ((Int.tmod (rd t346 1) 16) + 1)) + (Int.tmod (rd t346 2) 15))) 16) 6).bind fun bt363=>((impl_PutAt.f k t339 (rd t342 (ji8)) (Int.tmod (wrap64 ((wrap64 ((Int.tmod (rd t346 1) 16) + 1)) + (Int.tmod (rd t346 2) 15))) 16) 6).bind fun bt368=>((impl_PutAt.f k bt368.1 bt368.2 (Int.tmod (rd t346 1) 16) 5).bind fun bt373=>((impl_AllAt.f k t353 t356).bind fun t378=>((impl_AllAt.f k t358 t361).bind fun t381=>((laws_sameInts.f k t378 t381).bind fun t384=>(if t384 = true then ((impl_AllAt.f k bt363.1 bt363.2).bind fun t385=>((impl_AllAt.f k bt373.1 bt373.2).bind fun t388=>((laws_sameInts.f k t385 t388).bind fun t391=>(if t391 = true then ((impl_GetAt.f k bt363.1 bt363.2 (Int.tmod (rd t346 1) 16)).bind fun t392=>(if t392 = 5 then ((impl_GetAt.f k bt363.1 bt363.2 (Int.tmod (wrap64 ((wrap64 ((Int.tmod (rd t346 1) 16) + 1)) + (Int.tmod (rd t346 2) 15))) 16)).bind fun t393=>(if t393 = 6 then ((impl_GetAt.f k bt373.1 bt373.2 99).bind fun t394=>(some (t394 == 0))) else (some false))) else (some false))) else (some false))))) else (some false)))))))) = some r:=H;have A14:=Aside0.mk A140;clear A140;replace H:=Option.bind_eq_some_iff.mp H;obtain ⟨⟨t363,t366⟩,A150,H⟩:=H;replace H : ((impl_PutAt.f k t339 (rd t342 (ji8)) (Int.tmod (wrap64 ((wrap64 ((Int.tmod (rd t346 1) 16) + 1)) + (Int.tmod (rd t346 2) 15))) 16) 6).bind fun bt368=>((impl_PutAt.f k bt368.1 bt368.2 (Int.tmod (rd t346 1) 16) 5).bind fun bt373=>((impl_AllAt.f k t353 t356).bind fun t378=>((impl_AllAt.f k t358 t361).bind fun t381=>((laws_sameInts.f k t378 t381).bind fun t384=>(if t384 = true then ((impl_AllAt.f k t363 t366).bind fun t385=>((impl_AllAt.f k bt373.1 bt373.2).bind fun t388=>((laws_sameInts.f k t385 t388).bind fun t391=>(if t391 = true then ((impl_GetAt.f k t363 t366 (Int.tmod (rd t346 1) 16)).bind fun t392=>(if t392 = 5 then ((impl_GetAt.f k t363 t366 (Int.tmod (wrap64 ((wrap64 ((Int.tmod (rd t346 1) 16) + 1)) + (Int.tmod (rd t346 2) 15))) 16)).bind fun t393=>(if t393 = 6 then ((impl_GetAt.f k bt373.1 bt373.2 99).bind fun t394=>(some (t394 == 0))) else (some false))) else (some false))) else (some false))))) else (some false))))))) = some r:=H;have A15:=Aside0.mk A150;clear A150;replace H:=Option.bind_eq_some_iff.mp H;obtain ⟨⟨t368,t371⟩,A160,H⟩:=H;replace H : ((impl_PutAt.f k t368 t371 (Int.tmod (rd t346 1) 16) 5).bind fun bt373=>((impl_AllAt.f k t353 t356).bind fun t378=>((impl_AllAt.f k t358 t361).bind fun t381=>((laws_sameInts.f k t378 t381).bind fun t384=>(if t384 = true then ((impl_AllAt.f k t363 t366).bind fun t385=>((impl_AllAt.f k bt373.1 bt373.2).bind fun t388=>((laws_sameInts.f k t385 t388).bind fun t391=>(if t391 = true then ((impl_GetAt.f k t363 t366 (Int.tmod (rd t346 1) 16)).bind fun t392=>(if t392 = 5 then ((impl_GetAt.f k t363 t366 (Int.tmod (wrap64 ((wrap64 ((Int.tmod (rd t346 1) 16) + 1)) + (Int.tmod (rd t346 2) 15))) 16)).bind fun t393=>(if t393 = 6 then ((impl_GetAt.f k bt373.1 bt373.2 99).bind fun t394=>(some (t394 == 0))) else (some false))) else (some false))) else (some false))))) else (some false)))))) = some r:=H;have A16:=Aside0.mk A160;clear A160;replace H:=Option.bind_eq_some_iff.mp H;obtain ⟨⟨t373,t376⟩,A170,H⟩:=H;replace H : ((impl_AllAt.f k t353 t356).bind fun t378=>((impl_AllAt.f k t358 t361).bind fun t381=>((laws_sameInts.f k t378 t381).bind fun t384=>(if t384 = true then ((impl_AllAt.f k t363 t366).bind fun t385=>((impl_AllAt.f k t373 t376).bind fun t388=>((laws_sameInts.f k t385 t388).bind fun t391=>(if t391 = true then ((impl_GetAt.f k t363 t366 (Int.tmod (rd t346 1) 16)).bind fun t392=>(if t392 = 5 then ((impl_GetAt.f k t363 t366 (Int.tmod (wrap64 ((wrap64 ((Int.tmod (rd t346 1) 16) + 1)) + (Int.tmod (rd t346 2) 15))) 16)).bind fun t393=>(if t393 = 6 then ((impl_GetAt.f k t373 t376 99).bind fun t394=>(some (t394 == 0))) else (some false))) else (some false))) else (some false))))) else (some false))))) = some r:=H;have A17:=Aside0.mk A170;clear A170;replace H:=Option.bind_eq_some_iff.mp H;obtain ⟨t378,A180,H⟩:=H;replace H : ((impl_AllAt.f k t358 t361).bind fun t381=>((laws_sameInts.f k t378 t381).bind fun t384=>(if t384 = true then ((impl_AllAt.f k t363 t366).bind fun t385=>((impl_AllAt.f k t373 t376).bind fun t388=>((laws_sameInts.f k t385 t388).bind fun t391=>(if t391 = true then ((impl_GetAt.f k t363 t366 (Int.tmod (rd t346 1) 16)).bind fun t392=>(if t392 = 5 then ((impl_GetAt.f k t363 t366 (Int.tmod (wrap64 ((wrap64 ((Int.tmod (rd t346 1) 16) + 1)) + (Int.tmod (rd t346 2) 15))) 16)).bind fun t393=>(if t393 = 6 then ((impl_GetAt.f k t373 t376 99).bind fun t394=>(some (t394 == 0))) else (some false))) else (some false))) else (some false))))) else (some false)))) = some r:=H;have A18:=Aside0.mk A180;clear A180;replace H:=Option.bind_eq_some_iff.mp H;obtain ⟨t381,A190,H⟩:=H;replace H : ((laws_sameInts.f k t378 t381).bind fun t384=>(if t384 = true then ((impl_AllAt.f k t363 t366).bind fun t385=>((impl_AllAt.f k t373 t376).bind fun t388=>((laws_sameInts.f k t385 t388).bind fun t391=>(if t391 = true then ((impl_GetAt.f k t363 t366 (Int.tmod (rd t346 1) 16)).bind fun t392=>(if t392 = 5 then ((impl_GetAt.f k t363 t366 (Int.tmod (wrap64 ((wrap64 ((Int.tmod (rd t346 1) 16) + 1)) + (Int.tmod (rd t346 2) 15))) 16)).bind fun t393=>(if t393 = 6 then ((impl_GetAt.f k t373 t376 99).bind fun t394=>(some (t394 == 0))) else (some false))) else (some false))) else (some false))))) else (some false))) = some r:=H;have A19:=Aside0.mk A190;clear A190;replace H:=Option.bind_eq_some_iff.mp H;obtain ⟨t384,A200,H⟩:=H;replace H : (if t384 = true then ((impl_AllAt.f k t363 t366).bind fun t385=>((impl_AllAt.f k t373 t376).bind fun t388=>((laws_sameInts.f k t385 t388).bind fun t391=>(if t391 = true then ((impl_GetAt.f k t363 t366 (Int.tmod (rd t346 1) 16)).bind fun t392=>(if t392 = 5 then ((impl_GetAt.f k t363 t366 (Int.tmod (wrap64 ((wrap64 ((Int.tmod (rd t346 1) 16) + 1)) + (Int.tmod (rd t346 2) 15))) 16)).bind fun t393=>(if t393 = 6 then ((impl_GetAt.f k t373 t376 99).bind fun t394=>(some (t394 == 0))) else (some false))) else (some false))) else (some false))))) else (some false)) = some r:=H;have A20:=Aside0.mk A200;clear A200
      by_cases c21 : t384 = true
      ·subst c21;have H1 : ((impl_AllAt.f k t363 t366).bind fun t385=>((impl_AllAt.f k t373 t376).bind fun t388=>((laws_sameInts.f k t385 t388).bind fun t391=>(if t391 = true then ((impl_GetAt.f k t363 t366 (Int.tmod (rd t346 1) 16)).bind fun t392=>(if t392 = 5 then ((impl_GetAt.f k t363 t366 (Int.tmod (wrap64 ((wrap64 ((Int.tmod (rd t346 1) 16) + 1)) + (Int.tmod (rd t346 2) 15))) 16)).bind fun t393=>(if t393 = 6 then ((impl_GetAt.f k t373 t376 99).bind fun t394=>(some (t394 == 0))) else (some false))) else (some false))) else (some false))))) = some r:=by rw [if_pos rfl] at H;exact H
       clear H;have H:=H1;clear H1;replace H:=Option.bind_eq_some_iff.mp H;obtain ⟨t385,A220,H⟩:=H;replace H : ((impl_AllAt.f k t373 t376).bind fun t388=>((laws_sameInts.f k t385 t388).bind fun t391=>(if t391 = true then ((impl_GetAt.f k t363 t366 (Int.tmod (rd t346 1) 16)).bind fun t392=>(if t392 = 5 then ((impl_GetAt.f k t363 t366 (Int.tmod (wrap64 ((wrap64 ((Int.tmod (rd t346 1) 16) + 1)) + (Int.tmod (rd t346 2) 15))) 16)).bind fun t393=>(if t393 = 6 then ((impl_GetAt.f k t373 t376 99).bind fun t394=>(some (t394 == 0))) else (some false))) else (some false))) else (some false)))) = some r:=H;have A22:=Aside0.mk A220;clear A220;replace H:=Option.bind_eq_some_iff.mp H;obtain ⟨t388,A230,H⟩:=H;replace H : ((laws_sameInts.f k t385 t388).bind fun t391=>(if t391 = true then ((impl_GetAt.f k t363 t366 (Int.tmod (rd t346 1) 16)).bind fun t392=>(if t392 = 5 then ((impl_GetAt.f k t363 t366 (Int.tmod (wrap64 ((wrap64 ((Int.tmod (rd t346 1) 16) + 1)) + (Int.tmod (rd t346 2) 15))) 16)).bind fun t393=>(if t393 = 6 then ((impl_GetAt.f k t373 t376 99).bind fun t394=>(some (t394 == 0))) else (some false))) else (some false))) else (some false))) = some r:=H;have A23:=Aside0.mk A230;clear A230;replace H:=Option.bind_eq_some_iff.mp H;obtain ⟨t391,A240,H⟩:=H;replace H : (if t391 = true then ((impl_GetAt.f k t363 t366 (Int.tmod (rd t346 1) 16)).bind fun t392=>(if t392 = 5 then ((impl_GetAt.f k t363 t366 (Int.tmod (wrap64 ((wrap64 ((Int.tmod (rd t346 1) 16) + 1)) + (Int.tmod (rd t346 2) 15))) 16)).bind fun t393=>(if t393 = 6 then ((impl_GetAt.f k t373 t376 99).bind fun t394=>(some (t394 == 0))) else (some false))) else (some false))) else (some false)) = some r:=H;have A24:=Aside0.mk A240;clear A240
       by_cases c25 : t391 = true
       ·subst c25;have H1 : ((impl_GetAt.f k t363 t366 (Int.tmod (rd t346 1) 16)).bind fun t392=>(if t392 = 5 then ((impl_GetAt.f k t363 t366 (Int.tmod (wrap64 ((wrap64 ((Int.tmod (rd t346 1) 16) + 1)) + (Int.tmod (rd t346 2) 15))) 16)).bind fun t393=>(if t393 = 6 then ((impl_GetAt.f k t373 t376 99).bind fun t394=>(some (t394 == 0))) else (some false))) else (some false))) = some r:=by rw [if_pos rfl] at H;exact H
        clear H;have H:=H1;clear H1;replace H:=Option.bind_eq_some_iff.mp H;obtain ⟨t392,A260,H⟩:=H;replace H : (if t392 = 5 then ((impl_GetAt.f k t363 t366 (Int.tmod (wrap64 ((wrap64 ((Int.tmod (rd t346 1) 16) + 1)) + (Int.tmod (rd t346 2) 15))) 16)).bind fun t393=>(if t393 = 6 then ((impl_GetAt.f k t373 t376 99).bind fun t394=>(some (t394 == 0))) else (some false))) else (some false)) = some r:=H;have A26:=Aside0.mk A260;clear A260
        by_cases c27 : t392 = 5
        ·rw [if_pos c27] at H;have c27b0 : (t392 == 5) = true:=beq_iff_eq.mpr c27;have c27b1 : (t392 != 5) = false:=bne_eq_false_iff_eq.mpr c27;clear c27;replace H:=Option.bind_eq_some_iff.mp H;obtain ⟨t393,A280,H⟩:=H;replace H : (if t393 = 6 then ((impl_GetAt.f k t373 t376 99).bind fun t394=>(some (t394 == 0))) else (some false)) = some r:=H;have A28:=Aside0.mk A280;clear A280
         by_cases c29 : t393 = 6
         ·rw [if_pos c29] at H;have c29b0 : (t393 == 6) = true:=beq_iff_eq.mpr c29;have c29b1 : (t393 != 6) = false:=bne_eq_false_iff_eq.mpr c29;clear c29;replace H:=Option.bind_eq_some_iff.mp H;obtain ⟨t394,A300,H⟩:=H;replace H : (some (t394 == 0)) = some r:=H;have A30:=Aside0.mk A300;clear A300;obtain rfl:=Option.some.inj H
          go_enter Try.func4,Try.ntmps4
          try go_wp2_with (first | ((with_reducible refine gate_callee (f:=6) rfl ?_);refine goesL_ (some 20) rfl rfl Try.func6 (by kernel_rfl) rfl #[.slice A0 l0.length c0] rfl (by (try simp only [List.map_toArray,List.map_cons,List.map_nil]);first | done | rfl | (simp only [List.length_drop,List.length_take];rfl)) ?_;(with_reducible refine (laws_big.calls _ _ l0 false _ ?side1 ?side2 A2.out).mono ?_);(case side1=>repeat (first | exact HR0.out | (with_reducible refine Kd.C_alloc ?_ _) | (with_reducible refine Kd.C_drewN ?_ _) | (with_reducible refine Kd.C_drew ?_)));(case side2=>exact HC0.out);rintro e w' ⟨rfl,⟨nd,rfl⟩⟩;refine ⟨_,rfl,?_⟩) | ((with_reducible refine gate_callee (f:=7) rfl ?_);refine goesL_ (some 23) rfl rfl Try.func7 (by kernel_rfl) rfl #[.slice A0 l0.length c0] rfl (by (try simp only [List.map_toArray,List.map_cons,List.map_nil]);first | done | rfl | (simp only [List.length_drop,List.length_take];rfl)) ?_;(with_reducible refine (spec_DrawForest.calls k _ _ l0 t339 t342 _ ?side1 ?side2 A4.out).mono ?_);(case side1=>repeat (first | exact HR0.out | (with_reducible refine Kd.C_alloc ?_ _) | (with_reducible refine Kd.C_drewN ?_ _) | (with_reducible refine Kd.C_drew ?_)));(case side2=>exact HC0.out);rintro e w31 ⟨v340,v343,rfl,ho0,ho1,hb⟩;refine ⟨_,rfl,?_⟩;have n0_:=Aside0.mk (Kd.S_lower ho0 (below_size (hs HB)));have n1_:=Aside0.mk (Kd.R_lower ho1 (below_size (hs HB)));have n2_:=Aside0.mk (below_step (hs HB) hb);clear HB;have HO341:=n0_;have HO344:=n1_;have HB:=n2_;clear n0_ n1_ n2_;(try clear hb);(try clear hb2);(try clear hk);(try clear hi);(try clear ho0);(try clear ho1)) | ((with_reducible refine gate_dst (N:=3) rfl ?_);refine box_event ?hg (N:=3) ?hd (cs:=#[.slice none 0 0]) (t:=26) ?hr ?_;(case hd=>rfl);(case hg=>rfl);(case hr=>first | (go_simp;done) | (go_simp;rfl));intro gb345 hg w32 hbox hb;have n0_:=Aside0.mk (Kd.S_below (ss HO341) hb);have n1_:=Aside0.mk (Kd.R_below (rs HO344) hb);have n2_:=Aside0.mk (below_step (hs HB) hb);have n3_:=Aside0.mk (hbox);have n4_:=Aside0.mk ((by rw [hg];exact (below_size (hs HB)) : w.heap.size ≤ gb345));have n5_:=Aside0.mk ((by rw [hg];exact (below_size (hs HB)) : w.heap.size ≤ gb345));clear HO341;clear HO344;clear HB;have HO341:=n0_;have HO344:=n1_;have HB:=n2_;have BK345:=n3_;have GW345:=n4_;have GE345:=n5_;clear n0_ n1_ n2_ n3_ n4_ n5_;clear hb hbox hg;obtain ⟨Ao33,co33,eo33⟩:=Kd.S_slice HO341.out;subst eo33;have hcz34_0 : w32.cell? ⟨gb345,0,none⟩ = some (.slice none 0 0):=(blk_cell BK345.out 0).trans rfl;have hfz34_0:=blk_frozen BK345.out 0) | ((with_reducible refine gate_callee (f:=8) rfl ?_);refine goesL_ (some 27) rfl rfl Try.func8 (by kernel_rfl) rfl #[.slice A0 l0.length c0] rfl (by (try simp only [List.map_toArray,List.map_cons,List.map_nil]);first | done | rfl | (simp only [List.length_drop,List.length_take];rfl)) ?_;(with_reducible refine (spec_DrawPlaces.calls k _ _ l0 t346 _ ?side1 ?side2 A5.out).mono ?_);(case side1=>exact Kd.C_below HR0.out (hs1 HB GE345));(case side2=>exact HC0.out);rintro e w35 ⟨v347,rfl,ho0,hb⟩;refine ⟨_,rfl,?_⟩;have n0_:=Aside0.mk (Kd.S_elder' (by (with_reducible repeat (first | apply Kd.S_alloc | apply Kd.S_drewN | apply Kd.S_drew));exact (Kd.S_mono (Kd.S_far (p:=⟨gb345,0,none⟩) (Kd.S_types HO341.out BK345.out (by decide)) (fun _ hk=>hk.2) (.slice Ao33 t339.length co33)) (fun _ h_=>h_.1))) (Kd.R_base ho0) hb);have n1_:=Aside0.mk (Kd.R_elder' (by (with_reducible repeat (first | apply Kd.R_alloc | apply Kd.R_drewN | apply Kd.R_drew));exact (Kd.R_mono (Kd.R_far (p:=⟨gb345,0,none⟩) (Kd.R_types HO344.out BK345.out (by decide)) (fun _ hk=>hk.2) (.slice Ao33 t339.length co33)) (fun _ h_=>h_.1))) (Kd.R_base ho0) hb);have n2_:=Aside0.mk (Kd.R_lower (Kd.R_new' ho0 (Kd.R_lt (by (with_reducible repeat (first | apply Kd.R_alloc | apply Kd.R_drewN | apply Kd.R_drew));exact (Kd.R_mono (Kd.R_far (p:=⟨gb345,0,none⟩) (Kd.R_types HO344.out BK345.out (by decide)) (fun _ hk=>hk.2) (.slice Ao33 t339.length co33)) (fun _ h_=>h_.1))))) (below_size (hs1 HB GE345)));have n3_:=Aside0.mk (blk_below (g:=gb345) (o:=.cells #[.slice Ao33 t339.length co33] 26 (0,0)) (by (with_reducible repeat (first | refine blk_drewN ?_ _ | refine blk_drew ?_ | refine blk_alloc ?_ _));refine blk_put (cs:=#[.slice none 0 0]) ?_ 0 _ rfl;(with_reducible repeat (first | refine blk_drewN ?_ _ | refine blk_drew ?_ | refine blk_alloc ?_ _));exact BK345.out) hb);have n4_:=Aside0.mk (below_step (hs1 HB GE345) hb);clear HO341;clear HO344;clear BK345;clear HB;have HO341:=n0_;have HO344:=n1_;have HO348:=n2_;have BK345:=n3_;have HB:=n4_;clear n0_ n1_ n2_ n3_ n4_;(try clear hb);(try clear hb2);(try clear hk);(try clear hi);(try clear ho0);obtain ⟨Ao36,co36,eo36⟩:=Kd.R_slice HO348.out;subst eo36;have p349 : 0 ≤ (0 : Int):=(by omega);have q349 : 0 < (t346.length : Int):=of_decide_eq_true (by first | (with_reducible assumption) | assumption);obtain ⟨ad349,e349,hx349_0⟩:=Kd.at_int (Kd.R_reads' HO348.out).2.2 0 p349 q349;cases e349;have qi349 : (0 < t346.length) = True:=eq_true (by omega);(try rw [show ((0 : Int)).toNat = 0 from rfl] at hx349_0);(try rw [Addr.add_zero'] at hx349_0);replace p349:=eq_true p349;replace q349:=eq_true q349;obtain ⟨Ao37,co37,eo37⟩:=Kd.R_slice HO344.out;subst eo37;have p350 : 0 ≤ ((ji8) : Int):=of_decide_eq_true (by first | (with_reducible assumption) | assumption);have q350 : (ji8) < (t342.length : Int):=of_decide_eq_true (by first | (with_reducible assumption) | assumption);obtain ⟨ad350,e350,hx350_0⟩:=Kd.at_int (Kd.R_reads' HO344.out).2.2 (ji8) p350 q350;cases e350;replace p350:=eq_true p350;replace q350:=eq_true q350;have p351 : 0 ≤ (1 : Int):=(by omega);have q351 : 1 < (t346.length : Int):=of_decide_eq_true (by first | (with_reducible assumption) | assumption);obtain ⟨ad351,e351,hx351_0⟩:=Kd.at_int (Kd.R_reads' HO348.out).2.2 1 p351 q351;obtain rfl : ad349 = ad351:=(by injection e351);(try simp only [show (1 : Int).toNat = 1 from rfl,Nat.reduceMul,Nat.reduceEqDiff,Go.Addr.add,↓reduceIte] at hx351_0);have qi351 : (1 < t346.length) = True:=eq_true (by omega);(try rw [show ((1 : Int)).toNat = 1 from rfl] at hx351_0);replace p351:=eq_true p351;replace q351:=eq_true q351;have p352 : 0 ≤ (2 : Int):=(by omega);have q352 : 2 < (t346.length : Int):=of_decide_eq_true (by first | (with_reducible assumption) | assumption);obtain ⟨ad352,e352,hx352_0⟩:=Kd.at_int (Kd.R_reads' HO348.out).2.2 2 p352 q352;obtain rfl : ad349 = ad352:=(by injection e352);(try simp only [show (2 : Int).toNat = 2 from rfl,Nat.reduceMul,Nat.reduceEqDiff,Go.Addr.add,↓reduceIte] at hx352_0);have qi352 : (2 < t346.length) = True:=eq_true (by omega);(try rw [show ((2 : Int)).toNat = 2 from rfl] at hx352_0);replace p352:=eq_true p352;replace q352:=eq_true q352;have hcz38_0 : w35.cell? ⟨gb345,0,none⟩ = some (.slice Ao33 t339.length co33):=(blk_cell BK345.out 0).trans rfl;have hfz38_0:=blk_frozen BK345.out 0) | ((with_reducible refine gate_callee (f:=9) rfl ?_);refine goesL_ (some 53) rfl rfl Try.func9 (by kernel_rfl) rfl #[.agg #[.slice Ao33 t339.length co33],.int .i64 (rd t342 (ji8)),.int .i64 (Int.tmod (rd t346 1) 16),.int .i64 5] rfl (by (try simp only [List.map_toArray,List.map_cons,List.map_nil]);first | done | (simp only [hji8];rfl) | rfl | (simp only [List.length_drop,List.length_take];rfl)) ?_;(with_reducible refine (impl_PutAt.calls k _ _ t339 (rd t342 (ji8)) (Int.tmod (rd t346 1) 16) 5 t353 t356 _ ?side1 ?side2 A13.out).mono ?_);(case side1=>repeat (first | exact (Kd.S_reads' HO341.out).2.2 | (with_reducible refine Kd.C_alloc ?_ _) | (with_reducible refine Kd.C_drewN ?_ _) | (with_reducible refine Kd.C_drew ?_)));(case side2=>exact (Kd.S_reads' HO341.out).2.1);rintro e w39 ⟨v354,rfl,ho0,hb⟩;refine ⟨_,rfl,?_⟩;have n0_:=Aside0.mk (Kd.S_elder' (ss HO341) (Kd.S_base ho0) hb);have n1_:=Aside0.mk (Kd.R_below (rs HO344) hb);have n2_:=Aside0.mk (Kd.R_below (rs HO348) hb);have n3_:=Aside0.mk (Kd.S_lower (Kd.S_new' (Kd.S_new' (Kd.S_new' ho0 (Kd.S_lt (ss HO341))) (Kd.R_lt (rs HO344))) (Kd.R_lt (rs HO348))) (below_size (hs1 HB GE345)));have n4_:=Aside0.mk (blk_below (g:=gb345) (o:=.cells #[.slice Ao33 t339.length co33] 26 (0,0)) (bs BK345) hb);have n5_:=Aside0.mk (below_step (hs1 HB GE345) hb);clear HO341;clear HO344;clear HO348;clear BK345;clear HB;have HO341:=n0_;have HO344:=n1_;have HO348:=n2_;have HO355:=n3_;have BK345:=n4_;have HB:=n5_;clear n0_ n1_ n2_ n3_ n4_ n5_;(try clear hb);(try clear hb2);(try clear hk);(try clear hi);(try clear ho0)) | ((with_reducible refine gate_dst (N:=9) rfl ?_);refine box_event ?hg (N:=9) ?hd (cs:=#[.slice none 0 0]) (t:=26) ?hr ?_;(case hd=>rfl);(case hg=>rfl);(case hr=>first | (go_simp;done) | (go_simp;rfl));intro gb357 hg w40 hbox hb;have n0_:=Aside0.mk (Kd.S_below (ss HO341) hb);have n1_:=Aside0.mk (Kd.R_below (rs HO344) hb);have n2_:=Aside0.mk (Kd.R_below (rs HO348) hb);have n3_:=Aside0.mk (Kd.S_below (ss HO355) hb);have n4_:=Aside0.mk (blk_below (g:=gb345) (o:=.cells #[.slice Ao33 t339.length co33] 26 (0,0)) (bs BK345) hb);have n5_:=Aside0.mk (below_step (hs1 HB GE345) hb);have n6_:=Aside0.mk (hbox);have n7_:=Aside0.mk ((by rw [hg];exact (below_size (hs1 HB GE345)) : w.heap.size ≤ gb357));have n8_:=Aside0.mk ((by rw [hg];exact (below_size (hs1 HB GE345)) : w.heap.size ≤ gb357));have n9_:=Aside0.mk ((by rw [hg];exact Nat.ne_of_lt (blk_lt (g:=gb345) (o:=.cells #[.slice Ao33 t339.length co33] 26 (0,0)) (bs BK345)) : gb345 ≠ gb357));have n10_:=Aside0.mk ((by rw [hg];exact Nat.ne_of_gt (blk_lt (g:=gb345) (o:=.cells #[.slice Ao33 t339.length co33] 26 (0,0)) (bs BK345)) : gb357 ≠ gb345));clear HO341;clear HO344;clear HO348;clear HO355;clear BK345;clear HB;have HO341:=n0_;have HO344:=n1_;have HO348:=n2_;have HO355:=n3_;have BK345:=n4_;have HB:=n5_;have BK357:=n6_;have GW357:=n7_;have GE357:=n8_;have NB345_357:=n9_;have NB357_345:=n10_;clear n0_ n1_ n2_ n3_ n4_ n5_ n6_ n7_ n8_ n9_ n10_;clear hb hbox hg;obtain ⟨Ao41,co41,eo41⟩:=Kd.S_slice HO355.out;subst eo41;have hnb42:=NB357_345.out;have hnc42:=NB345_357.out;have hcz43_0 : w40.cell? ⟨gb357,0,none⟩ = some (.slice none 0 0):=(blk_cell BK357.out 0).trans rfl;have hfz43_0:=blk_frozen BK357.out 0) | ((with_reducible refine gate_callee (f:=9) rfl ?_);refine goesL_ (some 60) rfl rfl Try.func9 (by kernel_rfl) rfl #[.agg #[.slice Ao41 t353.length co41],.int .i64 t356,.int .i64 (Int.tmod (rd t346 1) 16),.int .i64 5] rfl (by (try simp only [List.map_toArray,List.map_cons,List.map_nil]);first | done | rfl | (simp only [List.length_drop,List.length_take];rfl)) ?_;(with_reducible refine (impl_PutAt.calls k _ _ t353 t356 (Int.tmod (rd t346 1) 16) 5 t358 t361 _ ?side1 ?side2 A14.out).mono ?_);(case side1=>refine (Kd.S_reads' (e:=47) (base:=w.heap.size) (ok:=fun k_=>(((True ∧ some k_ ≠ (.slice Ao33 t339.length co33 : Value).ownBlock) ∧ some k_ ≠ (.slice (some ad350) t342.length co37 : Value).ownBlock) ∧ some k_ ≠ (.slice (some ad349) t346.length co36 : Value).ownBlock)) (n:=t353.length) (c:=co41) ?_).2.2;exact (by (with_reducible repeat (first | apply Kd.S_alloc | apply Kd.S_drewN | apply Kd.S_drew));exact (Kd.S_mono (Kd.S_far (p:=⟨gb357,0,none⟩) (Kd.S_types HO355.out BK357.out (by decide)) (fun _ hk=>hk.2) (.slice Ao41 t353.length co41)) (fun _ h_=>h_.1))));(case side2=>exact (Kd.S_reads' HO355.out).2.1);rintro e w44 ⟨v359,rfl,ho0,hb⟩;refine ⟨_,rfl,?_⟩;have n0_:=Aside0.mk (Kd.S_elder' (by (with_reducible repeat (first | apply Kd.S_alloc | apply Kd.S_drewN | apply Kd.S_drew));exact (Kd.S_mono (Kd.S_far (p:=⟨gb357,0,none⟩) (Kd.S_types HO341.out BK357.out (by decide)) (fun _ hk=>hk.2) (.slice Ao41 t353.length co41)) (fun _ h_=>h_.1))) (Kd.S_base ho0) hb);have n1_:=Aside0.mk (Kd.R_below (by (with_reducible repeat (first | apply Kd.R_alloc | apply Kd.R_drewN | apply Kd.R_drew));exact (Kd.R_mono (Kd.R_far (p:=⟨gb357,0,none⟩) (Kd.R_types HO344.out BK357.out (by decide)) (fun _ hk=>hk.2) (.slice Ao41 t353.length co41)) (fun _ h_=>h_.1))) hb);have n2_:=Aside0.mk (Kd.R_below (by (with_reducible repeat (first | apply Kd.R_alloc | apply Kd.R_drewN | apply Kd.R_drew));exact (Kd.R_mono (Kd.R_far (p:=⟨gb357,0,none⟩) (Kd.R_types HO348.out BK357.out (by decide)) (fun _ hk=>hk.2) (.slice Ao41 t353.length co41)) (fun _ h_=>h_.1))) hb);have n3_:=Aside0.mk (Kd.S_elder' (by (with_reducible repeat (first | apply Kd.S_alloc | apply Kd.S_drewN | apply Kd.S_drew));exact (Kd.S_mono (Kd.S_far (p:=⟨gb357,0,none⟩) (Kd.S_types HO355.out BK357.out (by decide)) (fun _ hk=>hk.2) (.slice Ao41 t353.length co41)) (fun _ h_=>h_.1))) (Kd.S_base ho0) hb);have n4_:=Aside0.mk (Kd.S_lower (Kd.S_new' (Kd.S_new' (Kd.S_new' (Kd.S_new' ho0 (Kd.S_lt (by (with_reducible repeat (first | apply Kd.S_alloc | apply Kd.S_drewN | apply Kd.S_drew));exact (Kd.S_mono (Kd.S_far (p:=⟨gb357,0,none⟩) (Kd.S_types HO341.out BK357.out (by decide)) (fun _ hk=>hk.2) (.slice Ao41 t353.length co41)) (fun _ h_=>h_.1))))) (Kd.R_lt (by (with_reducible repeat (first | apply Kd.R_alloc | apply Kd.R_drewN | apply Kd.R_drew));exact (Kd.R_mono (Kd.R_far (p:=⟨gb357,0,none⟩) (Kd.R_types HO344.out BK357.out (by decide)) (fun _ hk=>hk.2) (.slice Ao41 t353.length co41)) (fun _ h_=>h_.1))))) (Kd.R_lt (by (with_reducible repeat (first | apply Kd.R_alloc | apply Kd.R_drewN | apply Kd.R_drew));exact (Kd.R_mono (Kd.R_far (p:=⟨gb357,0,none⟩) (Kd.R_types HO348.out BK357.out (by decide)) (fun _ hk=>hk.2) (.slice Ao41 t353.length co41)) (fun _ h_=>h_.1))))) (Kd.S_lt (by (with_reducible repeat (first | apply Kd.S_alloc | apply Kd.S_drewN | apply Kd.S_drew));exact (Kd.S_mono (Kd.S_far (p:=⟨gb357,0,none⟩) (Kd.S_types HO355.out BK357.out (by decide)) (fun _ hk=>hk.2) (.slice Ao41 t353.length co41)) (fun _ h_=>h_.1))))) (below_size (hs2 HB GE345 GE357)));have n5_:=Aside0.mk (blk_below (g:=gb345) (o:=.cells #[.slice Ao33 t339.length co33] 26 (0,0)) (by (with_reducible repeat (first | refine blk_drewN ?_ _ | refine blk_drew ?_ | refine blk_alloc ?_ _));refine blk_far ?_ NB345_357.out _;(with_reducible repeat (first | refine blk_drewN ?_ _ | refine blk_drew ?_ | refine blk_alloc ?_ _));exact BK345.out) hb);have n6_:=Aside0.mk (blk_below (g:=gb357) (o:=.cells #[.slice Ao41 t353.length co41] 26 (0,0)) (by (with_reducible repeat (first | refine blk_drewN ?_ _ | refine blk_drew ?_ | refine blk_alloc ?_ _));refine blk_put (cs:=#[.slice none 0 0]) ?_ 0 _ rfl;(with_reducible repeat (first | refine blk_drewN ?_ _ | refine blk_drew ?_ | refine blk_alloc ?_ _));exact BK357.out) hb);have n7_:=Aside0.mk (below_step (hs2 HB GE345 GE357) hb);clear HO341;clear HO344;clear HO348;clear HO355;clear BK345;clear BK357;clear HB;have HO341:=n0_;have HO344:=n1_;have HO348:=n2_;have HO355:=n3_;have HO360:=n4_;have BK345:=n5_;have BK357:=n6_;have HB:=n7_;clear n0_ n1_ n2_ n3_ n4_ n5_ n6_ n7_;(try clear hb);(try clear hb2);(try clear hk);(try clear hi);(try clear ho0)) | ((with_reducible refine gate_dst (N:=11) rfl ?_);refine box_event ?hg (N:=11) ?hd (cs:=#[.slice none 0 0]) (t:=26) ?hr ?_;(case hd=>rfl);(case hg=>rfl);(case hr=>first | (go_simp;done) | (go_simp;rfl));intro gb362 hg w45 hbox hb;have n0_:=Aside0.mk (Kd.S_below (ss HO341) hb);have n1_:=Aside0.mk (Kd.R_below (rs HO344) hb);have n2_:=Aside0.mk (Kd.R_below (rs HO348) hb);have n3_:=Aside0.mk (Kd.S_below (ss HO355) hb);have n4_:=Aside0.mk (Kd.S_below (ss HO360) hb);have n5_:=Aside0.mk (blk_below (g:=gb345) (o:=.cells #[.slice Ao33 t339.length co33] 26 (0,0)) (bs BK345) hb);have n6_:=Aside0.mk (blk_below (g:=gb357) (o:=.cells #[.slice Ao41 t353.length co41] 26 (0,0)) (bs BK357) hb);have n7_:=Aside0.mk (below_step (hs2 HB GE345 GE357) hb);have n8_:=Aside0.mk (hbox);have n9_:=Aside0.mk ((by rw [hg];exact (below_size (hs2 HB GE345 GE357)) : w.heap.size ≤ gb362));have n10_:=Aside0.mk ((by rw [hg];exact (below_size (hs2 HB GE345 GE357)) : w.heap.size ≤ gb362));have n11_:=Aside0.mk ((by rw [hg];exact Nat.ne_of_lt (blk_lt (g:=gb345) (o:=.cells #[.slice Ao33 t339.length co33] 26 (0,0)) (bs BK345)) : gb345 ≠ gb362));have n12_:=Aside0.mk ((by rw [hg];exact Nat.ne_of_gt (blk_lt (g:=gb345) (o:=.cells #[.slice Ao33 t339.length co33] 26 (0,0)) (bs BK345)) : gb362 ≠ gb345));have n13_:=Aside0.mk ((by rw [hg];exact Nat.ne_of_lt (blk_lt (g:=gb357) (o:=.cells #[.slice Ao41 t353.length co41] 26 (0,0)) (bs BK357)) : gb357 ≠ gb362));have n14_:=Aside0.mk ((by rw [hg];exact Nat.ne_of_gt (blk_lt (g:=gb357) (o:=.cells #[.slice Ao41 t353.length co41] 26 (0,0)) (bs BK357)) : gb362 ≠ gb357));clear HO341;clear HO344;clear HO348;clear HO355;clear HO360;clear BK345;clear BK357;clear HB;have HO341:=n0_;have HO344:=n1_;have HO348:=n2_;have HO355:=n3_;have HO360:=n4_;have BK345:=n5_;have BK357:=n6_;have HB:=n7_;have BK362:=n8_;have GW362:=n9_;have GE362:=n10_;have NB345_362:=n11_;have NB362_345:=n12_;have NB357_362:=n13_;have NB362_357:=n14_;clear n0_ n1_ n2_ n3_ n4_ n5_ n6_ n7_ n8_ n9_ n10_ n11_ n12_ n13_ n14_;clear hb hbox hg;obtain ⟨Ao46,co46,eo46⟩:=Kd.S_slice HO360.out;subst eo46;have hnb47:=NB362_345.out;have hnc47:=NB345_362.out;have hnb48:=NB362_357.out;have hnc48:=NB357_362.out;have hcz49_0 : w45.cell? ⟨gb362,0,none⟩ = some (.slice none 0 0):=(blk_cell BK362.out 0).trans rfl;have hfz49_0:=blk_frozen BK362.out 0;have hcz50_0 : w45.cell? ⟨gb357,0,none⟩ = some (.slice Ao41 t353.length co41):=(blk_cell BK357.out 0).trans rfl;have hfz50_0:=blk_frozen BK357.out 0) | ((with_reducible refine gate_callee (f:=9) rfl ?_);refine goesL_ (some 67) rfl rfl Try.func9 (by kernel_rfl) rfl #[.agg #[.slice Ao41 t353.length co41],.int .i64 t356,.int .i64 (Int.tmod (wrap64 ((wrap64 ((Int.tmod (rd t346 1) 16) + 1)) + (Int.tmod (rd t346 2) 15))) 16),.int .i64 6] rfl (by (try simp only [List.map_toArray,List.map_cons,List.map_nil]);first | done | rfl | (simp only [List.length_drop,List.length_take];rfl)) ?_;(with_reducible refine (impl_PutAt.calls k _ _ t353 t356 (Int.tmod (wrap64 ((wrap64 ((Int.tmod (rd t346 1) 16) + 1)) + (Int.tmod (rd t346 2) 15))) 16) 6 t363 t366 _ ?side1 ?side2 A15.out).mono ?_);(case side1=>refine (Kd.S_reads' (e:=47) (base:=w.heap.size) (ok:=fun k_=>((((True ∧ some k_ ≠ (.slice Ao33 t339.length co33 : Value).ownBlock) ∧ some k_ ≠ (.slice (some ad350) t342.length co37 : Value).ownBlock) ∧ some k_ ≠ (.slice (some ad349) t346.length co36 : Value).ownBlock) ∧ some k_ ≠ (.slice Ao46 t358.length co46 : Value).ownBlock)) (n:=t353.length) (c:=co41) ?_).2.2;exact (by (with_reducible repeat (first | apply Kd.S_alloc | apply Kd.S_drewN | apply Kd.S_drew));exact (Kd.S_mono (Kd.S_far (p:=⟨gb362,0,none⟩) (Kd.S_types HO355.out BK362.out (by decide)) (fun _ hk=>hk.2) (.slice Ao46 t358.length co46)) (fun _ h_=>h_.1))));(case side2=>exact (Kd.S_reads' HO355.out).2.1);rintro e w51 ⟨v364,rfl,ho0,hb⟩;refine ⟨_,rfl,?_⟩;have n0_:=Aside0.mk (Kd.S_elder' (by (with_reducible repeat (first | apply Kd.S_alloc | apply Kd.S_drewN | apply Kd.S_drew));exact (Kd.S_mono (Kd.S_far (p:=⟨gb362,0,none⟩) (Kd.S_types HO341.out BK362.out (by decide)) (fun _ hk=>hk.2) (.slice Ao46 t358.length co46)) (fun _ h_=>h_.1))) (Kd.S_base ho0) hb);have n1_:=Aside0.mk (Kd.R_below (by (with_reducible repeat (first | apply Kd.R_alloc | apply Kd.R_drewN | apply Kd.R_drew));exact (Kd.R_mono (Kd.R_far (p:=⟨gb362,0,none⟩) (Kd.R_types HO344.out BK362.out (by decide)) (fun _ hk=>hk.2) (.slice Ao46 t358.length co46)) (fun _ h_=>h_.1))) hb);have n2_:=Aside0.mk (Kd.R_below (by (with_reducible repeat (first | apply Kd.R_alloc | apply Kd.R_drewN | apply Kd.R_drew));exact (Kd.R_mono (Kd.R_far (p:=⟨gb362,0,none⟩) (Kd.R_types HO348.out BK362.out (by decide)) (fun _ hk=>hk.2) (.slice Ao46 t358.length co46)) (fun _ h_=>h_.1))) hb);have n3_:=Aside0.mk (Kd.S_elder' (by (with_reducible repeat (first | apply Kd.S_alloc | apply Kd.S_drewN | apply Kd.S_drew));exact (Kd.S_mono (Kd.S_far (p:=⟨gb362,0,none⟩) (Kd.S_types HO355.out BK362.out (by decide)) (fun _ hk=>hk.2) (.slice Ao46 t358.length co46)) (fun _ h_=>h_.1))) (Kd.S_base ho0) hb);have n4_:=Aside0.mk (Kd.S_elder' (by (with_reducible repeat (first | apply Kd.S_alloc | apply Kd.S_drewN | apply Kd.S_drew));exact (Kd.S_mono (Kd.S_far (p:=⟨gb362,0,none⟩) (Kd.S_types HO360.out BK362.out (by decide)) (fun _ hk=>hk.2) (.slice Ao46 t358.length co46)) (fun _ h_=>h_.1))) (Kd.S_base ho0) hb);have n5_:=Aside0.mk (Kd.S_lower (Kd.S_new' (Kd.S_new' (Kd.S_new' (Kd.S_new' (Kd.S_new' ho0 (Kd.S_lt (by (with_reducible repeat (first | apply Kd.S_alloc | apply Kd.S_drewN | apply Kd.S_drew));exact (Kd.S_mono (Kd.S_far (p:=⟨gb362,0,none⟩) (Kd.S_types HO341.out BK362.out (by decide)) (fun _ hk=>hk.2) (.slice Ao46 t358.length co46)) (fun _ h_=>h_.1))))) (Kd.R_lt (by (with_reducible repeat (first | apply Kd.R_alloc | apply Kd.R_drewN | apply Kd.R_drew));exact (Kd.R_mono (Kd.R_far (p:=⟨gb362,0,none⟩) (Kd.R_types HO344.out BK362.out (by decide)) (fun _ hk=>hk.2) (.slice Ao46 t358.length co46)) (fun _ h_=>h_.1))))) (Kd.R_lt (by (with_reducible repeat (first | apply Kd.R_alloc | apply Kd.R_drewN | apply Kd.R_drew));exact (Kd.R_mono (Kd.R_far (p:=⟨gb362,0,none⟩) (Kd.R_types HO348.out BK362.out (by decide)) (fun _ hk=>hk.2) (.slice Ao46 t358.length co46)) (fun _ h_=>h_.1))))) (Kd.S_lt (by (with_reducible repeat (first | apply Kd.S_alloc | apply Kd.S_drewN | apply Kd.S_drew));exact (Kd.S_mono (Kd.S_far (p:=⟨gb362,0,none⟩) (Kd.S_types HO355.out BK362.out (by decide)) (fun _ hk=>hk.2) (.slice Ao46 t358.length co46)) (fun _ h_=>h_.1))))) (Kd.S_lt (by (with_reducible repeat (first | apply Kd.S_alloc | apply Kd.S_drewN | apply Kd.S_drew));exact (Kd.S_mono (Kd.S_far (p:=⟨gb362,0,none⟩) (Kd.S_types HO360.out BK362.out (by decide)) (fun _ hk=>hk.2) (.slice Ao46 t358.length co46)) (fun _ h_=>h_.1))))) (below_size (hs3 HB GE345 GE357 GE362)));have n6_:=Aside0.mk (blk_below (g:=gb345) (o:=.cells #[.slice Ao33 t339.length co33] 26 (0,0)) (by (with_reducible repeat (first | refine blk_drewN ?_ _ | refine blk_drew ?_ | refine blk_alloc ?_ _));refine blk_far ?_ NB345_362.out _;(with_reducible repeat (first | refine blk_drewN ?_ _ | refine blk_drew ?_ | refine blk_alloc ?_ _));exact BK345.out) hb);have n7_:=Aside0.mk (blk_below (g:=gb357) (o:=.cells #[.slice Ao41 t353.length co41] 26 (0,0)) (by (with_reducible repeat (first | refine blk_drewN ?_ _ | refine blk_drew ?_ | refine blk_alloc ?_ _));refine blk_far ?_ NB357_362.out _;(with_reducible repeat (first | refine blk_drewN ?_ _ | refine blk_drew ?_ | refine blk_alloc ?_ _));exact BK357.out) hb);have n8_:=Aside0.mk (blk_below (g:=gb362) (o:=.cells #[.slice Ao46 t358.length co46] 26 (0,0)) (by (with_reducible repeat (first | refine blk_drewN ?_ _ | refine blk_drew ?_ | refine blk_alloc ?_ _));refine blk_put (cs:=#[.slice none 0 0]) ?_ 0 _ rfl;(with_reducible repeat (first | refine blk_drewN ?_ _ | refine blk_drew ?_ | refine blk_alloc ?_ _));exact BK362.out) hb);have n9_:=Aside0.mk (below_step (hs3 HB GE345 GE357 GE362) hb);clear HO341;clear HO344;clear HO348;clear HO355;clear HO360;clear BK345;clear BK357;clear BK362;clear HB;have HO341:=n0_;have HO344:=n1_;have HO348:=n2_;have HO355:=n3_;have HO360:=n4_;have HO365:=n5_;have BK345:=n6_;have BK357:=n7_;have BK362:=n8_;have HB:=n9_;clear n0_ n1_ n2_ n3_ n4_ n5_ n6_ n7_ n8_ n9_;(try clear hb);(try clear hb2);(try clear hk);(try clear hi);(try clear ho0)) | ((with_reducible refine gate_dst (N:=13) rfl ?_);refine box_event ?hg (N:=13) ?hd (cs:=#[.slice none 0 0]) (t:=26) ?hr ?_;(case hd=>rfl);(case hg=>rfl);(case hr=>first | (go_simp;done) | (go_simp;rfl));intro gb367 hg w52 hbox hb;have n0_:=Aside0.mk (Kd.S_below (ss HO341) hb);have n1_:=Aside0.mk (Kd.R_below (rs HO344) hb);have n2_:=Aside0.mk (Kd.R_below (rs HO348) hb);have n3_:=Aside0.mk (Kd.S_below (ss HO355) hb);have n4_:=Aside0.mk (Kd.S_below (ss HO360) hb);have n5_:=Aside0.mk (Kd.S_below (ss HO365) hb);have n6_:=Aside0.mk (blk_below (g:=gb345) (o:=.cells #[.slice Ao33 t339.length co33] 26 (0,0)) (bs BK345) hb);have n7_:=Aside0.mk (blk_below (g:=gb357) (o:=.cells #[.slice Ao41 t353.length co41] 26 (0,0)) (bs BK357) hb);have n8_:=Aside0.mk (blk_below (g:=gb362) (o:=.cells #[.slice Ao46 t358.length co46] 26 (0,0)) (bs BK362) hb);have n9_:=Aside0.mk (below_step (hs3 HB GE345 GE357 GE362) hb);have n10_:=Aside0.mk (hbox);have n11_:=Aside0.mk ((by rw [hg];exact (below_size (hs3 HB GE345 GE357 GE362)) : w.heap.size ≤ gb367));have n12_:=Aside0.mk ((by rw [hg];exact (below_size (hs3 HB GE345 GE357 GE362)) : w.heap.size ≤ gb367));have n13_:=Aside0.mk ((by rw [hg];exact Nat.ne_of_lt (blk_lt (g:=gb345) (o:=.cells #[.slice Ao33 t339.length co33] 26 (0,0)) (bs BK345)) : gb345 ≠ gb367));have n14_:=Aside0.mk ((by rw [hg];exact Nat.ne_of_gt (blk_lt (g:=gb345) (o:=.cells #[.slice Ao33 t339.length co33] 26 (0,0)) (bs BK345)) : gb367 ≠ gb345));have n15_:=Aside0.mk ((by rw [hg];exact Nat.ne_of_lt (blk_lt (g:=gb357) (o:=.cells #[.slice Ao41 t353.length co41] 26 (0,0)) (bs BK357)) : gb357 ≠ gb367));have n16_:=Aside0.mk ((by rw [hg];exact Nat.ne_of_gt (blk_lt (g:=gb357) (o:=.cells #[.slice Ao41 t353.length co41] 26 (0,0)) (bs BK357)) : gb367 ≠ gb357));have n17_:=Aside0.mk ((by rw [hg];exact Nat.ne_of_lt (blk_lt (g:=gb362) (o:=.cells #[.slice Ao46 t358.length co46] 26 (0,0)) (bs BK362)) : gb362 ≠ gb367));have n18_:=Aside0.mk ((by rw [hg];exact Nat.ne_of_gt (blk_lt (g:=gb362) (o:=.cells #[.slice Ao46 t358.length co46] 26 (0,0)) (bs BK362)) : gb367 ≠ gb362));clear HO341;clear HO344;clear HO348;clear HO355;clear HO360;clear HO365;clear BK345;clear BK357;clear BK362;clear HB;have HO341:=n0_;have HO344:=n1_;have HO348:=n2_;have HO355:=n3_;have HO360:=n4_;have HO365:=n5_;have BK345:=n6_;have BK357:=n7_;have BK362:=n8_;have HB:=n9_;have BK367:=n10_;have GW367:=n11_;have GE367:=n12_;have NB345_367:=n13_;have NB367_345:=n14_;have NB357_367:=n15_;have NB367_357:=n16_;have NB362_367:=n17_;have NB367_362:=n18_;clear n0_ n1_ n2_ n3_ n4_ n5_ n6_ n7_ n8_ n9_ n10_ n11_ n12_ n13_ n14_ n15_ n16_ n17_ n18_;clear hb hbox hg;obtain ⟨Ao53,co53,eo53⟩:=Kd.S_slice HO365.out;subst eo53;have hnb54:=NB367_345.out;have hnc54:=NB345_367.out;have hnb55:=NB367_357.out;have hnc55:=NB357_367.out;have hnb56:=NB367_362.out;have hnc56:=NB362_367.out;have hcz57_0 : w52.cell? ⟨gb367,0,none⟩ = some (.slice none 0 0):=(blk_cell BK367.out 0).trans rfl;have hfz57_0:=blk_frozen BK367.out 0;have hcz58_0 : w52.cell? ⟨gb345,0,none⟩ = some (.slice Ao33 t339.length co33):=(blk_cell BK345.out 0).trans rfl;have hfz58_0:=blk_frozen BK345.out 0) | ((with_reducible refine gate_callee (f:=9) rfl ?_);refine goesL_ (some 74) rfl rfl Try.func9 (by kernel_rfl) rfl #[.agg #[.slice Ao33 t339.length co33],.int .i64 (rd t342 (ji8)),.int .i64 (Int.tmod (wrap64 ((wrap64 ((Int.tmod (rd t346 1) 16) + 1)) + (Int.tmod (rd t346 2) 15))) 16),.int .i64 6] rfl (by (try simp only [List.map_toArray,List.map_cons,List.map_nil]);first | done | (simp only [hji8];rfl) | rfl | (simp only [List.length_drop,List.length_take];rfl)) ?_;(with_reducible refine (impl_PutAt.calls k _ _ t339 (rd t342 (ji8)) (Int.tmod (wrap64 ((wrap64 ((Int.tmod (rd t346 1) 16) + 1)) + (Int.tmod (rd t346 2) 15))) 16) 6 t368 t371 _ ?side1 ?side2 A16.out).mono ?_);(case side1=>refine (Kd.S_reads' (e:=47) (base:=w.heap.size) (ok:=fun k_=>((((some k_ ≠ (.slice (some ad350) t342.length co37 : Value).ownBlock ∧ some k_ ≠ (.slice (some ad349) t346.length co36 : Value).ownBlock) ∧ some k_ ≠ (.slice Ao41 t353.length co41 : Value).ownBlock) ∧ some k_ ≠ (.slice Ao46 t358.length co46 : Value).ownBlock) ∧ some k_ ≠ (.slice Ao53 t363.length co53 : Value).ownBlock)) (n:=t339.length) (c:=co33) ?_).2.2;exact (by (with_reducible repeat (first | apply Kd.S_alloc | apply Kd.S_drewN | apply Kd.S_drew));exact (Kd.S_mono (Kd.S_far (p:=⟨gb367,0,none⟩) (Kd.S_types HO341.out BK367.out (by decide)) (fun _ hk=>hk.2) (.slice Ao53 t363.length co53)) (fun _ h_=>h_.1))));(case side2=>exact (Kd.S_reads' HO341.out).2.1);rintro e w59 ⟨v369,rfl,ho0,hb⟩;refine ⟨_,rfl,?_⟩;have n0_:=Aside0.mk (Kd.S_elder' (by (with_reducible repeat (first | apply Kd.S_alloc | apply Kd.S_drewN | apply Kd.S_drew));exact (Kd.S_mono (Kd.S_far (p:=⟨gb367,0,none⟩) (Kd.S_types HO341.out BK367.out (by decide)) (fun _ hk=>hk.2) (.slice Ao53 t363.length co53)) (fun _ h_=>h_.1))) (Kd.S_base ho0) hb);have n1_:=Aside0.mk (Kd.R_below (by (with_reducible repeat (first | apply Kd.R_alloc | apply Kd.R_drewN | apply Kd.R_drew));exact (Kd.R_mono (Kd.R_far (p:=⟨gb367,0,none⟩) (Kd.R_types HO344.out BK367.out (by decide)) (fun _ hk=>hk.2) (.slice Ao53 t363.length co53)) (fun _ h_=>h_.1))) hb);have n2_:=Aside0.mk (Kd.R_below (by (with_reducible repeat (first | apply Kd.R_alloc | apply Kd.R_drewN | apply Kd.R_drew));exact (Kd.R_mono (Kd.R_far (p:=⟨gb367,0,none⟩) (Kd.R_types HO348.out BK367.out (by decide)) (fun _ hk=>hk.2) (.slice Ao53 t363.length co53)) (fun _ h_=>h_.1))) hb);have n3_:=Aside0.mk (Kd.S_elder' (by (with_reducible repeat (first | apply Kd.S_alloc | apply Kd.S_drewN | apply Kd.S_drew));exact (Kd.S_mono (Kd.S_far (p:=⟨gb367,0,none⟩) (Kd.S_types HO355.out BK367.out (by decide)) (fun _ hk=>hk.2) (.slice Ao53 t363.length co53)) (fun _ h_=>h_.1))) (Kd.S_base ho0) hb);have n4_:=Aside0.mk (Kd.S_elder' (by (with_reducible repeat (first | apply Kd.S_alloc | apply Kd.S_drewN | apply Kd.S_drew));exact (Kd.S_mono (Kd.S_far (p:=⟨gb367,0,none⟩) (Kd.S_types HO360.out BK367.out (by decide)) (fun _ hk=>hk.2) (.slice Ao53 t363.length co53)) (fun _ h_=>h_.1))) (Kd.S_base ho0) hb);have n5_:=Aside0.mk (Kd.S_elder' (by (with_reducible repeat (first | apply Kd.S_alloc | apply Kd.S_drewN | apply Kd.S_drew));exact (Kd.S_mono (Kd.S_far (p:=⟨gb367,0,none⟩) (Kd.S_types HO365.out BK367.out (by decide)) (fun _ hk=>hk.2) (.slice Ao53 t363.length co53)) (fun _ h_=>h_.1))) (Kd.S_base ho0) hb);have n6_:=Aside0.mk (Kd.S_lower (Kd.S_new' (Kd.S_new' (Kd.S_new' (Kd.S_new' (Kd.S_new' (Kd.S_new' ho0 (Kd.S_lt (by (with_reducible repeat (first | apply Kd.S_alloc | apply Kd.S_drewN | apply Kd.S_drew));exact (Kd.S_mono (Kd.S_far (p:=⟨gb367,0,none⟩) (Kd.S_types HO341.out BK367.out (by decide)) (fun _ hk=>hk.2) (.slice Ao53 t363.length co53)) (fun _ h_=>h_.1))))) (Kd.R_lt (by (with_reducible repeat (first | apply Kd.R_alloc | apply Kd.R_drewN | apply Kd.R_drew));exact (Kd.R_mono (Kd.R_far (p:=⟨gb367,0,none⟩) (Kd.R_types HO344.out BK367.out (by decide)) (fun _ hk=>hk.2) (.slice Ao53 t363.length co53)) (fun _ h_=>h_.1))))) (Kd.R_lt (by (with_reducible repeat (first | apply Kd.R_alloc | apply Kd.R_drewN | apply Kd.R_drew));exact (Kd.R_mono (Kd.R_far (p:=⟨gb367,0,none⟩) (Kd.R_types HO348.out BK367.out (by decide)) (fun _ hk=>hk.2) (.slice Ao53 t363.length co53)) (fun _ h_=>h_.1))))) (Kd.S_lt (by (with_reducible repeat (first | apply Kd.S_alloc | apply Kd.S_drewN | apply Kd.S_drew));exact (Kd.S_mono (Kd.S_far (p:=⟨gb367,0,none⟩) (Kd.S_types HO355.out BK367.out (by decide)) (fun _ hk=>hk.2) (.slice Ao53 t363.length co53)) (fun _ h_=>h_.1))))) (Kd.S_lt (by (with_reducible repeat (first | apply Kd.S_alloc | apply Kd.S_drewN | apply Kd.S_drew));exact (Kd.S_mono (Kd.S_far (p:=⟨gb367,0,none⟩) (Kd.S_types HO360.out BK367.out (by decide)) (fun _ hk=>hk.2) (.slice Ao53 t363.length co53)) (fun _ h_=>h_.1))))) (Kd.S_lt (by (with_reducible repeat (first | apply Kd.S_alloc | apply Kd.S_drewN | apply Kd.S_drew));exact (Kd.S_mono (Kd.S_far (p:=⟨gb367,0,none⟩) (Kd.S_types HO365.out BK367.out (by decide)) (fun _ hk=>hk.2) (.slice Ao53 t363.length co53)) (fun _ h_=>h_.1))))) (below_size (hs4 HB GE345 GE357 GE362 GE367)));have n7_:=Aside0.mk (blk_below (g:=gb345) (o:=.cells #[.slice Ao33 t339.length co33] 26 (0,0)) (by (with_reducible repeat (first | refine blk_drewN ?_ _ | refine blk_drew ?_ | refine blk_alloc ?_ _));refine blk_far ?_ NB345_367.out _;(with_reducible repeat (first | refine blk_drewN ?_ _ | refine blk_drew ?_ | refine blk_alloc ?_ _));exact BK345.out) hb);have n8_:=Aside0.mk (blk_below (g:=gb357) (o:=.cells #[.slice Ao41 t353.length co41] 26 (0,0)) (by (with_reducible repeat (first | refine blk_drewN ?_ _ | refine blk_drew ?_ | refine blk_alloc ?_ _));refine blk_far ?_ NB357_367.out _;(with_reducible repeat (first | refine blk_drewN ?_ _ | refine blk_drew ?_ | refine blk_alloc ?_ _));exact BK357.out) hb);have n9_:=Aside0.mk (blk_below (g:=gb362) (o:=.cells #[.slice Ao46 t358.length co46] 26 (0,0)) (by (with_reducible repeat (first | refine blk_drewN ?_ _ | refine blk_drew ?_ | refine blk_alloc ?_ _));refine blk_far ?_ NB362_367.out _;(with_reducible repeat (first | refine blk_drewN ?_ _ | refine blk_drew ?_ | refine blk_alloc ?_ _));exact BK362.out) hb);have n10_:=Aside0.mk (blk_below (g:=gb367) (o:=.cells #[.slice Ao53 t363.length co53] 26 (0,0)) (by (with_reducible repeat (first | refine blk_drewN ?_ _ | refine blk_drew ?_ | refine blk_alloc ?_ _));refine blk_put (cs:=#[.slice none 0 0]) ?_ 0 _ rfl;(with_reducible repeat (first | refine blk_drewN ?_ _ | refine blk_drew ?_ | refine blk_alloc ?_ _));exact BK367.out) hb);have n11_:=Aside0.mk (below_step (hs4 HB GE345 GE357 GE362 GE367) hb);clear HO341;clear HO344;clear HO348;clear HO355;clear HO360;clear HO365;clear BK345;clear BK357;clear BK362;clear BK367;clear HB;have HO341:=n0_;have HO344:=n1_;have HO348:=n2_;have HO355:=n3_;have HO360:=n4_;have HO365:=n5_;have HO370:=n6_;have BK345:=n7_;have BK357:=n8_;have BK362:=n9_;have BK367:=n10_;have HB:=n11_;clear n0_ n1_ n2_ n3_ n4_ n5_ n6_ n7_ n8_ n9_ n10_ n11_;(try clear hb);(try clear hb2);(try clear hk);(try clear hi);(try clear ho0)) | ((with_reducible refine gate_dst (N:=15) rfl ?_);refine box_event ?hg (N:=15) ?hd (cs:=#[.slice none 0 0]) (t:=26) ?hr ?_;(case hd=>rfl);(case hg=>rfl);(case hr=>first | (go_simp;done) | (go_simp;rfl));intro gb372 hg w60 hbox hb;have n0_:=Aside0.mk (Kd.S_below (ss HO341) hb);have n1_:=Aside0.mk (Kd.R_below (rs HO344) hb);have n2_:=Aside0.mk (Kd.R_below (rs HO348) hb);have n3_:=Aside0.mk (Kd.S_below (ss HO355) hb);have n4_:=Aside0.mk (Kd.S_below (ss HO360) hb);have n5_:=Aside0.mk (Kd.S_below (ss HO365) hb);have n6_:=Aside0.mk (Kd.S_below (ss HO370) hb);have n7_:=Aside0.mk (blk_below (g:=gb345) (o:=.cells #[.slice Ao33 t339.length co33] 26 (0,0)) (bs BK345) hb);have n8_:=Aside0.mk (blk_below (g:=gb357) (o:=.cells #[.slice Ao41 t353.length co41] 26 (0,0)) (bs BK357) hb);have n9_:=Aside0.mk (blk_below (g:=gb362) (o:=.cells #[.slice Ao46 t358.length co46] 26 (0,0)) (bs BK362) hb);have n10_:=Aside0.mk (blk_below (g:=gb367) (o:=.cells #[.slice Ao53 t363.length co53] 26 (0,0)) (bs BK367) hb);have n11_:=Aside0.mk (below_step (hs4 HB GE345 GE357 GE362 GE367) hb);have n12_:=Aside0.mk (hbox);have n13_:=Aside0.mk ((by rw [hg];exact (below_size (hs4 HB GE345 GE357 GE362 GE367)) : w.heap.size ≤ gb372));have n14_:=Aside0.mk ((by rw [hg];exact (below_size (hs4 HB GE345 GE357 GE362 GE367)) : w.heap.size ≤ gb372));have n15_:=Aside0.mk ((by rw [hg];exact Nat.ne_of_lt (blk_lt (g:=gb345) (o:=.cells #[.slice Ao33 t339.length co33] 26 (0,0)) (bs BK345)) : gb345 ≠ gb372));have n16_:=Aside0.mk ((by rw [hg];exact Nat.ne_of_gt (blk_lt (g:=gb345) (o:=.cells #[.slice Ao33 t339.length co33] 26 (0,0)) (bs BK345)) : gb372 ≠ gb345));have n17_:=Aside0.mk ((by rw [hg];exact Nat.ne_of_lt (blk_lt (g:=gb357) (o:=.cells #[.slice Ao41 t353.length co41] 26 (0,0)) (bs BK357)) : gb357 ≠ gb372));have n18_:=Aside0.mk ((by rw [hg];exact Nat.ne_of_gt (blk_lt (g:=gb357) (o:=.cells #[.slice Ao41 t353.length co41] 26 (0,0)) (bs BK357)) : gb372 ≠ gb357));have n19_:=Aside0.mk ((by rw [hg];exact Nat.ne_of_lt (blk_lt (g:=gb362) (o:=.cells #[.slice Ao46 t358.length co46] 26 (0,0)) (bs BK362)) : gb362 ≠ gb372));have n20_:=Aside0.mk ((by rw [hg];exact Nat.ne_of_gt (blk_lt (g:=gb362) (o:=.cells #[.slice Ao46 t358.length co46] 26 (0,0)) (bs BK362)) : gb372 ≠ gb362));have n21_:=Aside0.mk ((by rw [hg];exact Nat.ne_of_lt (blk_lt (g:=gb367) (o:=.cells #[.slice Ao53 t363.length co53] 26 (0,0)) (bs BK367)) : gb367 ≠ gb372));have n22_:=Aside0.mk ((by rw [hg];exact Nat.ne_of_gt (blk_lt (g:=gb367) (o:=.cells #[.slice Ao53 t363.length co53] 26 (0,0)) (bs BK367)) : gb372 ≠ gb367));clear HO341;clear HO344;clear HO348;clear HO355;clear HO360;clear HO365;clear HO370;clear BK345;clear BK357;clear BK362;clear BK367;clear HB;have HO341:=n0_;have HO344:=n1_;have HO348:=n2_;have HO355:=n3_;have HO360:=n4_;have HO365:=n5_;have HO370:=n6_;have BK345:=n7_;have BK357:=n8_;have BK362:=n9_;have BK367:=n10_;have HB:=n11_;have BK372:=n12_;have GW372:=n13_;have GE372:=n14_;have NB345_372:=n15_;have NB372_345:=n16_;have NB357_372:=n17_;have NB372_357:=n18_;have NB362_372:=n19_;have NB372_362:=n20_;have NB367_372:=n21_;have NB372_367:=n22_;clear n0_ n1_ n2_ n3_ n4_ n5_ n6_ n7_ n8_ n9_ n10_ n11_ n12_ n13_ n14_ n15_ n16_ n17_ n18_ n19_ n20_ n21_ n22_;clear hb hbox hg;obtain ⟨Ao61,co61,eo61⟩:=Kd.S_slice HO370.out;subst eo61;have hnb62:=NB372_345.out;have hnc62:=NB345_372.out;have hnb63:=NB372_357.out;have hnc63:=NB357_372.out;have hnb64:=NB372_362.out;have hnc64:=NB362_372.out;have hnb65:=NB372_367.out;have hnc65:=NB367_372.out;have hcz66_0 : w60.cell? ⟨gb372,0,none⟩ = some (.slice none 0 0):=(blk_cell BK372.out 0).trans rfl;have hfz66_0:=blk_frozen BK372.out 0) | ((with_reducible refine gate_callee (f:=9) rfl ?_);refine goesL_ (some 81) rfl rfl Try.func9 (by kernel_rfl) rfl #[.agg #[.slice Ao61 t368.length co61],.int .i64 t371,.int .i64 (Int.tmod (rd t346 1) 16),.int .i64 5] rfl (by (try simp only [List.map_toArray,List.map_cons,List.map_nil]);first | done | rfl | (simp only [List.length_drop,List.length_take];rfl)) ?_;(with_reducible refine (impl_PutAt.calls k _ _ t368 t371 (Int.tmod (rd t346 1) 16) 5 t373 t376 _ ?side1 ?side2 A17.out).mono ?_);(case side1=>refine (Kd.S_reads' (e:=47) (base:=w.heap.size) (ok:=fun k_=>((((((True ∧ some k_ ≠ (.slice Ao33 t339.length co33 : Value).ownBlock) ∧ some k_ ≠ (.slice (some ad350) t342.length co37 : Value).ownBlock) ∧ some k_ ≠ (.slice (some ad349) t346.length co36 : Value).ownBlock) ∧ some k_ ≠ (.slice Ao41 t353.length co41 : Value).ownBlock) ∧ some k_ ≠ (.slice Ao46 t358.length co46 : Value).ownBlock) ∧ some k_ ≠ (.slice Ao53 t363.length co53 : Value).ownBlock)) (n:=t368.length) (c:=co61) ?_).2.2;exact (by (with_reducible repeat (first | apply Kd.S_alloc | apply Kd.S_drewN | apply Kd.S_drew));exact (Kd.S_mono (Kd.S_far (p:=⟨gb372,0,none⟩) (Kd.S_types HO370.out BK372.out (by decide)) (fun _ hk=>hk.2) (.slice Ao61 t368.length co61)) (fun _ h_=>h_.1))));(case side2=>exact (Kd.S_reads' HO370.out).2.1);rintro e w67 ⟨v374,rfl,ho0,hb⟩;refine ⟨_,rfl,?_⟩;have n0_:=Aside0.mk (Kd.S_elder' (by (with_reducible repeat (first | apply Kd.S_alloc | apply Kd.S_drewN | apply Kd.S_drew));exact (Kd.S_mono (Kd.S_far (p:=⟨gb372,0,none⟩) (Kd.S_types HO341.out BK372.out (by decide)) (fun _ hk=>hk.2) (.slice Ao61 t368.length co61)) (fun _ h_=>h_.1))) (Kd.S_base ho0) hb);have n1_:=Aside0.mk (Kd.R_below (by (with_reducible repeat (first | apply Kd.R_alloc | apply Kd.R_drewN | apply Kd.R_drew));exact (Kd.R_mono (Kd.R_far (p:=⟨gb372,0,none⟩) (Kd.R_types HO344.out BK372.out (by decide)) (fun _ hk=>hk.2) (.slice Ao61 t368.length co61)) (fun _ h_=>h_.1))) hb);have n2_:=Aside0.mk (Kd.R_below (by (with_reducible repeat (first | apply Kd.R_alloc | apply Kd.R_drewN | apply Kd.R_drew));exact (Kd.R_mono (Kd.R_far (p:=⟨gb372,0,none⟩) (Kd.R_types HO348.out BK372.out (by decide)) (fun _ hk=>hk.2) (.slice Ao61 t368.length co61)) (fun _ h_=>h_.1))) hb);have n3_:=Aside0.mk (Kd.S_elder' (by (with_reducible repeat (first | apply Kd.S_alloc | apply Kd.S_drewN | apply Kd.S_drew));exact (Kd.S_mono (Kd.S_far (p:=⟨gb372,0,none⟩) (Kd.S_types HO355.out BK372.out (by decide)) (fun _ hk=>hk.2) (.slice Ao61 t368.length co61)) (fun _ h_=>h_.1))) (Kd.S_base ho0) hb);have n4_:=Aside0.mk (Kd.S_elder' (by (with_reducible repeat (first | apply Kd.S_alloc | apply Kd.S_drewN | apply Kd.S_drew));exact (Kd.S_mono (Kd.S_far (p:=⟨gb372,0,none⟩) (Kd.S_types HO360.out BK372.out (by decide)) (fun _ hk=>hk.2) (.slice Ao61 t368.length co61)) (fun _ h_=>h_.1))) (Kd.S_base ho0) hb);have n5_:=Aside0.mk (Kd.S_elder' (by (with_reducible repeat (first | apply Kd.S_alloc | apply Kd.S_drewN | apply Kd.S_drew));exact (Kd.S_mono (Kd.S_far (p:=⟨gb372,0,none⟩) (Kd.S_types HO365.out BK372.out (by decide)) (fun _ hk=>hk.2) (.slice Ao61 t368.length co61)) (fun _ h_=>h_.1))) (Kd.S_base ho0) hb);have n6_:=Aside0.mk (Kd.S_elder' (by (with_reducible repeat (first | apply Kd.S_alloc | apply Kd.S_drewN | apply Kd.S_drew));exact (Kd.S_mono (Kd.S_far (p:=⟨gb372,0,none⟩) (Kd.S_types HO370.out BK372.out (by decide)) (fun _ hk=>hk.2) (.slice Ao61 t368.length co61)) (fun _ h_=>h_.1))) (Kd.S_base ho0) hb);have n7_:=Aside0.mk (Kd.S_lower (Kd.S_new' (Kd.S_new' (Kd.S_new' (Kd.S_new' (Kd.S_new' (Kd.S_new' (Kd.S_new' ho0 (Kd.S_lt (by (with_reducible repeat (first | apply Kd.S_alloc | apply Kd.S_drewN | apply Kd.S_drew));exact (Kd.S_mono (Kd.S_far (p:=⟨gb372,0,none⟩) (Kd.S_types HO341.out BK372.out (by decide)) (fun _ hk=>hk.2) (.slice Ao61 t368.length co61)) (fun _ h_=>h_.1))))) (Kd.R_lt (by (with_reducible repeat (first | apply Kd.R_alloc | apply Kd.R_drewN | apply Kd.R_drew));exact (Kd.R_mono (Kd.R_far (p:=⟨gb372,0,none⟩) (Kd.R_types HO344.out BK372.out (by decide)) (fun _ hk=>hk.2) (.slice Ao61 t368.length co61)) (fun _ h_=>h_.1))))) (Kd.R_lt (by (with_reducible repeat (first | apply Kd.R_alloc | apply Kd.R_drewN | apply Kd.R_drew));exact (Kd.R_mono (Kd.R_far (p:=⟨gb372,0,none⟩) (Kd.R_types HO348.out BK372.out (by decide)) (fun _ hk=>hk.2) (.slice Ao61 t368.length co61)) (fun _ h_=>h_.1))))) (Kd.S_lt (by (with_reducible repeat (first | apply Kd.S_alloc | apply Kd.S_drewN | apply Kd.S_drew));exact (Kd.S_mono (Kd.S_far (p:=⟨gb372,0,none⟩) (Kd.S_types HO355.out BK372.out (by decide)) (fun _ hk=>hk.2) (.slice Ao61 t368.length co61)) (fun _ h_=>h_.1))))) (Kd.S_lt (by (with_reducible repeat (first | apply Kd.S_alloc | apply Kd.S_drewN | apply Kd.S_drew));exact (Kd.S_mono (Kd.S_far (p:=⟨gb372,0,none⟩) (Kd.S_types HO360.out BK372.out (by decide)) (fun _ hk=>hk.2) (.slice Ao61 t368.length co61)) (fun _ h_=>h_.1))))) (Kd.S_lt (by (with_reducible repeat (first | apply Kd.S_alloc | apply Kd.S_drewN | apply Kd.S_drew));exact (Kd.S_mono (Kd.S_far (p:=⟨gb372,0,none⟩) (Kd.S_types HO365.out BK372.out (by decide)) (fun _ hk=>hk.2) (.slice Ao61 t368.length co61)) (fun _ h_=>h_.1))))) (Kd.S_lt (by (with_reducible repeat (first | apply Kd.S_alloc | apply Kd.S_drewN | apply Kd.S_drew));exact (Kd.S_mono (Kd.S_far (p:=⟨gb372,0,none⟩) (Kd.S_types HO370.out BK372.out (by decide)) (fun _ hk=>hk.2) (.slice Ao61 t368.length co61)) (fun _ h_=>h_.1))))) (below_size (hs5 HB GE345 GE357 GE362 GE367 GE372)));have n8_:=Aside0.mk (blk_below (g:=gb345) (o:=.cells #[.slice Ao33 t339.length co33] 26 (0,0)) (by (with_reducible repeat (first | refine blk_drewN ?_ _ | refine blk_drew ?_ | refine blk_alloc ?_ _));refine blk_far ?_ NB345_372.out _;(with_reducible repeat (first | refine blk_drewN ?_ _ | refine blk_drew ?_ | refine blk_alloc ?_ _));exact BK345.out) hb);have n9_:=Aside0.mk (blk_below (g:=gb357) (o:=.cells #[.slice Ao41 t353.length co41] 26 (0,0)) (by (with_reducible repeat (first | refine blk_drewN ?_ _ | refine blk_drew ?_ | refine blk_alloc ?_ _));refine blk_far ?_ NB357_372.out _;(with_reducible repeat (first | refine blk_drewN ?_ _ | refine blk_drew ?_ | refine blk_alloc ?_ _));exact BK357.out) hb);have n10_:=Aside0.mk (blk_below (g:=gb362) (o:=.cells #[.slice Ao46 t358.length co46] 26 (0,0)) (by (with_reducible repeat (first | refine blk_drewN ?_ _ | refine blk_drew ?_ | refine blk_alloc ?_ _));refine blk_far ?_ NB362_372.out _;(with_reducible repeat (first | refine blk_drewN ?_ _ | refine blk_drew ?_ | refine blk_alloc ?_ _));exact BK362.out) hb);have n11_:=Aside0.mk (blk_below (g:=gb367) (o:=.cells #[.slice Ao53 t363.length co53] 26 (0,0)) (by (with_reducible repeat (first | refine blk_drewN ?_ _ | refine blk_drew ?_ | refine blk_alloc ?_ _));refine blk_far ?_ NB367_372.out _;(with_reducible repeat (first | refine blk_drewN ?_ _ | refine blk_drew ?_ | refine blk_alloc ?_ _));exact BK367.out) hb);have n12_:=Aside0.mk (blk_below (g:=gb372) (o:=.cells #[.slice Ao61 t368.length co61] 26 (0,0)) (by (with_reducible repeat (first | refine blk_drewN ?_ _ | refine blk_drew ?_ | refine blk_alloc ?_ _));refine blk_put (cs:=#[.slice none 0 0]) ?_ 0 _ rfl;(with_reducible repeat (first | refine blk_drewN ?_ _ | refine blk_drew ?_ | refine blk_alloc ?_ _));exact BK372.out) hb);have n13_:=Aside0.mk (below_step (hs5 HB GE345 GE357 GE362 GE367 GE372) hb);clear HO341;clear HO344;clear HO348;clear HO355;clear HO360;clear HO365;clear HO370;clear BK345;clear BK357;clear BK362;clear BK367;clear BK372;clear HB;have HO341:=n0_;have HO344:=n1_;have HO348:=n2_;have HO355:=n3_;have HO360:=n4_;have HO365:=n5_;have HO370:=n6_;have HO375:=n7_;have BK345:=n8_;have BK357:=n9_;have BK362:=n10_;have BK367:=n11_;have BK372:=n12_;have HB:=n13_;clear n0_ n1_ n2_ n3_ n4_ n5_ n6_ n7_ n8_ n9_ n10_ n11_ n12_ n13_;(try clear hb);(try clear hb2);(try clear hk);(try clear hi);(try clear ho0)) | ((with_reducible refine gate_dst (N:=17) rfl ?_);refine box_event ?hg (N:=17) ?hd (cs:=#[.slice none 0 0]) (t:=26) ?hr ?_;(case hd=>rfl);(case hg=>rfl);(case hr=>first | (go_simp;done) | (go_simp;rfl));intro gb377 hg w68 hbox hb;have n0_:=Aside0.mk (Kd.S_below (ss HO341) hb);have n1_:=Aside0.mk (Kd.R_below (rs HO344) hb);have n2_:=Aside0.mk (Kd.R_below (rs HO348) hb);have n3_:=Aside0.mk (Kd.S_below (ss HO355) hb);have n4_:=Aside0.mk (Kd.S_below (ss HO360) hb);have n5_:=Aside0.mk (Kd.S_below (ss HO365) hb);have n6_:=Aside0.mk (Kd.S_below (ss HO370) hb);have n7_:=Aside0.mk (Kd.S_below (ss HO375) hb);have n8_:=Aside0.mk (blk_below (g:=gb345) (o:=.cells #[.slice Ao33 t339.length co33] 26 (0,0)) (bs BK345) hb);have n9_:=Aside0.mk (blk_below (g:=gb357) (o:=.cells #[.slice Ao41 t353.length co41] 26 (0,0)) (bs BK357) hb);have n10_:=Aside0.mk (blk_below (g:=gb362) (o:=.cells #[.slice Ao46 t358.length co46] 26 (0,0)) (bs BK362) hb);have n11_:=Aside0.mk (blk_below (g:=gb367) (o:=.cells #[.slice Ao53 t363.length co53] 26 (0,0)) (bs BK367) hb);have n12_:=Aside0.mk (blk_below (g:=gb372) (o:=.cells #[.slice Ao61 t368.length co61] 26 (0,0)) (bs BK372) hb);have n13_:=Aside0.mk (below_step (hs5 HB GE345 GE357 GE362 GE367 GE372) hb);have n14_:=Aside0.mk (hbox);have n15_:=Aside0.mk ((by rw [hg];exact (below_size (hs5 HB GE345 GE357 GE362 GE367 GE372)) : w.heap.size ≤ gb377));have n16_:=Aside0.mk ((by rw [hg];exact (below_size (hs5 HB GE345 GE357 GE362 GE367 GE372)) : w.heap.size ≤ gb377));have n17_:=Aside0.mk ((by rw [hg];exact Nat.ne_of_lt (blk_lt (g:=gb345) (o:=.cells #[.slice Ao33 t339.length co33] 26 (0,0)) (bs BK345)) : gb345 ≠ gb377));have n18_:=Aside0.mk ((by rw [hg];exact Nat.ne_of_gt (blk_lt (g:=gb345) (o:=.cells #[.slice Ao33 t339.length co33] 26 (0,0)) (bs BK345)) : gb377 ≠ gb345));have n19_:=Aside0.mk ((by rw [hg];exact Nat.ne_of_lt (blk_lt (g:=gb357) (o:=.cells #[.slice Ao41 t353.length co41] 26 (0,0)) (bs BK357)) : gb357 ≠ gb377));have n20_:=Aside0.mk ((by rw [hg];exact Nat.ne_of_gt (blk_lt (g:=gb357) (o:=.cells #[.slice Ao41 t353.length co41] 26 (0,0)) (bs BK357)) : gb377 ≠ gb357));have n21_:=Aside0.mk ((by rw [hg];exact Nat.ne_of_lt (blk_lt (g:=gb362) (o:=.cells #[.slice Ao46 t358.length co46] 26 (0,0)) (bs BK362)) : gb362 ≠ gb377));have n22_:=Aside0.mk ((by rw [hg];exact Nat.ne_of_gt (blk_lt (g:=gb362) (o:=.cells #[.slice Ao46 t358.length co46] 26 (0,0)) (bs BK362)) : gb377 ≠ gb362));have n23_:=Aside0.mk ((by rw [hg];exact Nat.ne_of_lt (blk_lt (g:=gb367) (o:=.cells #[.slice Ao53 t363.length co53] 26 (0,0)) (bs BK367)) : gb367 ≠ gb377));have n24_:=Aside0.mk ((by rw [hg];exact Nat.ne_of_gt (blk_lt (g:=gb367) (o:=.cells #[.slice Ao53 t363.length co53] 26 (0,0)) (bs BK367)) : gb377 ≠ gb367));have n25_:=Aside0.mk ((by rw [hg];exact Nat.ne_of_lt (blk_lt (g:=gb372) (o:=.cells #[.slice Ao61 t368.length co61] 26 (0,0)) (bs BK372)) : gb372 ≠ gb377));have n26_:=Aside0.mk ((by rw [hg];exact Nat.ne_of_gt (blk_lt (g:=gb372) (o:=.cells #[.slice Ao61 t368.length co61] 26 (0,0)) (bs BK372)) : gb377 ≠ gb372));clear HO341;clear HO344;clear HO348;clear HO355;clear HO360;clear HO365;clear HO370;clear HO375;clear BK345;clear BK357;clear BK362;clear BK367;clear BK372;clear HB;have HO341:=n0_;have HO344:=n1_;have HO348:=n2_;have HO355:=n3_;have HO360:=n4_;have HO365:=n5_;have HO370:=n6_;have HO375:=n7_;have BK345:=n8_;have BK357:=n9_;have BK362:=n10_;have BK367:=n11_;have BK372:=n12_;have HB:=n13_;have BK377:=n14_;have GW377:=n15_;have GE377:=n16_;have NB345_377:=n17_;have NB377_345:=n18_;have NB357_377:=n19_;have NB377_357:=n20_;have NB362_377:=n21_;have NB377_362:=n22_;have NB367_377:=n23_;have NB377_367:=n24_;have NB372_377:=n25_;have NB377_372:=n26_;clear n0_ n1_ n2_ n3_ n4_ n5_ n6_ n7_ n8_ n9_ n10_ n11_ n12_ n13_ n14_ n15_ n16_ n17_ n18_ n19_ n20_ n21_ n22_ n23_ n24_ n25_ n26_;clear hb hbox hg;obtain ⟨Ao69,co69,eo69⟩:=Kd.S_slice HO375.out;subst eo69;have hnb70:=NB377_345.out;have hnc70:=NB345_377.out;have hnb71:=NB377_357.out;have hnc71:=NB357_377.out;have hnb72:=NB377_362.out;have hnc72:=NB362_377.out;have hnb73:=NB377_367.out;have hnc73:=NB367_377.out;have hnb74:=NB377_372.out;have hnc74:=NB372_377.out;have hcz75_0 : w68.cell? ⟨gb377,0,none⟩ = some (.slice none 0 0):=(blk_cell BK377.out 0).trans rfl;have hfz75_0:=blk_frozen BK377.out 0))
          have n0_ : Aside0 (Kd.S k47 47 (w68.setCell ⟨gb377,0,none⟩ (.slice Ao69 t373.length co69)) w.heap.size (fun k_=>some k_ ≠ (.slice (some ad350) t342.length co37 : Value).ownBlock ∧ some k_ ≠ (.slice (some ad349) t346.length co36 : Value).ownBlock ∧ some k_ ≠ (.slice Ao41 t353.length co41 : Value).ownBlock ∧ some k_ ≠ (.slice Ao46 t358.length co46 : Value).ownBlock ∧ some k_ ≠ (.slice Ao53 t363.length co53 : Value).ownBlock ∧ some k_ ≠ (.slice Ao61 t368.length co61 : Value).ownBlock ∧ some k_ ≠ (.slice Ao69 t373.length co69 : Value).ownBlock) (.slice Ao33 t339.length co33) t339):=⟨by (with_reducible repeat (first | apply Kd.S_alloc | apply Kd.S_drewN | apply Kd.S_drew));exact Kd.S_mono (Kd.S_far (p:=⟨gb377,0,none⟩) (Kd.S_types HO341.out BK377.out (by decide)) (fun _ hk=>hk.2) (.slice Ao69 t373.length co69)) (fun _ hk=>⟨hk.1.1.1.1.1.1.1,⟨hk.1.1.1.1.1.1.2,⟨hk.1.1.1.1.1.2,⟨hk.1.1.1.1.2,⟨hk.1.1.1.2,⟨hk.1.1.2,hk.1.2⟩⟩⟩⟩⟩⟩)⟩;have n1_ : Aside0 (Kd.R (Kd.int .i64) 3 (w68.setCell ⟨gb377,0,none⟩ (.slice Ao69 t373.length co69)) w.heap.size (fun k_=>some k_ ≠ (.slice (some ad349) t346.length co36 : Value).ownBlock) (.slice (some ad350) t342.length co37) t342):=⟨by (with_reducible repeat (first | apply Kd.R_alloc | apply Kd.R_drewN | apply Kd.R_drew));exact Kd.R_mono (Kd.R_far (p:=⟨gb377,0,none⟩) (Kd.R_types HO344.out BK377.out (by decide)) (fun _ hk=>hk.2) (.slice Ao69 t373.length co69)) (fun _ hk=>hk.1.2)⟩;have n2_ : Aside0 (Kd.R (Kd.int .i64) 3 (w68.setCell ⟨gb377,0,none⟩ (.slice Ao69 t373.length co69)) w.heap.size (fun k_=>some k_ ≠ (.slice (some ad350) t342.length co37 : Value).ownBlock) (.slice (some ad349) t346.length co36) t346):=⟨by (with_reducible repeat (first | apply Kd.R_alloc | apply Kd.R_drewN | apply Kd.R_drew));exact Kd.R_mono (Kd.R_far (p:=⟨gb377,0,none⟩) (Kd.R_types HO348.out BK377.out (by decide)) (fun _ hk=>hk.2) (.slice Ao69 t373.length co69)) (fun _ hk=>hk.1.2)⟩;have n3_ : Aside0 (Kd.S k47 47 (w68.setCell ⟨gb377,0,none⟩ (.slice Ao69 t373.length co69)) w.heap.size (fun k_=>some k_ ≠ (.slice Ao33 t339.length co33 : Value).ownBlock ∧ some k_ ≠ (.slice (some ad350) t342.length co37 : Value).ownBlock ∧ some k_ ≠ (.slice (some ad349) t346.length co36 : Value).ownBlock ∧ some k_ ≠ (.slice Ao46 t358.length co46 : Value).ownBlock ∧ some k_ ≠ (.slice Ao53 t363.length co53 : Value).ownBlock ∧ some k_ ≠ (.slice Ao61 t368.length co61 : Value).ownBlock ∧ some k_ ≠ (.slice Ao69 t373.length co69 : Value).ownBlock) (.slice Ao41 t353.length co41) t353):=⟨by (with_reducible repeat (first | apply Kd.S_alloc | apply Kd.S_drewN | apply Kd.S_drew));exact Kd.S_mono (Kd.S_far (p:=⟨gb377,0,none⟩) (Kd.S_types HO355.out BK377.out (by decide)) (fun _ hk=>hk.2) (.slice Ao69 t373.length co69)) (fun _ hk=>⟨hk.1.1.1.1.1.1.1.2,⟨hk.1.1.1.1.1.1.2,⟨hk.1.1.1.1.1.2,⟨hk.1.1.1.1.2,⟨hk.1.1.1.2,⟨hk.1.1.2,hk.1.2⟩⟩⟩⟩⟩⟩)⟩;have n4_ : Aside0 (Kd.S k47 47 (w68.setCell ⟨gb377,0,none⟩ (.slice Ao69 t373.length co69)) w.heap.size (fun k_=>some k_ ≠ (.slice Ao33 t339.length co33 : Value).ownBlock ∧ some k_ ≠ (.slice (some ad350) t342.length co37 : Value).ownBlock ∧ some k_ ≠ (.slice (some ad349) t346.length co36 : Value).ownBlock ∧ some k_ ≠ (.slice Ao41 t353.length co41 : Value).ownBlock ∧ some k_ ≠ (.slice Ao53 t363.length co53 : Value).ownBlock ∧ some k_ ≠ (.slice Ao61 t368.length co61 : Value).ownBlock ∧ some k_ ≠ (.slice Ao69 t373.length co69 : Value).ownBlock) (.slice Ao46 t358.length co46) t358):=⟨by (with_reducible repeat (first | apply Kd.S_alloc | apply Kd.S_drewN | apply Kd.S_drew));exact Kd.S_mono (Kd.S_far (p:=⟨gb377,0,none⟩) (Kd.S_types HO360.out BK377.out (by decide)) (fun _ hk=>hk.2) (.slice Ao69 t373.length co69)) (fun _ hk=>⟨hk.1.1.1.1.1.1.1.2,⟨hk.1.1.1.1.1.1.2,⟨hk.1.1.1.1.1.2,⟨hk.1.1.1.1.2,⟨hk.1.1.1.2,⟨hk.1.1.2,hk.1.2⟩⟩⟩⟩⟩⟩)⟩;have n5_ : Aside0 (Kd.S k47 47 (w68.setCell ⟨gb377,0,none⟩ (.slice Ao69 t373.length co69)) w.heap.size (fun k_=>some k_ ≠ (.slice Ao33 t339.length co33 : Value).ownBlock ∧ some k_ ≠ (.slice (some ad350) t342.length co37 : Value).ownBlock ∧ some k_ ≠ (.slice (some ad349) t346.length co36 : Value).ownBlock ∧ some k_ ≠ (.slice Ao41 t353.length co41 : Value).ownBlock ∧ some k_ ≠ (.slice Ao46 t358.length co46 : Value).ownBlock ∧ some k_ ≠ (.slice Ao61 t368.length co61 : Value).ownBlock ∧ some k_ ≠ (.slice Ao69 t373.length co69 : Value).ownBlock) (.slice Ao53 t363.length co53) t363):=⟨by (with_reducible repeat (first | apply Kd.S_alloc | apply Kd.S_drewN | apply Kd.S_drew));exact Kd.S_mono (Kd.S_far (p:=⟨gb377,0,none⟩) (Kd.S_types HO365.out BK377.out (by decide)) (fun _ hk=>hk.2) (.slice Ao69 t373.length co69)) (fun _ hk=>⟨hk.1.1.1.1.1.1.1.2,⟨hk.1.1.1.1.1.1.2,⟨hk.1.1.1.1.1.2,⟨hk.1.1.1.1.2,⟨hk.1.1.1.2,⟨hk.1.1.2,hk.1.2⟩⟩⟩⟩⟩⟩)⟩;have n6_ : Aside0 (Kd.S k47 47 (w68.setCell ⟨gb377,0,none⟩ (.slice Ao69 t373.length co69)) w.heap.size (fun k_=>some k_ ≠ (.slice Ao33 t339.length co33 : Value).ownBlock ∧ some k_ ≠ (.slice (some ad350) t342.length co37 : Value).ownBlock ∧ some k_ ≠ (.slice (some ad349) t346.length co36 : Value).ownBlock ∧ some k_ ≠ (.slice Ao41 t353.length co41 : Value).ownBlock ∧ some k_ ≠ (.slice Ao46 t358.length co46 : Value).ownBlock ∧ some k_ ≠ (.slice Ao53 t363.length co53 : Value).ownBlock ∧ some k_ ≠ (.slice Ao69 t373.length co69 : Value).ownBlock) (.slice Ao61 t368.length co61) t368):=⟨by (with_reducible repeat (first | apply Kd.S_alloc | apply Kd.S_drewN | apply Kd.S_drew));exact Kd.S_mono (Kd.S_far (p:=⟨gb377,0,none⟩) (Kd.S_types HO370.out BK377.out (by decide)) (fun _ hk=>hk.2) (.slice Ao69 t373.length co69)) (fun _ hk=>⟨hk.1.1.1.1.1.1.1.2,⟨hk.1.1.1.1.1.1.2,⟨hk.1.1.1.1.1.2,⟨hk.1.1.1.1.2,⟨hk.1.1.1.2,⟨hk.1.1.2,hk.1.2⟩⟩⟩⟩⟩⟩)⟩;have n7_ : Aside0 (Kd.S k47 47 (w68.setCell ⟨gb377,0,none⟩ (.slice Ao69 t373.length co69)) w.heap.size (fun k_=>some k_ ≠ (.slice Ao33 t339.length co33 : Value).ownBlock ∧ some k_ ≠ (.slice (some ad350) t342.length co37 : Value).ownBlock ∧ some k_ ≠ (.slice (some ad349) t346.length co36 : Value).ownBlock ∧ some k_ ≠ (.slice Ao41 t353.length co41 : Value).ownBlock ∧ some k_ ≠ (.slice Ao46 t358.length co46 : Value).ownBlock ∧ some k_ ≠ (.slice Ao53 t363.length co53 : Value).ownBlock ∧ some k_ ≠ (.slice Ao61 t368.length co61 : Value).ownBlock) (.slice Ao69 t373.length co69) t373):=⟨by (with_reducible repeat (first | apply Kd.S_alloc | apply Kd.S_drewN | apply Kd.S_drew));exact Kd.S_mono (Kd.S_far (p:=⟨gb377,0,none⟩) (Kd.S_types HO375.out BK377.out (by decide)) (fun _ hk=>hk.2) (.slice Ao69 t373.length co69)) (fun _ hk=>⟨hk.1.1.1.1.1.1.1.2,⟨hk.1.1.1.1.1.1.2,⟨hk.1.1.1.1.1.2,⟨hk.1.1.1.1.2,⟨hk.1.1.1.2,⟨hk.1.1.2,hk.1.2⟩⟩⟩⟩⟩⟩)⟩;have n8_ : Aside0 ((w68.setCell ⟨gb377,0,none⟩ (.slice Ao69 t373.length co69)).heap[gb345]? = some (.cells #[.slice Ao33 t339.length co33] 26 (0,0))):=⟨by (with_reducible repeat (first | refine blk_drewN ?_ _ | refine blk_drew ?_ | refine blk_alloc ?_ _));refine blk_far ?_ NB345_377.out _;(with_reducible repeat (first | refine blk_drewN ?_ _ | refine blk_drew ?_ | refine blk_alloc ?_ _));exact BK345.out⟩;have n9_ : Aside0 ((w68.setCell ⟨gb377,0,none⟩ (.slice Ao69 t373.length co69)).heap[gb357]? = some (.cells #[.slice Ao41 t353.length co41] 26 (0,0))):=⟨by (with_reducible repeat (first | refine blk_drewN ?_ _ | refine blk_drew ?_ | refine blk_alloc ?_ _));refine blk_far ?_ NB357_377.out _;(with_reducible repeat (first | refine blk_drewN ?_ _ | refine blk_drew ?_ | refine blk_alloc ?_ _));exact BK357.out⟩;have n10_ : Aside0 ((w68.setCell ⟨gb377,0,none⟩ (.slice Ao69 t373.length co69)).heap[gb362]? = some (.cells #[.slice Ao46 t358.length co46] 26 (0,0))):=⟨by (with_reducible repeat (first | refine blk_drewN ?_ _ | refine blk_drew ?_ | refine blk_alloc ?_ _));refine blk_far ?_ NB362_377.out _;(with_reducible repeat (first | refine blk_drewN ?_ _ | refine blk_drew ?_ | refine blk_alloc ?_ _));exact BK362.out⟩;have n11_ : Aside0 ((w68.setCell ⟨gb377,0,none⟩ (.slice Ao69 t373.length co69)).heap[gb367]? = some (.cells #[.slice Ao53 t363.length co53] 26 (0,0))):=⟨by (with_reducible repeat (first | refine blk_drewN ?_ _ | refine blk_drew ?_ | refine blk_alloc ?_ _));refine blk_far ?_ NB367_377.out _;(with_reducible repeat (first | refine blk_drewN ?_ _ | refine blk_drew ?_ | refine blk_alloc ?_ _));exact BK367.out⟩;have n12_ : Aside0 ((w68.setCell ⟨gb377,0,none⟩ (.slice Ao69 t373.length co69)).heap[gb372]? = some (.cells #[.slice Ao61 t368.length co61] 26 (0,0))):=⟨by (with_reducible repeat (first | refine blk_drewN ?_ _ | refine blk_drew ?_ | refine blk_alloc ?_ _));refine blk_far ?_ NB372_377.out _;(with_reducible repeat (first | refine blk_drewN ?_ _ | refine blk_drew ?_ | refine blk_alloc ?_ _));exact BK372.out⟩;have n13_ : Aside0 ((w68.setCell ⟨gb377,0,none⟩ (.slice Ao69 t373.length co69)).heap[gb377]? = some (.cells #[.slice Ao69 t373.length co69] 26 (0,0))):=⟨by (with_reducible repeat (first | refine blk_drewN ?_ _ | refine blk_drew ?_ | refine blk_alloc ?_ _));refine blk_put (cs:=#[.slice none 0 0]) ?_ 0 _ rfl;(with_reducible repeat (first | refine blk_drewN ?_ _ | refine blk_drew ?_ | refine blk_alloc ?_ _));exact BK377.out⟩;have n14_ : Aside0 (Below w.heap.size w (w68.setCell ⟨gb377,0,none⟩ (.slice Ao69 t373.length co69))):=⟨by repeat (first | (with_reducible first | exact HB.out | apply below_alloc | apply pw_below_drewN | apply below_drew1 | refine below_set ?_ GE345.out | refine below_set ?_ GE357.out | refine below_set ?_ GE362.out | refine below_set ?_ GE367.out | refine below_set ?_ GE372.out | refine below_set ?_ GE377.out) | exact HB.out)⟩
          (try clear HO341)
          (try clear HO344)
          (try clear HO348)
          (try clear HO355)
          (try clear HO360)
          (try clear HO365)
          (try clear HO370)
          (try clear HO375)
          (try clear BK345)
          (try clear BK357)
          (try clear BK362)
          (try clear BK367)
          (try clear BK372)
          (try clear BK377)
          (try clear HB)
          generalize (w68.setCell ⟨gb377,0,none⟩ (.slice Ao69 t373.length co69)) = w76 at n0_ n1_ n2_ n3_ n4_ n5_ n6_ n7_ n8_ n9_ n10_ n11_ n12_ n13_ n14_ ⊢;have HO341:=n0_;have HO344:=n1_;have HO348:=n2_;have HO355:=n3_;have HO360:=n4_;have HO365:=n5_;have HO370:=n6_;have HO375:=n7_;have BK345:=n8_;have BK357:=n9_;have BK362:=n10_;have BK367:=n11_;have BK372:=n12_;have BK377:=n13_;have HB:=n14_;clear n0_ n1_ n2_ n3_ n4_ n5_ n6_ n7_ n8_ n9_ n10_ n11_ n12_ n13_ n14_;have n0_:=Aside0.mk (Kd.S_drew HO341.out);have n1_:=Aside0.mk (Kd.R_drew HO344.out);have n2_:=Aside0.mk (Kd.R_drew HO348.out);have n3_:=Aside0.mk (Kd.S_drew HO355.out);have n4_:=Aside0.mk (Kd.S_drew HO360.out);have n5_:=Aside0.mk (Kd.S_drew HO365.out);have n6_:=Aside0.mk (Kd.S_drew HO370.out);have n7_:=Aside0.mk (Kd.S_drew HO375.out);have n8_:=Aside0.mk (blk_drew BK345.out);have n9_:=Aside0.mk (blk_drew BK357.out);have n10_:=Aside0.mk (blk_drew BK362.out);have n11_:=Aside0.mk (blk_drew BK367.out);have n12_:=Aside0.mk (blk_drew BK372.out);have n13_:=Aside0.mk (blk_drew BK377.out);have n14_:=Aside0.mk (below_drew1 HB.out);clear HO341;clear HO344;clear HO348;clear HO355;clear HO360;clear HO365;clear HO370;clear HO375;clear BK345;clear BK357;clear BK362;clear BK367;clear BK372;clear BK377;clear HB;have HO341:=n0_;have HO344:=n1_;have HO348:=n2_;have HO355:=n3_;have HO360:=n4_;have HO365:=n5_;have HO370:=n6_;have HO375:=n7_;have BK345:=n8_;have BK357:=n9_;have BK362:=n10_;have BK367:=n11_;have BK372:=n12_;have BK377:=n13_;have HB:=n14_;clear n0_ n1_ n2_ n3_ n4_ n5_ n6_ n7_ n8_ n9_ n10_ n11_ n12_ n13_ n14_;refine start_ (n:=37) (S:=fun w'=>w'.cell? ⟨gb357,0,none⟩ = some (.slice Ao41 t353.length co41) ∧ w'.cell? ⟨gb362,0,none⟩ = some (.slice Ao46 t358.length co46) ∧ w'.cell? ⟨gb367,0,none⟩ = some (.slice Ao53 t363.length co53) ∧ w'.cell? ⟨gb377,0,none⟩ = some (.slice Ao69 t373.length co69)) (ds:=[]) #[false,false,false,false,false,false,false,false,false,false,false,false,false,false,false,false,false,false,false,false,false,false,false,false,false,false,false,false,false,false,false,false,false,false,false,false,false] (by kernel_rfl) rfl rfl ⟨(blk_cell BK357.out 0).trans rfl,(blk_cell BK362.out 0).trans rfl,(blk_cell BK367.out 0).trans rfl,(blk_cell BK377.out 0).trans rfl⟩ (fun hHeld=>?_);refine with_tabW laws_FnPutsAgain.tab13 laws_FnPutsAgain.bits13 (fun HT_ HW_=>?_);generalize w76.drew = w77 at HO341 HO344 HO348 HO355 HO360 HO365 HO370 HO375 BK345 BK357 BK362 BK367 BK372 BK377 HB hHeld ⊢;refine pure_ (i:=1) (N:=some 85) (v:=?_) (a':=?_) #[false,true,false,false,false,false,false,false,false,false,false,false,false,false,false,false,false,false,false,false,false,false,false,false,false,false,false,false,false,false,false,false,false,false,false,false,false] rfl rfl (any_of HT_.out (by kernel_rfl)) (fun _ _ _ h=>h) (Or.inl ⟨by rfl,?_⟩) ?_ ?_;rotate_left
          ·intro w';go_simp;with_reducible rfl
          rotate_left
          ·simp only [Act.put,List.setIfInBounds_toArray,List.set_cons_zero,List.set_cons_succ,i64_w,i32_w];rfl
          refine pure_ (i:=4) (N:=some 88) (v:=?_) (a':=?_) #[false,true,false,false,true,false,false,false,false,false,false,false,false,false,false,false,false,false,false,false,false,false,false,false,false,false,false,false,false,false,false,false,false,false,false,false,false] rfl rfl (any_of HT_.out (by kernel_rfl)) (fun _ _ _ h=>h) (Or.inl ⟨by rfl,?_⟩) ?_ ?_;rotate_left
          ·intro w';go_simp;with_reducible rfl
          rotate_left
          ·simp only [Act.put,List.setIfInBounds_toArray,List.set_cons_zero,List.set_cons_succ,i64_w,i32_w];rfl
          refine take_ (i:=0) (N:=some 84) (v:=?_) (a':=?_) #[true,true,false,false,true,false,false,false,false,false,false,false,false,false,false,false,false,false,false,false,false,false,false,false,false,false,false,false,false,false,false,false,false,false,false,false,false] rfl rfl (take_ofW HT_.out HW_.out (by kernel_rfl)) (fun _ _ _ h=>h) (Or.inl ⟨by rfl,?_⟩) hHeld ?_ ?_;rotate_left
          ·rintro w' ⟨s0,s1,s2,s3⟩;go_simp;with_reducible rfl
          rotate_left
          ·simp only [Act.put,List.setIfInBounds_toArray,List.set_cons_zero,List.set_cons_succ,i64_w,i32_w];rfl
          refine take_ (i:=3) (N:=some 87) (v:=?_) (a':=?_) #[true,true,false,true,true,false,false,false,false,false,false,false,false,false,false,false,false,false,false,false,false,false,false,false,false,false,false,false,false,false,false,false,false,false,false,false,false] rfl rfl (take_ofW HT_.out HW_.out (by kernel_rfl)) (fun _ _ _ h=>h) (Or.inl ⟨by rfl,?_⟩) hHeld ?_ ?_;rotate_left
          ·rintro w' ⟨s0,s1,s2,s3⟩;go_simp;with_reducible rfl
          rotate_left
          ·simp only [Act.put,List.setIfInBounds_toArray,List.set_cons_zero,List.set_cons_succ,i64_w,i32_w];rfl
          refine one_ (i:=2) (N:=some 86) #[true,true,true,true,true,false,false,false,false,false,false,false,false,false,false,false,false,false,false,false,false,false,false,false,false,false,false,false,false,false,false,false,false,false,false,false,false] rfl rfl (one_of HT_.out (by kernel_rfl)) (by decide) (fun K hK=>?_);refine goes_ Try.func14 (by kernel_rfl) rfl #[.agg #[.slice Ao41 t353.length co41],.int .i64 t356] (by rfl) rfl rfl (by (try simp only [List.map_toArray,List.map_cons,List.map_nil]);first | done | rfl | (simp only [List.length_drop,List.length_take];rfl)) ?_;with_reducible refine (impl_AllAt.calls k _ _ t353 t356 t378 _ ?side1 ?side2 A18.out).mono ?_
          (case side1=>repeat (first | exact (Kd.S_reads' HO355.out).2.2 | (with_reducible refine Kd.C_alloc ?_ _) | (with_reducible refine Kd.C_drewN ?_ _) | (with_reducible refine Kd.C_drew ?_)))
          (case side2=>exact (Kd.S_reads' HO355.out).2.1)
          rintro e w78 ⟨v379,rfl,ho0,hb⟩;refine ⟨_,rfl,?_⟩;have n0_:=Aside0.mk (Kd.S_elder' (ss HO341) (Kd.R_base ho0) hb);have n1_:=Aside0.mk (Kd.R_elder' (rs HO344) (Kd.R_base ho0) hb);have n2_:=Aside0.mk (Kd.R_elder' (rs HO348) (Kd.R_base ho0) hb);have n3_:=Aside0.mk (Kd.S_elder' (ss HO355) (Kd.R_base ho0) hb);have n4_:=Aside0.mk (Kd.S_elder' (ss HO360) (Kd.R_base ho0) hb);have n5_:=Aside0.mk (Kd.S_elder' (ss HO365) (Kd.R_base ho0) hb);have n6_:=Aside0.mk (Kd.S_elder' (ss HO370) (Kd.R_base ho0) hb);have n7_:=Aside0.mk (Kd.S_elder' (ss HO375) (Kd.R_base ho0) hb);have n8_:=Aside0.mk (Kd.R_lower (Kd.R_new' (Kd.R_new' ho0 (Kd.R_lt (rs HO344))) (Kd.R_lt (rs HO348))) (below_size (by repeat (first | (with_reducible first | exact HB.out | apply below_alloc | apply pw_below_drewN | apply below_drew1 | refine below_set ?_ GE345.out | refine below_set ?_ GE357.out | refine below_set ?_ GE362.out | refine below_set ?_ GE367.out | refine below_set ?_ GE372.out | refine below_set ?_ GE377.out) | exact HB.out))));have n9_:=Aside0.mk (blk_below (g:=gb345) (o:=.cells #[.slice Ao33 t339.length co33] 26 (0,0)) (bs BK345) hb);have n10_:=Aside0.mk (blk_below (g:=gb357) (o:=.cells #[.slice Ao41 t353.length co41] 26 (0,0)) (bs BK357) hb);have n11_:=Aside0.mk (blk_below (g:=gb362) (o:=.cells #[.slice Ao46 t358.length co46] 26 (0,0)) (bs BK362) hb);have n12_:=Aside0.mk (blk_below (g:=gb367) (o:=.cells #[.slice Ao53 t363.length co53] 26 (0,0)) (bs BK367) hb);have n13_:=Aside0.mk (blk_below (g:=gb372) (o:=.cells #[.slice Ao61 t368.length co61] 26 (0,0)) (bs BK372) hb);have n14_:=Aside0.mk (blk_below (g:=gb377) (o:=.cells #[.slice Ao69 t373.length co69] 26 (0,0)) (bs BK377) hb);have n15_:=Aside0.mk (below_step (by repeat (first | (with_reducible first | exact HB.out | apply below_alloc | apply pw_below_drewN | apply below_drew1 | refine below_set ?_ GE345.out | refine below_set ?_ GE357.out | refine below_set ?_ GE362.out | refine below_set ?_ GE367.out | refine below_set ?_ GE372.out | refine below_set ?_ GE377.out) | exact HB.out)) hb);clear HO341;clear HO344;clear HO348;clear HO355;clear HO360;clear HO365;clear HO370;clear HO375;clear BK345;clear BK357;clear BK362;clear BK367;clear BK372;clear BK377;clear HB;have HO341:=n0_;have HO344:=n1_;have HO348:=n2_;have HO355:=n3_;have HO360:=n4_;have HO365:=n5_;have HO370:=n6_;have HO375:=n7_;have HO380:=n8_;have BK345:=n9_;have BK357:=n10_;have BK362:=n11_;have BK367:=n12_;have BK372:=n13_;have BK377:=n14_;have HB:=n15_;clear n0_ n1_ n2_ n3_ n4_ n5_ n6_ n7_ n8_ n9_ n10_ n11_ n12_ n13_ n14_ n15_
          (try clear hb)
          (try clear hb2)
          (try clear hk)
          (try clear hi)
          (try clear ho0)
          refine hK.out _ _ ⟨(blk_cell BK357.out 0).trans rfl,(blk_cell BK362.out 0).trans rfl,(blk_cell BK367.out 0).trans rfl,(blk_cell BK377.out 0).trans rfl⟩ (fun hHeld=>?_);clear hK K;refine norm_ (a':=?_) ?_ ?_;rotate_left
          ·show Act.put _ (some 86) _ = _;simp only [Act.put,List.setIfInBounds_toArray,List.set_cons_zero,List.set_cons_succ,i64_w,i32_w];rfl
          refine one_ (i:=5) (N:=some 89) #[true,true,true,true,true,true,false,false,false,false,false,false,false,false,false,false,false,false,false,false,false,false,false,false,false,false,false,false,false,false,false,false,false,false,false,false,false] rfl rfl (one_of HT_.out (by kernel_rfl)) (by decide) (fun K hK=>?_);refine goes_ Try.func14 (by kernel_rfl) rfl #[.agg #[.slice Ao46 t358.length co46],.int .i64 t361] (by rfl) rfl rfl (by (try simp only [List.map_toArray,List.map_cons,List.map_nil]);first | done | rfl | (simp only [List.length_drop,List.length_take];rfl)) ?_;with_reducible refine (impl_AllAt.calls k _ _ t358 t361 t381 _ ?side1 ?side2 A19.out).mono ?_
          (case side1=>repeat (first | exact (Kd.S_reads' HO360.out).2.2 | (with_reducible refine Kd.C_alloc ?_ _) | (with_reducible refine Kd.C_drewN ?_ _) | (with_reducible refine Kd.C_drew ?_)))
          (case side2=>exact (Kd.S_reads' HO360.out).2.1)
          rintro e w79 ⟨v382,rfl,ho0,hb⟩;refine ⟨_,rfl,?_⟩;have n0_:=Aside0.mk (Kd.S_elder' (ss HO341) (Kd.R_base ho0) hb);have n1_:=Aside0.mk (Kd.R_elder' (rs HO344) (Kd.R_base ho0) hb);have n2_:=Aside0.mk (Kd.R_elder' (rs HO348) (Kd.R_base ho0) hb);have n3_:=Aside0.mk (Kd.S_elder' (ss HO355) (Kd.R_base ho0) hb);have n4_:=Aside0.mk (Kd.S_elder' (ss HO360) (Kd.R_base ho0) hb);have n5_:=Aside0.mk (Kd.S_elder' (ss HO365) (Kd.R_base ho0) hb);have n6_:=Aside0.mk (Kd.S_elder' (ss HO370) (Kd.R_base ho0) hb);have n7_:=Aside0.mk (Kd.S_elder' (ss HO375) (Kd.R_base ho0) hb);have n8_:=Aside0.mk (Kd.R_elder' (rs HO380) (Kd.R_base ho0) hb);have n9_:=Aside0.mk (Kd.R_lower (Kd.R_new' (Kd.R_new' (Kd.R_new' ho0 (Kd.R_lt (rs HO344))) (Kd.R_lt (rs HO348))) (Kd.R_lt (rs HO380))) (below_size (by repeat (first | (with_reducible first | exact HB.out | apply below_alloc | apply pw_below_drewN | apply below_drew1 | refine below_set ?_ GE345.out | refine below_set ?_ GE357.out | refine below_set ?_ GE362.out | refine below_set ?_ GE367.out | refine below_set ?_ GE372.out | refine below_set ?_ GE377.out) | exact HB.out))));have n10_:=Aside0.mk (blk_below (g:=gb345) (o:=.cells #[.slice Ao33 t339.length co33] 26 (0,0)) (bs BK345) hb);have n11_:=Aside0.mk (blk_below (g:=gb357) (o:=.cells #[.slice Ao41 t353.length co41] 26 (0,0)) (bs BK357) hb);have n12_:=Aside0.mk (blk_below (g:=gb362) (o:=.cells #[.slice Ao46 t358.length co46] 26 (0,0)) (bs BK362) hb);have n13_:=Aside0.mk (blk_below (g:=gb367) (o:=.cells #[.slice Ao53 t363.length co53] 26 (0,0)) (bs BK367) hb);have n14_:=Aside0.mk (blk_below (g:=gb372) (o:=.cells #[.slice Ao61 t368.length co61] 26 (0,0)) (bs BK372) hb);have n15_:=Aside0.mk (blk_below (g:=gb377) (o:=.cells #[.slice Ao69 t373.length co69] 26 (0,0)) (bs BK377) hb);have n16_:=Aside0.mk (below_step (by repeat (first | (with_reducible first | exact HB.out | apply below_alloc | apply pw_below_drewN | apply below_drew1 | refine below_set ?_ GE345.out | refine below_set ?_ GE357.out | refine below_set ?_ GE362.out | refine below_set ?_ GE367.out | refine below_set ?_ GE372.out | refine below_set ?_ GE377.out) | exact HB.out)) hb);clear HO341;clear HO344;clear HO348;clear HO355;clear HO360;clear HO365;clear HO370;clear HO375;clear HO380;clear BK345;clear BK357;clear BK362;clear BK367;clear BK372;clear BK377;clear HB;have HO341:=n0_;have HO344:=n1_;have HO348:=n2_;have HO355:=n3_;have HO360:=n4_;have HO365:=n5_;have HO370:=n6_;have HO375:=n7_;have HO380:=n8_;have HO383:=n9_;have BK345:=n10_;have BK357:=n11_;have BK362:=n12_;have BK367:=n13_;have BK372:=n14_;have BK377:=n15_;have HB:=n16_;clear n0_ n1_ n2_ n3_ n4_ n5_ n6_ n7_ n8_ n9_ n10_ n11_ n12_ n13_ n14_ n15_ n16_
          (try clear hb)
          (try clear hb2)
          (try clear hk)
          (try clear hi)
          (try clear ho0)
          obtain ⟨Ao80,co80,eo80⟩:=Kd.R_slice HO380.out
          (first | subst eo80 | (injection eo80 with f1_ f2_ f3_;have f4_:=f1_.symm;have f5_:=f3_.symm;clear f1_ f2_ f3_;subst f4_;subst f5_))
          obtain ⟨Ao81,co81,eo81⟩:=Kd.R_slice HO383.out
          (first | subst eo81 | (injection eo81 with f1_ f2_ f3_;have f4_:=f1_.symm;have f5_:=f3_.symm;clear f1_ f2_ f3_;subst f4_;subst f5_))
          refine hK.out _ _ ⟨(blk_cell BK357.out 0).trans rfl,(blk_cell BK362.out 0).trans rfl,(blk_cell BK367.out 0).trans rfl,(blk_cell BK377.out 0).trans rfl⟩ (fun hHeld=>?_);clear hK K;refine norm_ (a':=?_) ?_ ?_;rotate_left
          ·show Act.put _ (some 89) _ = _;simp only [Act.put,List.setIfInBounds_toArray,List.set_cons_zero,List.set_cons_succ,i64_w,i32_w];rfl
          refine one_ (i:=6) (N:=some 90) #[true,true,true,true,true,true,true,false,false,false,false,false,false,false,false,false,false,false,false,false,false,false,false,false,false,false,false,false,false,false,false,false,false,false,false,false,false] rfl rfl (one_of HT_.out (by kernel_rfl)) (by decide) (fun K hK=>?_);refine goes_ Try.func13 (by kernel_rfl) rfl #[.slice Ao80 t378.length co80,.slice Ao81 t381.length co81] (by rfl) rfl rfl (by (try simp only [List.map_toArray,List.map_cons,List.map_nil]);first | done | rfl | (simp only [List.length_drop,List.length_take];rfl)) ?_;with_reducible refine (laws_sameInts.calls k _ _ t378 _ _ t381 true _ ?side1 ?side2 ?side3 ?side4 A20.out).mono ?_
          (case side1=>repeat (first | exact (Kd.R_reads' HO380.out).2.2 | (with_reducible refine Kd.C_alloc ?_ _) | (with_reducible refine Kd.C_drewN ?_ _) | (with_reducible refine Kd.C_drew ?_)))
          (case side2=>exact (Kd.R_reads' HO380.out).2.1)
          (case side3=>repeat (first | exact (Kd.R_reads' HO383.out).2.2 | (with_reducible refine Kd.C_alloc ?_ _) | (with_reducible refine Kd.C_drewN ?_ _) | (with_reducible refine Kd.C_drew ?_)))
          (case side4=>exact (Kd.R_reads' HO383.out).2.1)
          rintro e w' ⟨rfl,⟨nd,rfl⟩⟩;refine ⟨_,rfl,?_⟩;refine hK.out _ _ ⟨(blk_cell BK357.out 0).trans rfl,(blk_cell BK362.out 0).trans rfl,(blk_cell BK367.out 0).trans rfl,(blk_cell BK377.out 0).trans rfl⟩ (fun hHeld=>?_);clear hK K;refine norm_ (a':=?_) ?_ ?_;rotate_left
          ·show Act.put _ (some 90) _ = _;simp only [Act.put,List.setIfInBounds_toArray,List.set_cons_zero,List.set_cons_succ,i64_w,i32_w];rfl
          refine pure_ (i:=7) (N:=some 91) (v:=?_) (a':=?_) #[true,true,true,true,true,true,true,true,false,false,false,false,false,false,false,false,false,false,false,false,false,false,false,false,false,false,false,false,false,false,false,false,false,false,false,false,false] rfl rfl (any_of HT_.out (by kernel_rfl)) (fun _ _ _ h=>h) (Or.inl ⟨by rfl,?_⟩) ?_ ?_;rotate_left
          ·intro w';go_simp;with_reducible rfl
          rotate_left
          ·simp only [Act.put,List.setIfInBounds_toArray,List.set_cons_zero,List.set_cons_succ,i64_w,i32_w];rfl
          refine pure_ (i:=9) (N:=some 93) (v:=?_) (a':=?_) #[true,true,true,true,true,true,true,true,false,true,false,false,false,false,false,false,false,false,false,false,false,false,false,false,false,false,false,false,false,false,false,false,false,false,false,false,false] rfl rfl (any_of HT_.out (by kernel_rfl)) (fun _ _ _ h=>h) (Or.inl ⟨by rfl,?_⟩) ?_ ?_;rotate_left
          ·intro w';go_simp;with_reducible rfl
          rotate_left
          ·simp only [Act.put,List.setIfInBounds_toArray,List.set_cons_zero,List.set_cons_succ,i64_w,i32_w];rfl
          refine pure_ (i:=12) (N:=some 96) (v:=?_) (a':=?_) #[true,true,true,true,true,true,true,true,false,true,false,false,true,false,false,false,false,false,false,false,false,false,false,false,false,false,false,false,false,false,false,false,false,false,false,false,false] rfl rfl (any_of HT_.out (by kernel_rfl)) (fun _ _ _ h=>h) (Or.inl ⟨by rfl,?_⟩) ?_ ?_;rotate_left
          ·intro w';go_simp;with_reducible rfl
          rotate_left
          ·simp only [Act.put,List.setIfInBounds_toArray,List.set_cons_zero,List.set_cons_succ,i64_w,i32_w];rfl
          refine take_ (i:=8) (N:=some 92) (v:=?_) (a':=?_) #[true,true,true,true,true,true,true,true,true,true,false,false,true,false,false,false,false,false,false,false,false,false,false,false,false,false,false,false,false,false,false,false,false,false,false,false,false] rfl rfl (take_ofW HT_.out HW_.out (by kernel_rfl)) (fun _ _ _ h=>h) (Or.inl ⟨by rfl,?_⟩) hHeld ?_ ?_;rotate_left
          ·rintro w' ⟨s0,s1,s2,s3⟩;go_simp;with_reducible rfl
          rotate_left
          ·simp only [Act.put,List.setIfInBounds_toArray,List.set_cons_zero,List.set_cons_succ,i64_w,i32_w];rfl
          refine take_ (i:=11) (N:=some 95) (v:=?_) (a':=?_) #[true,true,true,true,true,true,true,true,true,true,false,true,true,false,false,false,false,false,false,false,false,false,false,false,false,false,false,false,false,false,false,false,false,false,false,false,false] rfl rfl (take_ofW HT_.out HW_.out (by kernel_rfl)) (fun _ _ _ h=>h) (Or.inl ⟨by rfl,?_⟩) hHeld ?_ ?_;rotate_left
          ·rintro w' ⟨s0,s1,s2,s3⟩;go_simp;with_reducible rfl
          rotate_left
          ·simp only [Act.put,List.setIfInBounds_toArray,List.set_cons_zero,List.set_cons_succ,i64_w,i32_w];rfl
          refine one_ (i:=10) (N:=some 94) #[true,true,true,true,true,true,true,true,true,true,true,true,true,false,false,false,false,false,false,false,false,false,false,false,false,false,false,false,false,false,false,false,false,false,false,false,false] rfl rfl (one_of HT_.out (by kernel_rfl)) (by decide) (fun K hK=>?_);refine goes_ Try.func14 (by kernel_rfl) rfl #[.agg #[.slice Ao53 t363.length co53],.int .i64 t366] (by rfl) rfl rfl (by (try simp only [List.map_toArray,List.map_cons,List.map_nil]);first | done | rfl | (simp only [List.length_drop,List.length_take];rfl)) ?_;with_reducible refine (impl_AllAt.calls k _ _ t363 t366 t385 _ ?side1 ?side2 A22.out).mono ?_
          (case side1=>repeat (first | exact (Kd.S_reads' HO365.out).2.2 | (with_reducible refine Kd.C_alloc ?_ _) | (with_reducible refine Kd.C_drewN ?_ _) | (with_reducible refine Kd.C_drew ?_)))
          (case side2=>exact (Kd.S_reads' HO365.out).2.1)
          rintro e w82 ⟨v386,rfl,ho0,hb⟩;refine ⟨_,rfl,?_⟩;have n0_:=Aside0.mk (Kd.S_elder' (ss HO341) (Kd.R_base ho0) hb);have n1_:=Aside0.mk (Kd.R_elder' (rs HO344) (Kd.R_base ho0) hb);have n2_:=Aside0.mk (Kd.R_elder' (rs HO348) (Kd.R_base ho0) hb);have n3_:=Aside0.mk (Kd.S_elder' (ss HO355) (Kd.R_base ho0) hb);have n4_:=Aside0.mk (Kd.S_elder' (ss HO360) (Kd.R_base ho0) hb);have n5_:=Aside0.mk (Kd.S_elder' (ss HO365) (Kd.R_base ho0) hb);have n6_:=Aside0.mk (Kd.S_elder' (ss HO370) (Kd.R_base ho0) hb);have n7_:=Aside0.mk (Kd.S_elder' (ss HO375) (Kd.R_base ho0) hb);have n8_:=Aside0.mk (Kd.R_elder' (rs HO380) (Kd.R_base ho0) hb);have n9_:=Aside0.mk (Kd.R_elder' (rs HO383) (Kd.R_base ho0) hb);have n10_:=Aside0.mk (Kd.R_lower (Kd.R_new' (Kd.R_new' (Kd.R_new' (Kd.R_new' ho0 (Kd.R_lt (rs HO344))) (Kd.R_lt (rs HO348))) (Kd.R_lt (rs HO380))) (Kd.R_lt (rs HO383))) (below_size (by repeat (first | (with_reducible first | exact HB.out | apply below_alloc | apply pw_below_drewN | apply below_drew1 | refine below_set ?_ GE345.out | refine below_set ?_ GE357.out | refine below_set ?_ GE362.out | refine below_set ?_ GE367.out | refine below_set ?_ GE372.out | refine below_set ?_ GE377.out) | exact HB.out))));have n11_:=Aside0.mk (blk_below (g:=gb345) (o:=.cells #[.slice Ao33 t339.length co33] 26 (0,0)) (bs BK345) hb);have n12_:=Aside0.mk (blk_below (g:=gb357) (o:=.cells #[.slice Ao41 t353.length co41] 26 (0,0)) (bs BK357) hb);have n13_:=Aside0.mk (blk_below (g:=gb362) (o:=.cells #[.slice Ao46 t358.length co46] 26 (0,0)) (bs BK362) hb);have n14_:=Aside0.mk (blk_below (g:=gb367) (o:=.cells #[.slice Ao53 t363.length co53] 26 (0,0)) (bs BK367) hb);have n15_:=Aside0.mk (blk_below (g:=gb372) (o:=.cells #[.slice Ao61 t368.length co61] 26 (0,0)) (bs BK372) hb);have n16_:=Aside0.mk (blk_below (g:=gb377) (o:=.cells #[.slice Ao69 t373.length co69] 26 (0,0)) (bs BK377) hb);have n17_:=Aside0.mk (below_step (by repeat (first | (with_reducible first | exact HB.out | apply below_alloc | apply pw_below_drewN | apply below_drew1 | refine below_set ?_ GE345.out | refine below_set ?_ GE357.out | refine below_set ?_ GE362.out | refine below_set ?_ GE367.out | refine below_set ?_ GE372.out | refine below_set ?_ GE377.out) | exact HB.out)) hb);clear HO341;clear HO344;clear HO348;clear HO355;clear HO360;clear HO365;clear HO370;clear HO375;clear HO380;clear HO383;clear BK345;clear BK357;clear BK362;clear BK367;clear BK372;clear BK377;clear HB;have HO341:=n0_;have HO344:=n1_;have HO348:=n2_;have HO355:=n3_;have HO360:=n4_;have HO365:=n5_;have HO370:=n6_;have HO375:=n7_;have HO380:=n8_;have HO383:=n9_;have HO387:=n10_;have BK345:=n11_;have BK357:=n12_;have BK362:=n13_;have BK367:=n14_;have BK372:=n15_;have BK377:=n16_;have HB:=n17_;clear n0_ n1_ n2_ n3_ n4_ n5_ n6_ n7_ n8_ n9_ n10_ n11_ n12_ n13_ n14_ n15_ n16_ n17_
          (try clear hb)
          (try clear hb2)
          (try clear hk)
          (try clear hi)
          (try clear ho0)
          refine hK.out _ _ ⟨(blk_cell BK357.out 0).trans rfl,(blk_cell BK362.out 0).trans rfl,(blk_cell BK367.out 0).trans rfl,(blk_cell BK377.out 0).trans rfl⟩ (fun hHeld=>?_);clear hK K;refine norm_ (a':=?_) ?_ ?_;rotate_left
          ·show Act.put _ (some 94) _ = _;simp only [Act.put,List.setIfInBounds_toArray,List.set_cons_zero,List.set_cons_succ,i64_w,i32_w];rfl
          refine one_ (i:=13) (N:=some 97) #[true,true,true,true,true,true,true,true,true,true,true,true,true,true,false,false,false,false,false,false,false,false,false,false,false,false,false,false,false,false,false,false,false,false,false,false,false] rfl rfl (one_of HT_.out (by kernel_rfl)) (by decide) (fun K hK=>?_);refine goes_ Try.func14 (by kernel_rfl) rfl #[.agg #[.slice Ao69 t373.length co69],.int .i64 t376] (by rfl) rfl rfl (by (try simp only [List.map_toArray,List.map_cons,List.map_nil]);first | done | rfl | (simp only [List.length_drop,List.length_take];rfl)) ?_;with_reducible refine (impl_AllAt.calls k _ _ t373 t376 t388 _ ?side1 ?side2 A23.out).mono ?_
          (case side1=>repeat (first | exact (Kd.S_reads' HO375.out).2.2 | (with_reducible refine Kd.C_alloc ?_ _) | (with_reducible refine Kd.C_drewN ?_ _) | (with_reducible refine Kd.C_drew ?_)))
          (case side2=>exact (Kd.S_reads' HO375.out).2.1)
          rintro e w83 ⟨v389,rfl,ho0,hb⟩;refine ⟨_,rfl,?_⟩;have n0_:=Aside0.mk (Kd.S_elder' (ss HO341) (Kd.R_base ho0) hb);have n1_:=Aside0.mk (Kd.R_elder' (rs HO344) (Kd.R_base ho0) hb);have n2_:=Aside0.mk (Kd.R_elder' (rs HO348) (Kd.R_base ho0) hb);have n3_:=Aside0.mk (Kd.S_elder' (ss HO355) (Kd.R_base ho0) hb);have n4_:=Aside0.mk (Kd.S_elder' (ss HO360) (Kd.R_base ho0) hb);have n5_:=Aside0.mk (Kd.S_elder' (ss HO365) (Kd.R_base ho0) hb);have n6_:=Aside0.mk (Kd.S_elder' (ss HO370) (Kd.R_base ho0) hb);have n7_:=Aside0.mk (Kd.S_elder' (ss HO375) (Kd.R_base ho0) hb);have n8_:=Aside0.mk (Kd.R_elder' (rs HO380) (Kd.R_base ho0) hb);have n9_:=Aside0.mk (Kd.R_elder' (rs HO383) (Kd.R_base ho0) hb);have n10_:=Aside0.mk (Kd.R_elder' (rs HO387) (Kd.R_base ho0) hb);have n11_:=Aside0.mk (Kd.R_lower (Kd.R_new' (Kd.R_new' (Kd.R_new' (Kd.R_new' (Kd.R_new' ho0 (Kd.R_lt (rs HO344))) (Kd.R_lt (rs HO348))) (Kd.R_lt (rs HO380))) (Kd.R_lt (rs HO383))) (Kd.R_lt (rs HO387))) (below_size (by repeat (first | (with_reducible first | exact HB.out | apply below_alloc | apply pw_below_drewN | apply below_drew1 | refine below_set ?_ GE345.out | refine below_set ?_ GE357.out | refine below_set ?_ GE362.out | refine below_set ?_ GE367.out | refine below_set ?_ GE372.out | refine below_set ?_ GE377.out) | exact HB.out))));have n12_:=Aside0.mk (blk_below (g:=gb345) (o:=.cells #[.slice Ao33 t339.length co33] 26 (0,0)) (bs BK345) hb);have n13_:=Aside0.mk (blk_below (g:=gb357) (o:=.cells #[.slice Ao41 t353.length co41] 26 (0,0)) (bs BK357) hb);have n14_:=Aside0.mk (blk_below (g:=gb362) (o:=.cells #[.slice Ao46 t358.length co46] 26 (0,0)) (bs BK362) hb);have n15_:=Aside0.mk (blk_below (g:=gb367) (o:=.cells #[.slice Ao53 t363.length co53] 26 (0,0)) (bs BK367) hb);have n16_:=Aside0.mk (blk_below (g:=gb372) (o:=.cells #[.slice Ao61 t368.length co61] 26 (0,0)) (bs BK372) hb);have n17_:=Aside0.mk (blk_below (g:=gb377) (o:=.cells #[.slice Ao69 t373.length co69] 26 (0,0)) (bs BK377) hb);have n18_:=Aside0.mk (below_step (by repeat (first | (with_reducible first | exact HB.out | apply below_alloc | apply pw_below_drewN | apply below_drew1 | refine below_set ?_ GE345.out | refine below_set ?_ GE357.out | refine below_set ?_ GE362.out | refine below_set ?_ GE367.out | refine below_set ?_ GE372.out | refine below_set ?_ GE377.out) | exact HB.out)) hb);clear HO341;clear HO344;clear HO348;clear HO355;clear HO360;clear HO365;clear HO370;clear HO375;clear HO380;clear HO383;clear HO387;clear BK345;clear BK357;clear BK362;clear BK367;clear BK372;clear BK377;clear HB;have HO341:=n0_;have HO344:=n1_;have HO348:=n2_;have HO355:=n3_;have HO360:=n4_;have HO365:=n5_;have HO370:=n6_;have HO375:=n7_;have HO380:=n8_;have HO383:=n9_;have HO387:=n10_;have HO390:=n11_;have BK345:=n12_;have BK357:=n13_;have BK362:=n14_;have BK367:=n15_;have BK372:=n16_;have BK377:=n17_;have HB:=n18_;clear n0_ n1_ n2_ n3_ n4_ n5_ n6_ n7_ n8_ n9_ n10_ n11_ n12_ n13_ n14_ n15_ n16_ n17_ n18_
          (try clear hb)
          (try clear hb2)
          (try clear hk)
          (try clear hi)
          (try clear ho0)
          obtain ⟨Ao84,co84,eo84⟩:=Kd.R_slice HO387.out
          (first | subst eo84 | (injection eo84 with f1_ f2_ f3_;have f4_:=f1_.symm;have f5_:=f3_.symm;clear f1_ f2_ f3_;subst f4_;subst f5_))
          obtain ⟨Ao85,co85,eo85⟩:=Kd.R_slice HO390.out
          (first | subst eo85 | (injection eo85 with f1_ f2_ f3_;have f4_:=f1_.symm;have f5_:=f3_.symm;clear f1_ f2_ f3_;subst f4_;subst f5_))
          refine hK.out _ _ ⟨(blk_cell BK357.out 0).trans rfl,(blk_cell BK362.out 0).trans rfl,(blk_cell BK367.out 0).trans rfl,(blk_cell BK377.out 0).trans rfl⟩ (fun hHeld=>?_);clear hK K;refine norm_ (a':=?_) ?_ ?_;rotate_left
          ·show Act.put _ (some 97) _ = _;simp only [Act.put,List.setIfInBounds_toArray,List.set_cons_zero,List.set_cons_succ,i64_w,i32_w];rfl
          refine one_ (i:=14) (N:=some 98) #[true,true,true,true,true,true,true,true,true,true,true,true,true,true,true,false,false,false,false,false,false,false,false,false,false,false,false,false,false,false,false,false,false,false,false,false,false] rfl rfl (one_of HT_.out (by kernel_rfl)) (by decide) (fun K hK=>?_);refine goes_ Try.func13 (by kernel_rfl) rfl #[.slice Ao84 t385.length co84,.slice Ao85 t388.length co85] (by rfl) rfl rfl (by (try simp only [List.map_toArray,List.map_cons,List.map_nil]);first | done | rfl | (simp only [List.length_drop,List.length_take];rfl)) ?_;with_reducible refine (laws_sameInts.calls k _ _ t385 _ _ t388 true _ ?side1 ?side2 ?side3 ?side4 A24.out).mono ?_
          (case side1=>repeat (first | exact (Kd.R_reads' HO387.out).2.2 | (with_reducible refine Kd.C_alloc ?_ _) | (with_reducible refine Kd.C_drewN ?_ _) | (with_reducible refine Kd.C_drew ?_)))
          (case side2=>exact (Kd.R_reads' HO387.out).2.1)
          (case side3=>repeat (first | exact (Kd.R_reads' HO390.out).2.2 | (with_reducible refine Kd.C_alloc ?_ _) | (with_reducible refine Kd.C_drewN ?_ _) | (with_reducible refine Kd.C_drew ?_)))
          (case side4=>exact (Kd.R_reads' HO390.out).2.1)
          rintro e w' ⟨rfl,⟨nd,rfl⟩⟩;refine ⟨_,rfl,?_⟩;refine hK.out _ _ ⟨(blk_cell BK357.out 0).trans rfl,(blk_cell BK362.out 0).trans rfl,(blk_cell BK367.out 0).trans rfl,(blk_cell BK377.out 0).trans rfl⟩ (fun hHeld=>?_);clear hK K;refine norm_ (a':=?_) ?_ ?_;rotate_left
          ·show Act.put _ (some 98) _ = _;simp only [Act.put,List.setIfInBounds_toArray,List.set_cons_zero,List.set_cons_succ,i64_w,i32_w];rfl
          refine pure_ (i:=15) (N:=some 99) (v:=?_) (a':=?_) #[true,true,true,true,true,true,true,true,true,true,true,true,true,true,true,true,false,false,false,false,false,false,false,false,false,false,false,false,false,false,false,false,false,false,false,false,false] rfl rfl (any_of HT_.out (by kernel_rfl)) (fun _ _ _ h=>h) (Or.inl ⟨by rfl,?_⟩) ?_ ?_;rotate_left
          ·intro w';go_simp;with_reducible rfl
          rotate_left
          ·simp only [Act.put,List.setIfInBounds_toArray,List.set_cons_zero,List.set_cons_succ,i64_w,i32_w];rfl
          refine pure_ (i:=16) (N:=some 100) (v:=?_) (a':=?_) #[true,true,true,true,true,true,true,true,true,true,true,true,true,true,true,true,true,false,false,false,false,false,false,false,false,false,false,false,false,false,false,false,false,false,false,false,false] rfl rfl (any_of HT_.out (by kernel_rfl)) (fun _ _ _ h=>h) (Or.inl ⟨by rfl,?_⟩) ?_ ?_;rotate_left
          ·intro w';go_simp;with_reducible rfl
          rotate_left
          ·simp only [Act.put,List.setIfInBounds_toArray,List.set_cons_zero,List.set_cons_succ,i64_w,i32_w];rfl
          refine pure_ (i:=18) (N:=some 102) (v:=?_) (a':=?_) #[true,true,true,true,true,true,true,true,true,true,true,true,true,true,true,true,true,false,true,false,false,false,false,false,false,false,false,false,false,false,false,false,false,false,false,false,false] rfl rfl (any_of HT_.out (by kernel_rfl)) (fun _ _ _ h=>h) (Or.inl ⟨by rfl,?_⟩) ?_ ?_;rotate_left
          ·intro w';go_simp;with_reducible rfl
          rotate_left
          ·simp only [Act.put,List.setIfInBounds_toArray,List.set_cons_zero,List.set_cons_succ,i64_w,i32_w];rfl
          refine pure_ (i:=19) (N:=some 103) (v:=?_) (a':=?_) #[true,true,true,true,true,true,true,true,true,true,true,true,true,true,true,true,true,false,true,true,false,false,false,false,false,false,false,false,false,false,false,false,false,false,false,false,false] rfl rfl (any_of HT_.out (by kernel_rfl)) (fun _ _ _ h=>h) (Or.inl ⟨by rfl,?_⟩) ?_ ?_;rotate_left
          ·intro w';go_simp;with_reducible rfl
          rotate_left
          ·simp only [Act.put,List.setIfInBounds_toArray,List.set_cons_zero,List.set_cons_succ,i64_w,i32_w];rfl
          refine take_ (i:=17) (N:=some 101) (v:=?_) (a':=?_) #[true,true,true,true,true,true,true,true,true,true,true,true,true,true,true,true,true,true,true,true,false,false,false,false,false,false,false,false,false,false,false,false,false,false,false,false,false] rfl rfl (take_ofW HT_.out HW_.out (by kernel_rfl)) (fun _ _ _ h=>h) (Or.inl ⟨by rfl,?_⟩) hHeld ?_ ?_;rotate_left
          ·rintro w' ⟨s0,s1,s2,s3⟩;go_simp;with_reducible rfl
          rotate_left
          ·simp only [Act.put,List.setIfInBounds_toArray,List.set_cons_zero,List.set_cons_succ,i64_w,i32_w];rfl
          refine one_ (i:=20) (N:=some 104) #[true,true,true,true,true,true,true,true,true,true,true,true,true,true,true,true,true,true,true,true,true,false,false,false,false,false,false,false,false,false,false,false,false,false,false,false,false] rfl rfl (one_of HT_.out (by kernel_rfl)) (by decide) (fun K hK=>?_);refine goes_ Try.func11 (by kernel_rfl) rfl #[.agg #[.slice Ao53 t363.length co53],.int .i64 t366,.int .i64 (Int.tmod (rd t346 1) 16)] (by rfl) rfl rfl (by (try simp only [List.map_toArray,List.map_cons,List.map_nil]);first | done | rfl | (simp only [List.length_drop,List.length_take];rfl)) ?_;with_reducible refine (impl_GetAt.calls k _ _ t363 t366 (Int.tmod (rd t346 1) 16) t392 _ ?side1 ?side2 A26.out).mono ?_
          (case side1=>repeat (first | exact (Kd.S_reads' HO365.out).2.2 | (with_reducible refine Kd.C_alloc ?_ _) | (with_reducible refine Kd.C_drewN ?_ _) | (with_reducible refine Kd.C_drew ?_)))
          (case side2=>exact (Kd.S_reads' HO365.out).2.1)
          rintro e w86 ⟨rfl,hb⟩;refine ⟨_,rfl,?_⟩;have n0_:=Aside0.mk (Kd.S_below (ss HO341) hb);have n1_:=Aside0.mk (Kd.R_below (rs HO344) hb);have n2_:=Aside0.mk (Kd.R_below (rs HO348) hb);have n3_:=Aside0.mk (Kd.S_below (ss HO355) hb);have n4_:=Aside0.mk (Kd.S_below (ss HO360) hb);have n5_:=Aside0.mk (Kd.S_below (ss HO365) hb);have n6_:=Aside0.mk (Kd.S_below (ss HO370) hb);have n7_:=Aside0.mk (Kd.S_below (ss HO375) hb);have n8_:=Aside0.mk (Kd.R_below (rs HO380) hb);have n9_:=Aside0.mk (Kd.R_below (rs HO383) hb);have n10_:=Aside0.mk (Kd.R_below (rs HO387) hb);have n11_:=Aside0.mk (Kd.R_below (rs HO390) hb);have n12_:=Aside0.mk (blk_below (g:=gb345) (o:=.cells #[.slice Ao33 t339.length co33] 26 (0,0)) (bs BK345) hb);have n13_:=Aside0.mk (blk_below (g:=gb357) (o:=.cells #[.slice Ao41 t353.length co41] 26 (0,0)) (bs BK357) hb);have n14_:=Aside0.mk (blk_below (g:=gb362) (o:=.cells #[.slice Ao46 t358.length co46] 26 (0,0)) (bs BK362) hb);have n15_:=Aside0.mk (blk_below (g:=gb367) (o:=.cells #[.slice Ao53 t363.length co53] 26 (0,0)) (bs BK367) hb);have n16_:=Aside0.mk (blk_below (g:=gb372) (o:=.cells #[.slice Ao61 t368.length co61] 26 (0,0)) (bs BK372) hb);have n17_:=Aside0.mk (blk_below (g:=gb377) (o:=.cells #[.slice Ao69 t373.length co69] 26 (0,0)) (bs BK377) hb);have n18_:=Aside0.mk (below_step (by repeat (first | (with_reducible first | exact HB.out | apply below_alloc | apply pw_below_drewN | apply below_drew1 | refine below_set ?_ GE345.out | refine below_set ?_ GE357.out | refine below_set ?_ GE362.out | refine below_set ?_ GE367.out | refine below_set ?_ GE372.out | refine below_set ?_ GE377.out) | exact HB.out)) hb);clear HO341;clear HO344;clear HO348;clear HO355;clear HO360;clear HO365;clear HO370;clear HO375;clear HO380;clear HO383;clear HO387;clear HO390;clear BK345;clear BK357;clear BK362;clear BK367;clear BK372;clear BK377;clear HB;have HO341:=n0_;have HO344:=n1_;have HO348:=n2_;have HO355:=n3_;have HO360:=n4_;have HO365:=n5_;have HO370:=n6_;have HO375:=n7_;have HO380:=n8_;have HO383:=n9_;have HO387:=n10_;have HO390:=n11_;have BK345:=n12_;have BK357:=n13_;have BK362:=n14_;have BK367:=n15_;have BK372:=n16_;have BK377:=n17_;have HB:=n18_;clear n0_ n1_ n2_ n3_ n4_ n5_ n6_ n7_ n8_ n9_ n10_ n11_ n12_ n13_ n14_ n15_ n16_ n17_ n18_
          (try clear hb)
          (try clear hb2)
          (try clear hk)
          (try clear hi)
          refine hK.out _ _ ⟨(blk_cell BK357.out 0).trans rfl,(blk_cell BK362.out 0).trans rfl,(blk_cell BK367.out 0).trans rfl,(blk_cell BK377.out 0).trans rfl⟩ (fun hHeld=>?_);clear hK K;refine norm_ (a':=?_) ?_ ?_;rotate_left
          ·show Act.put _ (some 104) _ = _;simp only [Act.put,List.setIfInBounds_toArray,List.set_cons_zero,List.set_cons_succ,i64_w,i32_w];rfl
          refine pure_ (i:=21) (N:=some 105) (v:=?_) (a':=?_) #[true,true,true,true,true,true,true,true,true,true,true,true,true,true,true,true,true,true,true,true,true,true,false,false,false,false,false,false,false,false,false,false,false,false,false,false,false] rfl rfl (any_of HT_.out (by kernel_rfl)) (fun _ _ _ h=>h) (Or.inl ⟨by rfl,?_⟩) ?_ ?_;rotate_left
          ·intro w';go_simp;with_reducible rfl
          rotate_left
          ·simp only [Act.put,List.setIfInBounds_toArray,List.set_cons_zero,List.set_cons_succ,i64_w,i32_w];rfl
          refine pure_ (i:=22) (N:=some 106) (v:=?_) (a':=?_) #[true,true,true,true,true,true,true,true,true,true,true,true,true,true,true,true,true,true,true,true,true,true,true,false,false,false,false,false,false,false,false,false,false,false,false,false,false] rfl rfl (any_of HT_.out (by kernel_rfl)) (fun _ _ _ h=>h) (Or.inl ⟨by rfl,?_⟩) ?_ ?_;rotate_left
          ·intro w';go_simp;with_reducible rfl
          rotate_left
          ·simp only [Act.put,List.setIfInBounds_toArray,List.set_cons_zero,List.set_cons_succ,i64_w,i32_w];rfl
          refine pure_ (i:=23) (N:=some 107) (v:=?_) (a':=?_) #[true,true,true,true,true,true,true,true,true,true,true,true,true,true,true,true,true,true,true,true,true,true,true,true,false,false,false,false,false,false,false,false,false,false,false,false,false] rfl rfl (any_of HT_.out (by kernel_rfl)) (fun _ _ _ h=>h) (Or.inl ⟨by rfl,?_⟩) ?_ ?_;rotate_left
          ·intro w';go_simp;with_reducible rfl
          rotate_left
          ·simp only [Act.put,List.setIfInBounds_toArray,List.set_cons_zero,List.set_cons_succ,i64_w,i32_w];rfl
          refine pure_ (i:=25) (N:=some 109) (v:=?_) (a':=?_) #[true,true,true,true,true,true,true,true,true,true,true,true,true,true,true,true,true,true,true,true,true,true,true,true,false,true,false,false,false,false,false,false,false,false,false,false,false] rfl rfl (any_of HT_.out (by kernel_rfl)) (fun _ _ _ h=>h) (Or.inl ⟨by rfl,?_⟩) ?_ ?_;rotate_left
          ·intro w';go_simp;with_reducible rfl
          rotate_left
          ·simp only [Act.put,List.setIfInBounds_toArray,List.set_cons_zero,List.set_cons_succ,i64_w,i32_w];rfl
          refine pure_ (i:=26) (N:=some 110) (v:=?_) (a':=?_) #[true,true,true,true,true,true,true,true,true,true,true,true,true,true,true,true,true,true,true,true,true,true,true,true,false,true,true,false,false,false,false,false,false,false,false,false,false] rfl rfl (any_of HT_.out (by kernel_rfl)) (fun _ _ _ h=>h) (Or.inl ⟨by rfl,?_⟩) ?_ ?_;rotate_left
          ·intro w';go_simp;with_reducible rfl
          rotate_left
          ·simp only [Act.put,List.setIfInBounds_toArray,List.set_cons_zero,List.set_cons_succ,i64_w,i32_w];rfl
          refine take_ (i:=24) (N:=some 108) (v:=?_) (a':=?_) #[true,true,true,true,true,true,true,true,true,true,true,true,true,true,true,true,true,true,true,true,true,true,true,true,true,true,true,false,false,false,false,false,false,false,false,false,false] rfl rfl (take_ofW HT_.out HW_.out (by kernel_rfl)) (fun _ _ _ h=>h) (Or.inl ⟨by rfl,?_⟩) hHeld ?_ ?_;rotate_left
          ·rintro w' ⟨s0,s1,s2,s3⟩;go_simp;with_reducible rfl
          rotate_left
          ·simp only [Act.put,List.setIfInBounds_toArray,List.set_cons_zero,List.set_cons_succ,i64_w,i32_w];rfl
          refine one_ (i:=27) (N:=some 111) #[true,true,true,true,true,true,true,true,true,true,true,true,true,true,true,true,true,true,true,true,true,true,true,true,true,true,true,true,false,false,false,false,false,false,false,false,false] rfl rfl (one_of HT_.out (by kernel_rfl)) (by decide) (fun K hK=>?_);refine goes_ Try.func11 (by kernel_rfl) rfl #[.agg #[.slice Ao53 t363.length co53],.int .i64 t366,.int .i64 (Int.tmod (wrap64 ((wrap64 ((Int.tmod (rd t346 1) 16) + 1)) + (Int.tmod (rd t346 2) 15))) 16)] (by rfl) rfl rfl (by (try simp only [List.map_toArray,List.map_cons,List.map_nil]);first | done | rfl | (simp only [List.length_drop,List.length_take];rfl)) ?_;with_reducible refine (impl_GetAt.calls k _ _ t363 t366 (Int.tmod (wrap64 ((wrap64 ((Int.tmod (rd t346 1) 16) + 1)) + (Int.tmod (rd t346 2) 15))) 16) t393 _ ?side1 ?side2 A28.out).mono ?_
          (case side1=>repeat (first | exact (Kd.S_reads' HO365.out).2.2 | (with_reducible refine Kd.C_alloc ?_ _) | (with_reducible refine Kd.C_drewN ?_ _) | (with_reducible refine Kd.C_drew ?_)))
          (case side2=>exact (Kd.S_reads' HO365.out).2.1)
          rintro e w87 ⟨rfl,hb⟩;refine ⟨_,rfl,?_⟩;have n0_:=Aside0.mk (Kd.S_below (ss HO341) hb);have n1_:=Aside0.mk (Kd.R_below (rs HO344) hb);have n2_:=Aside0.mk (Kd.R_below (rs HO348) hb);have n3_:=Aside0.mk (Kd.S_below (ss HO355) hb);have n4_:=Aside0.mk (Kd.S_below (ss HO360) hb);have n5_:=Aside0.mk (Kd.S_below (ss HO365) hb);have n6_:=Aside0.mk (Kd.S_below (ss HO370) hb);have n7_:=Aside0.mk (Kd.S_below (ss HO375) hb);have n8_:=Aside0.mk (Kd.R_below (rs HO380) hb);have n9_:=Aside0.mk (Kd.R_below (rs HO383) hb);have n10_:=Aside0.mk (Kd.R_below (rs HO387) hb);have n11_:=Aside0.mk (Kd.R_below (rs HO390) hb);have n12_:=Aside0.mk (blk_below (g:=gb345) (o:=.cells #[.slice Ao33 t339.length co33] 26 (0,0)) (bs BK345) hb);have n13_:=Aside0.mk (blk_below (g:=gb357) (o:=.cells #[.slice Ao41 t353.length co41] 26 (0,0)) (bs BK357) hb);have n14_:=Aside0.mk (blk_below (g:=gb362) (o:=.cells #[.slice Ao46 t358.length co46] 26 (0,0)) (bs BK362) hb);have n15_:=Aside0.mk (blk_below (g:=gb367) (o:=.cells #[.slice Ao53 t363.length co53] 26 (0,0)) (bs BK367) hb);have n16_:=Aside0.mk (blk_below (g:=gb372) (o:=.cells #[.slice Ao61 t368.length co61] 26 (0,0)) (bs BK372) hb);have n17_:=Aside0.mk (blk_below (g:=gb377) (o:=.cells #[.slice Ao69 t373.length co69] 26 (0,0)) (bs BK377) hb);have n18_:=Aside0.mk (below_step (by repeat (first | (with_reducible first | exact HB.out | apply below_alloc | apply pw_below_drewN | apply below_drew1 | refine below_set ?_ GE345.out | refine below_set ?_ GE357.out | refine below_set ?_ GE362.out | refine below_set ?_ GE367.out | refine below_set ?_ GE372.out | refine below_set ?_ GE377.out) | exact HB.out)) hb);clear HO341;clear HO344;clear HO348;clear HO355;clear HO360;clear HO365;clear HO370;clear HO375;clear HO380;clear HO383;clear HO387;clear HO390;clear BK345;clear BK357;clear BK362;clear BK367;clear BK372;clear BK377;clear HB;have HO341:=n0_;have HO344:=n1_;have HO348:=n2_;have HO355:=n3_;have HO360:=n4_;have HO365:=n5_;have HO370:=n6_;have HO375:=n7_;have HO380:=n8_;have HO383:=n9_;have HO387:=n10_;have HO390:=n11_;have BK345:=n12_;have BK357:=n13_;have BK362:=n14_;have BK367:=n15_;have BK372:=n16_;have BK377:=n17_;have HB:=n18_;clear n0_ n1_ n2_ n3_ n4_ n5_ n6_ n7_ n8_ n9_ n10_ n11_ n12_ n13_ n14_ n15_ n16_ n17_ n18_
          (try clear hb)
          (try clear hb2)
          (try clear hk)
          (try clear hi)
          refine hK.out _ _ ⟨(blk_cell BK357.out 0).trans rfl,(blk_cell BK362.out 0).trans rfl,(blk_cell BK367.out 0).trans rfl,(blk_cell BK377.out 0).trans rfl⟩ (fun hHeld=>?_);clear hK K;refine norm_ (a':=?_) ?_ ?_;rotate_left
          ·show Act.put _ (some 111) _ = _;simp only [Act.put,List.setIfInBounds_toArray,List.set_cons_zero,List.set_cons_succ,i64_w,i32_w];rfl
          refine pure_ (i:=28) (N:=some 112) (v:=?_) (a':=?_) #[true,true,true,true,true,true,true,true,true,true,true,true,true,true,true,true,true,true,true,true,true,true,true,true,true,true,true,true,true,false,false,false,false,false,false,false,false] rfl rfl (any_of HT_.out (by kernel_rfl)) (fun _ _ _ h=>h) (Or.inl ⟨by rfl,?_⟩) ?_ ?_;rotate_left
          ·intro w';go_simp;with_reducible rfl
          rotate_left
          ·simp only [Act.put,List.setIfInBounds_toArray,List.set_cons_zero,List.set_cons_succ,i64_w,i32_w];rfl
          refine pure_ (i:=29) (N:=some 113) (v:=?_) (a':=?_) #[true,true,true,true,true,true,true,true,true,true,true,true,true,true,true,true,true,true,true,true,true,true,true,true,true,true,true,true,true,true,false,false,false,false,false,false,false] rfl rfl (any_of HT_.out (by kernel_rfl)) (fun _ _ _ h=>h) (Or.inl ⟨by rfl,?_⟩) ?_ ?_;rotate_left
          ·intro w';go_simp;with_reducible rfl
          rotate_left
          ·simp only [Act.put,List.setIfInBounds_toArray,List.set_cons_zero,List.set_cons_succ,i64_w,i32_w];rfl
          refine pure_ (i:=30) (N:=some 114) (v:=?_) (a':=?_) #[true,true,true,true,true,true,true,true,true,true,true,true,true,true,true,true,true,true,true,true,true,true,true,true,true,true,true,true,true,true,true,false,false,false,false,false,false] rfl rfl (any_of HT_.out (by kernel_rfl)) (fun _ _ _ h=>h) (Or.inl ⟨by rfl,?_⟩) ?_ ?_;rotate_left
          ·intro w';go_simp;with_reducible rfl
          rotate_left
          ·simp only [Act.put,List.setIfInBounds_toArray,List.set_cons_zero,List.set_cons_succ,i64_w,i32_w];rfl
          refine pure_ (i:=32) (N:=some 116) (v:=?_) (a':=?_) #[true,true,true,true,true,true,true,true,true,true,true,true,true,true,true,true,true,true,true,true,true,true,true,true,true,true,true,true,true,true,true,false,true,false,false,false,false] rfl rfl (any_of HT_.out (by kernel_rfl)) (fun _ _ _ h=>h) (Or.inl ⟨by rfl,?_⟩) ?_ ?_;rotate_left
          ·intro w';go_simp;with_reducible rfl
          rotate_left
          ·simp only [Act.put,List.setIfInBounds_toArray,List.set_cons_zero,List.set_cons_succ,i64_w,i32_w];rfl
          refine take_ (i:=31) (N:=some 115) (v:=?_) (a':=?_) #[true,true,true,true,true,true,true,true,true,true,true,true,true,true,true,true,true,true,true,true,true,true,true,true,true,true,true,true,true,true,true,true,true,false,false,false,false] rfl rfl (take_ofW HT_.out HW_.out (by kernel_rfl)) (fun _ _ _ h=>h) (Or.inl ⟨by rfl,?_⟩) hHeld ?_ ?_;rotate_left
          ·rintro w' ⟨s0,s1,s2,s3⟩;go_simp;with_reducible rfl
          rotate_left
          ·simp only [Act.put,List.setIfInBounds_toArray,List.set_cons_zero,List.set_cons_succ,i64_w,i32_w];rfl
          refine one_ (i:=33) (N:=some 117) #[true,true,true,true,true,true,true,true,true,true,true,true,true,true,true,true,true,true,true,true,true,true,true,true,true,true,true,true,true,true,true,true,true,true,false,false,false] rfl rfl (one_of HT_.out (by kernel_rfl)) (by decide) (fun K hK=>?_);refine goes_ Try.func11 (by kernel_rfl) rfl #[.agg #[.slice Ao69 t373.length co69],.int .i64 t376,.int .i64 99] (by rfl) rfl rfl (by (try simp only [List.map_toArray,List.map_cons,List.map_nil]);first | done | rfl | (simp only [List.length_drop,List.length_take];rfl)) ?_;with_reducible refine (impl_GetAt.calls k _ _ t373 t376 99 t394 _ ?side1 ?side2 A30.out).mono ?_
          (case side1=>repeat (first | exact (Kd.S_reads' HO375.out).2.2 | (with_reducible refine Kd.C_alloc ?_ _) | (with_reducible refine Kd.C_drewN ?_ _) | (with_reducible refine Kd.C_drew ?_)))
          (case side2=>exact (Kd.S_reads' HO375.out).2.1)
          rintro e w88 ⟨rfl,hb⟩;refine ⟨_,rfl,?_⟩;have n0_:=Aside0.mk (Kd.S_below (ss HO341) hb);have n1_:=Aside0.mk (Kd.R_below (rs HO344) hb);have n2_:=Aside0.mk (Kd.R_below (rs HO348) hb);have n3_:=Aside0.mk (Kd.S_below (ss HO355) hb);have n4_:=Aside0.mk (Kd.S_below (ss HO360) hb);have n5_:=Aside0.mk (Kd.S_below (ss HO365) hb);have n6_:=Aside0.mk (Kd.S_below (ss HO370) hb);have n7_:=Aside0.mk (Kd.S_below (ss HO375) hb);have n8_:=Aside0.mk (Kd.R_below (rs HO380) hb);have n9_:=Aside0.mk (Kd.R_below (rs HO383) hb);have n10_:=Aside0.mk (Kd.R_below (rs HO387) hb);have n11_:=Aside0.mk (Kd.R_below (rs HO390) hb);have n12_:=Aside0.mk (blk_below (g:=gb345) (o:=.cells #[.slice Ao33 t339.length co33] 26 (0,0)) (bs BK345) hb);have n13_:=Aside0.mk (blk_below (g:=gb357) (o:=.cells #[.slice Ao41 t353.length co41] 26 (0,0)) (bs BK357) hb);have n14_:=Aside0.mk (blk_below (g:=gb362) (o:=.cells #[.slice Ao46 t358.length co46] 26 (0,0)) (bs BK362) hb);have n15_:=Aside0.mk (blk_below (g:=gb367) (o:=.cells #[.slice Ao53 t363.length co53] 26 (0,0)) (bs BK367) hb);have n16_:=Aside0.mk (blk_below (g:=gb372) (o:=.cells #[.slice Ao61 t368.length co61] 26 (0,0)) (bs BK372) hb);have n17_:=Aside0.mk (blk_below (g:=gb377) (o:=.cells #[.slice Ao69 t373.length co69] 26 (0,0)) (bs BK377) hb);have n18_:=Aside0.mk (below_step (by repeat (first | (with_reducible first | exact HB.out | apply below_alloc | apply pw_below_drewN | apply below_drew1 | refine below_set ?_ GE345.out | refine below_set ?_ GE357.out | refine below_set ?_ GE362.out | refine below_set ?_ GE367.out | refine below_set ?_ GE372.out | refine below_set ?_ GE377.out) | exact HB.out)) hb);clear HO341;clear HO344;clear HO348;clear HO355;clear HO360;clear HO365;clear HO370;clear HO375;clear HO380;clear HO383;clear HO387;clear HO390;clear BK345;clear BK357;clear BK362;clear BK367;clear BK372;clear BK377;clear HB;have HO341:=n0_;have HO344:=n1_;have HO348:=n2_;have HO355:=n3_;have HO360:=n4_;have HO365:=n5_;have HO370:=n6_;have HO375:=n7_;have HO380:=n8_;have HO383:=n9_;have HO387:=n10_;have HO390:=n11_;have BK345:=n12_;have BK357:=n13_;have BK362:=n14_;have BK367:=n15_;have BK372:=n16_;have BK377:=n17_;have HB:=n18_;clear n0_ n1_ n2_ n3_ n4_ n5_ n6_ n7_ n8_ n9_ n10_ n11_ n12_ n13_ n14_ n15_ n16_ n17_ n18_
          (try clear hb)
          (try clear hb2)
          (try clear hk)
          (try clear hi)
          refine hK.out _ _ ⟨(blk_cell BK357.out 0).trans rfl,(blk_cell BK362.out 0).trans rfl,(blk_cell BK367.out 0).trans rfl,(blk_cell BK377.out 0).trans rfl⟩ (fun hHeld=>?_);clear hK K;refine norm_ (a':=?_) ?_ ?_;rotate_left
          ·show Act.put _ (some 117) _ = _;simp only [Act.put,List.setIfInBounds_toArray,List.set_cons_zero,List.set_cons_succ,i64_w,i32_w];rfl
          refine pure_ (i:=34) (N:=some 118) (v:=?_) (a':=?_) #[true,true,true,true,true,true,true,true,true,true,true,true,true,true,true,true,true,true,true,true,true,true,true,true,true,true,true,true,true,true,true,true,true,true,true,false,false] rfl rfl (any_of HT_.out (by kernel_rfl)) (fun _ _ _ h=>h) (Or.inl ⟨by rfl,?_⟩) ?_ ?_;rotate_left
          ·intro w';go_simp;with_reducible rfl
          rotate_left
          ·simp only [Act.put,List.setIfInBounds_toArray,List.set_cons_zero,List.set_cons_succ,i64_w,i32_w];rfl
          refine pure_ (i:=35) (N:=some 119) (v:=?_) (a':=?_) #[true,true,true,true,true,true,true,true,true,true,true,true,true,true,true,true,true,true,true,true,true,true,true,true,true,true,true,true,true,true,true,true,true,true,true,true,false] rfl rfl (any_of HT_.out (by kernel_rfl)) (fun _ _ _ h=>h) (Or.inl ⟨by rfl,?_⟩) ?_ ?_;rotate_left
          ·intro w';go_simp;with_reducible rfl
          rotate_left
          ·simp only [Act.put,List.setIfInBounds_toArray,List.set_cons_zero,List.set_cons_succ,i64_w,i32_w];rfl
          refine pure_ (i:=36) (N:=some 2) (v:=?_) (a':=?_) #[true,true,true,true,true,true,true,true,true,true,true,true,true,true,true,true,true,true,true,true,true,true,true,true,true,true,true,true,true,true,true,true,true,true,true,true,true] rfl rfl (any_of HT_.out (by kernel_rfl)) (fun _ _ _ h=>h) (Or.inl ⟨by rfl,?_⟩) ?_ ?_;rotate_left
          ·intro w';go_simp;with_reducible rfl
          rotate_left
          ·simp only [Act.put,List.setIfInBounds_toArray,List.set_cons_zero,List.set_cons_succ,i64_w,i32_w];rfl
          refine done_ (done_of HT_.out (by kernel_rfl)) ?_
          try go_wp2
          go_ret
          exact ⟨by first | rfl | (simp [errW_none,errW_some] <;> rfl) | (simp only [← hji8];first | rfl | (simp [errW_none,errW_some] <;> rfl)) | (simp [*,errW_none,errW_some] <;> rfl),by repeat (first | (with_reducible first | exact HB.out | apply below_alloc | apply pw_below_drewN | apply below_drew1 | refine below_set ?_ GE345.out | refine below_set ?_ GE357.out | refine below_set ?_ GE362.out | refine below_set ?_ GE367.out | refine below_set ?_ GE372.out | refine below_set ?_ GE377.out) | exact HB.out)⟩
         rw [if_neg c29] at H;have c29b0 : (t393 == 6) = false:=beq_eq_false_iff_ne.mpr c29;have c29b1 : (t393 != 6) = true:=bne_iff_ne.mpr c29;exact absurd ((Option.some.inj H).trans hT.out) (by decide)
        rw [if_neg c27] at H;have c27b0 : (t392 == 5) = false:=beq_eq_false_iff_ne.mpr c27;have c27b1 : (t392 != 5) = true:=bne_iff_ne.mpr c27;exact absurd ((Option.some.inj H).trans hT.out) (by decide)
       replace c25:=Bool.eq_false_iff.mpr c25;subst c25;have H1 : (some false) = some r:=by rw [if_neg (show ¬ (false = true) by decide)] at H;exact H
       clear H;have H:=H1;clear H1;exact absurd ((Option.some.inj H).trans hT.out) (by decide)
      replace c21:=Bool.eq_false_iff.mpr c21;subst c21;have H1 : (some false) = some r:=by rw [if_neg (show ¬ (false = true) by decide)] at H;exact H
      clear H;have H:=H1;clear H1;exact absurd ((Option.some.inj H).trans hT.out) (by decide)
     rw [if_neg c12] at H;exact absurd H (by simp)
    rw [if_neg c11] at H;exact absurd H (by simp)
   rw [if_neg c10] at H;exact absurd H (by simp)
  rw [if_neg c9] at H;exact absurd H (by simp)
 rw [if_neg c6] at H;exact absurd H (by simp)
def laws_FnPutsAgain.Pure : Prop:=∀ (l0 : List Int),l0.length ≤ maxLen → l0.length * 1 ≤ 140737488351232 → (∀ x ∈ l0,(Lit.int .u8 x).wf = true) → ∃ k,laws_FnPutsAgain.f k l0 = some true
theorem laws_FnPutsAgain.walk (P : laws_FnPutsAgain.Pure) (a0 : Option Addr) (len0 cap0 : Nat) (z0 : List Int) (w : World) (w0 : (a0 = none ∧ len0 = 0 ∧ cap0 = 0 ∧ z0 = []) ∨ ∃ x,a0 = some x ∧ len0 ≤ cap0 ∧ cap0 ≤ maxLen ∧ z0.length = cap0 ∧ (∀ i,i < z0.length → w.cell? (x.add i) = some (.int .u8 (z0.getD i 0))) ∧ ∀ n ∈ z0,(Lit.int .u8 n).wf = true) (y0 : len0 * 1 ≤ 140737488351232) :
  Calls Try.prog 4 #[.slice a0 len0 cap0] w fun e w'=>e = .returned (.bool true) ∧ Below w.heap.size w w':=by
 obtain ⟨l0,rfl,hr0,hm0,hw0,hc0⟩:=ReadsInt.ofRowC w0;obtain ⟨k,h⟩:=P l0 hm0 y0 hw0;refine (laws_FnPutsAgain.calls k _ _ l0 true ⟨rfl⟩ w (Kd.C_of_reads (d:=(0 : Int)) (h1:=fun _=>rfl) hr0) hc0 h).mono ?_;rintro e w' ⟨rfl,hd⟩;exact ⟨rfl,hd⟩
end Go.Proofs.Ytjpjikhokpfhmaa.PT

/- Plain facts on rounds, lists and whole numbers, for the pure statements. -/
namespace Go.Proofs.Ytjpjikhokpfhmaa.Pu
set_option linter.unusedVariables false
set_option linter.unusedSimpArgs false
open Go.RowKit Go.Proofs.YtjpjikhokpfhmaaW.PrintWords

theorem w64 {x : Int} (h1 : -9223372036854775808 ≤ x) (h2 : x ≤ 9223372036854775807) : wrap64 x = x := by
  unfold wrap64; omega
theorem wsucc {i n : Nat} (h : i < n) (hn : n ≤ 9223372036854775807) : wrap64 ((i : Int) + 1) = ((i + 1 : Nat) : Int) := by
  rw [w64 (by omega) (by omega)]; rfl
theorem wf_i64 {n : Int} (h : (Lit.int .i64 n).wf = true) : -9223372036854775808 ≤ n ∧ n ≤ 9223372036854775807 := by
  simp only [Lit.wf, Bool.and_eq_true, decide_eq_true_eq] at h
  have h1 : IntKind.min .i64 = -9223372036854775808 := by decide
  have h2 : IntKind.max .i64 = 9223372036854775807 := by decide
  omega

/-- Rounds: what is told, a step on. -/
theorem ev_some {α : Type} {g : Nat → Option α} {r : α} (h : ∀ k, g (k + 1) = some r) : Ev g r := Ev.step h (Ev.now r)
theorem ev_const {α : Type} {o : Option α} {r : α} (h : o = some r) : Ev (fun _ => o) r := ⟨0, fun _ _ => h⟩
theorem ev_bind {α β : Type} {g : Nat → Option α} {f : Nat → α → Option β} {a : α} {r : β} (h : Ev g a) (k : Ev (fun n => f n a) r) : Ev (fun n => (g n).bind (f n)) r := Ev.bind h k
theorem ev_uniq {α : Type} {g : Nat → Option α} {a b : α} (h : Ev g a) (k : Ev g b) : a = b := by
  obtain ⟨K, hK⟩ := h
  obtain ⟨M, hM⟩ := k
  have h1 := hK (max K M) (Nat.le_max_left _ _)
  rw [hM (max K M) (Nat.le_max_right _ _)] at h1
  injection h1 with h1
  exact h1.symm
theorem ev_ext {α : Type} {g f : Nat → Option α} {r : α} (h : ∀ k, g k = f k) (k : Ev f r) : Ev g r := Ev.congr h k

/-- A row that is made and filled, place by place. -/
theorem ev_fill {β : Type} {L : Nat → List β → Int → Option (List β)} {E : Nat → Int → Option β} {n : Nat} {e : Nat → β} (hn : n ≤ 9223372036854775807)
    (hs : ∀ k xs i, L (k + 1) xs i = if i < (n : Int) then (if 0 ≤ i then ((E k i).bind fun b => if i < (xs.length : Int) then L k (xs.set i.toNat b) (wrap64 (i + 1)) else none) else none) else some xs)
    (hE : ∀ i, i < n → Ev (fun k => E k (i : Int)) (e i)) :
    ∀ (d i : Nat) (xs : List β), xs.length = n → i + d = n → Ev (fun k => L k xs (i : Int)) (xs.take i ++ (List.range' i d).map e) := by
  intro d
  induction d with
  | zero =>
    intro i xs hl hi
    refine ev_some fun k => ?_
    rw [hs, if_neg (by omega)]
    simp [List.take_of_length_le (show xs.length ≤ i by omega)]
  | succ d ih =>
    intro i xs hl hi
    refine Ev.step (f := fun k => (E k (i : Int)).bind fun b => L k (xs.set i b) ((i + 1 : Nat) : Int)) (fun k => ?_) ?_
    · rw [hs, if_pos (by omega), if_pos (by omega), wsucc (n := n) (by omega) hn]
      congr 1
      funext b
      rw [if_pos (by omega)]
      rfl
    · refine ev_bind (hE i (by omega)) ?_
      have h := ih (i + 1) (xs.set i (e i)) (by rw [List.length_set]; exact hl) (by omega)
      have e1 : (xs.set i (e i)).take (i + 1) ++ (List.range' (i + 1) d).map e = xs.take i ++ (List.range' i (d + 1)).map e := by
        rw [List.range'_succ, List.map_cons, List.take_succ_eq_append_getElem (by rw [List.length_set]; omega), List.getElem_set_self, List.take_set_of_le (Nat.le_refl _)]
        simp
      rw [e1] at h
      exact h
theorem map_range {α β : Type} (l : List α) (z : α) (g : α → β) : (List.range' 0 l.length).map (fun i => g (l.getD i z)) = l.map g := by
  apply List.ext_getElem
  · simp
  · intro i h1 h2
    simp only [List.length_map] at h2
    simp [List.getD_eq_getElem?_getD, List.getElem?_eq_getElem h2]
theorem ev_fill_all {α β : Type} {L : Nat → List β → Int → Option (List β)} {E : Nat → Int → Option β} {l : List α} {z : α} {g : α → β} {xs : List β} (hn : l.length ≤ 9223372036854775807)
    (hs : ∀ k xs i, L (k + 1) xs i = if i < (l.length : Int) then (if 0 ≤ i then ((E k i).bind fun b => if i < (xs.length : Int) then L k (xs.set i.toNat b) (wrap64 (i + 1)) else none) else none) else some xs)
    (hE : ∀ i, i < l.length → Ev (fun k => E k (i : Int)) (g (l.getD i z))) (hx : xs.length = l.length) : Ev (fun k => L k xs 0) (l.map g) := by
  have h := ev_fill (e := fun i => g (l.getD i z)) hn hs hE l.length 0 xs hx (by omega)
  rw [map_range] at h
  simpa using h

/-- Every place meets a test, tried place by place. -/
theorem ev_all {L E : Nat → Int → Option Bool} {n m : Nat} (hn : n ≤ 9223372036854775807) (hnm : n ≤ m)
    (hs : ∀ k i, L (k + 1) i = if i < (n : Int) then (if 0 ≤ i then (if i < (m : Int) then ((E k i).bind fun b => if b = true then L k (wrap64 (i + 1)) else some false) else none) else none) else some true)
    (hE : ∀ i, i < n → Ev (fun k => E k (i : Int)) true) : ∀ (d i : Nat), i + d = n → Ev (fun k => L k (i : Int)) true := by
  intro d
  induction d with
  | zero => intro i hi; exact ev_some fun k => by rw [hs, if_neg (by omega)]
  | succ d ih =>
    intro i hi
    refine Ev.step (f := fun k => (E k (i : Int)).bind fun b => if b = true then L k ((i + 1 : Nat) : Int) else some false) (fun k => ?_) (ev_bind (hE i (by omega)) (by simpa using ih (i + 1) (by omega)))
    rw [hs, if_pos (by omega), if_pos (by omega), if_pos (by omega), wsucc (n := n) (by omega) hn]

/-- What is left of a number, place by place, as long as it is not below 0. -/
theorem ev_size {L E : Nat → Int → Int → Option Int} {n : Nat} {P : Nat → Prop} (hn : n ≤ 9223372036854775807)
    (hs : ∀ k a i, L (k + 1) a i = if i < (n : Int) then (if 0 ≤ i then ((E k i a).bind fun t => if t < 0 then some (-1) else L k t (wrap64 (i + 1))) else none) else some a)
    (hE : ∀ i a, i < n → 0 ≤ a → a ≤ 1048576 → ∃ t, Ev (fun k => E k (i : Int) a) t ∧ t ≤ a ∧ (0 ≤ t → P i)) :
    ∀ (d i : Nat) (a : Int), i + d = n → 0 ≤ a → a ≤ 1048576 → ∃ r, Ev (fun k => L k a (i : Int)) r ∧ r ≤ a ∧ (0 ≤ r → ∀ m, i ≤ m → m < n → P m) := by
  intro d
  induction d with
  | zero => intro i a hi h0 h1; exact ⟨a, ev_some fun k => by rw [hs, if_neg (by omega)], Int.le_refl _, fun _ m h2 h3 => by omega⟩
  | succ d ih =>
    intro i a hi h0 h1
    obtain ⟨t, ht, hta, hp⟩ := hE i a (by omega) h0 h1
    have hst : ∀ k, L (k + 1) a (i : Int) = (E k (i : Int) a).bind fun t => if t < 0 then some (-1) else L k t ((i + 1 : Nat) : Int) := fun k => by
      rw [hs, if_pos (by omega), if_pos (by omega), wsucc (n := n) (by omega) hn]
    by_cases hneg : t < 0
    · exact ⟨-1, Ev.step hst (ev_bind ht (by simp only [if_pos hneg]; exact Ev.now _)), by omega, fun h => by omega⟩
    · obtain ⟨r, hr, hra, hq⟩ := ih (i + 1) t (by omega) (by omega) (by omega)
      refine ⟨r, Ev.step hst (ev_bind ht (by simp only [if_neg hneg]; exact hr)), by omega, fun h0r m h2 h3 => ?_⟩
      by_cases e : m = i
      · subst e; exact hp (by omega)
      · exact hq h0r m (by omega) h3
end Go.Proofs.Ytjpjikhokpfhmaa.Pu

/- Elements of rows, by their number (in a seat without the laws' own copies of knots: in place of PuArena). -/
namespace Go.Proofs.Ytjpjikhokpfhmaa.Pu
open Go.RowKit Go.Proofs.Ytjpjikhokpfhmaa.PT Go.Proofs.YtjpjikhokpfhmaaW.PrintWords

theorem rd_nat (l : List Int) (i : Nat) : rd l (i : Int) = l.getD i 0 := rfl
theorem rdIK_nat (l : List S47) (i : Nat) : rd_T47 l (i : Int) = l.getD i z47 := rfl
end Go.Proofs.Ytjpjikhokpfhmaa.Pu

/- When an arena is right, as one test; the program's and the reference's ArenaOk answer it. -/
namespace Go.Proofs.Ytjpjikhokpfhmaa.Pu
set_option linter.unusedVariables false
set_option linter.unusedSimpArgs false
open Go.RowKit Go.Proofs.Ytjpjikhokpfhmaa.PT Go.Proofs.YtjpjikhokpfhmaaW.PrintWords

theorem in_eq (a l h : Int) : impl_in.f a l h = some (decide (l ≤ a ∧ a ≤ h)) := by
  unfold impl_in.f
  by_cases h1 : a ≥ l
  · rw [if_pos h1]; congr 1; simp; omega
  · rw [if_neg h1]; congr 1; simp; omega
theorem l01In_eq (a l h : Int) : spec_l01In.f a l h = some (decide (l ≤ a ∧ a ≤ h)) := by
  unfold spec_l01In.f
  by_cases h1 : a ≥ l
  · rw [if_pos h1]; congr 1; simp; omega
  · rw [if_neg h1]; congr 1; simp; omega

/-- A kid of the knot at place i. -/
def kidB (l : List S47) (i : Nat) (leaf : Bool) (n : Int) : Bool :=
  if leaf = true then decide (0 ≤ n) else decide (n = -1) || (decide (0 ≤ n ∧ n ≤ (i : Int) - 1) && (l.getD n.toNat z47).f0)
def knotB (l : List S47) (i : Nat) (x : S47) : Bool := decide (x.f1.length = 4) && x.f1.all (kidB l i x.f0)
def arenaB (l : List S47) : Bool := (List.range' 0 l.length).all fun i => knotB l i (l.getD i z47)

theorem sArena_step (k : Nat) (kids : List Int) (i j : Nat) (a : List S47) (leaf : Bool) (hi : i < a.length) (hn : a.length ≤ 9223372036854775807) (hj : j < 4) (hk : kids.length = 4) :
    spec_ArenaOk.l1 (k + 1) i j a leaf kids = if kidB a i leaf (kids.getD j 0) = true then spec_ArenaOk.l1 k i ((j + 1 : Nat) : Int) a leaf kids else some false := by
  simp only [spec_ArenaOk.l1]
  rw [if_pos (by omega), if_pos (by omega), if_pos (by omega), wsucc (n := 4) hj (by omega), w64 (x := (i : Int) - 1) (by omega) (by omega), rd_nat]
  generalize kids.getD j 0 = n
  unfold kidB
  cases leaf with
  | true => by_cases h : n < 0 <;> simp [h] <;> omega
  | false =>
    simp only [Bool.false_eq_true, if_false, l01In_eq, Option.bind_some, decide_eq_true_eq]
    by_cases h1 : n = -1
    · simp [h1]
    · by_cases h2 : 0 ≤ n ∧ n ≤ (i : Int) - 1
      · rw [if_neg h1, if_pos h2, if_pos h2.1, if_pos (by omega)]
        simp [h1, h2, rd_T47]
      · simp [h1, h2]
theorem iArena_step (k : Nat) (kids : List Int) (i j : Nat) (a : List S47) (leaf : Bool) (hi : i < a.length) (hn : a.length ≤ 9223372036854775807) (hj : j < 4) (hk : kids.length = 4) :
    impl_ArenaOk.l1 (k + 1) i a a.length i kids kids.length j a leaf kids = if kidB a i leaf (kids.getD j 0) = true then impl_ArenaOk.l1 k i a a.length i kids kids.length ((j + 1 : Nat) : Int) a leaf kids else some false := by
  simp only [impl_ArenaOk.l1]
  rw [if_pos (by omega), if_pos (by omega), if_pos (by omega), wsucc (n := 4) hj (by omega), w64 (x := (i : Int) - 1) (by omega) (by omega), rd_nat]
  generalize kids.getD j 0 = n
  unfold kidB
  cases leaf with
  | true => by_cases h : n < 0 <;> simp [h] <;> omega
  | false =>
    simp only [Bool.false_eq_true, if_false, in_eq, Option.bind_some, decide_eq_true_eq]
    by_cases h1 : n = -1
    · simp [h1]
    · by_cases h2 : 0 ≤ n ∧ n ≤ (i : Int) - 1
      · rw [if_neg h1, if_pos h2, if_pos h2.1, if_pos (by omega)]
        simp [h1, h2, rd_T47]
      · simp [h1, h2]
/-- The kids of one knot, tried in order; then what comes. -/
theorem ev_kids {L : Nat → Int → Option Bool} {g : Nat → Option Bool} {kids : List Int} {T : Int → Bool} {r : Bool} (hk : kids.length = 4)
    (hs : ∀ k j, j < 4 → L (k + 1) ((j : Nat) : Int) = if T (kids.getD j 0) = true then L k ((j + 1 : Nat) : Int) else some false) (he : ∀ k, L (k + 1) 4 = g k) (hr : Ev g r) :
    ∀ (d j : Nat), j + d = 4 → Ev (fun k => L k (j : Int)) ((kids.drop j).all T && r) := by
  intro d
  induction d with
  | zero =>
    intro j hj
    obtain rfl : j = 4 := by omega
    refine Ev.step (f := g) (fun k => he k) ?_
    rw [List.drop_eq_nil_of_le (by omega)]
    exact hr
  | succ d ih =>
    intro j hj
    have hjl : j < kids.length := by omega
    rw [List.drop_eq_getElem_cons hjl, List.all_cons]
    have e : kids.getD j 0 = kids[j] := by rw [List.getD_eq_getElem?_getD, List.getElem?_eq_getElem hjl]; rfl
    by_cases h : T kids[j] = true
    · rw [h, Bool.true_and]
      exact Ev.step (f := fun k => L k ((j + 1 : Nat) : Int)) (fun k => by rw [hs k j (by omega), e, if_pos h]) (ih (j + 1) (by omega))
    · rw [Bool.eq_false_iff.mpr h, Bool.false_and, Bool.false_and]
      exact ev_some fun k => by rw [hs k j (by omega), e, if_neg h]
theorem sArena_ev (a : List S47) (hn : a.length ≤ 9223372036854775807) : Ev (fun k => spec_ArenaOk.f k a) (arenaB a) := by
  have main : ∀ (d i : Nat), i + d = a.length → Ev (fun k => spec_ArenaOk.l0 k (i : Int) a) ((List.range' i d).all fun i => knotB a i (a.getD i z47)) := by
    intro d
    induction d with
    | zero => intro i hi; exact ev_some fun k => by simp only [spec_ArenaOk.l0]; rw [if_neg (by omega)]; rfl
    | succ d ih =>
      intro i hi
      rw [List.range'_succ, List.all_cons]
      unfold knotB
      by_cases h4 : (a.getD i z47).f1.length = 4
      · rw [decide_eq_true h4, Bool.true_and]
        have h := ev_kids (L := fun k j => spec_ArenaOk.l1 k i j a (a.getD i z47).f0 (a.getD i z47).f1) (T := kidB a i (a.getD i z47).f0) h4 (fun k j hj => sArena_step k (a.getD i z47).f1 i j a _ (by omega) hn hj h4)
          (g := fun k => spec_ArenaOk.l0 k ((i + 1 : Nat) : Int) a) (fun k => by simp only [spec_ArenaOk.l1]; rw [if_neg (by omega), wsucc (n := a.length) (by omega) hn]) (ih (i + 1) (by omega)) 4 0 rfl
        refine Ev.step (fun k => ?_) h
        simp only [spec_ArenaOk.l0]
        rw [if_pos (by omega), if_pos (by omega), rdIK_nat, if_pos (by omega)]
        rfl
      · rw [decide_eq_false h4, Bool.false_and, Bool.false_and]
        refine ev_some fun k => ?_
        simp only [spec_ArenaOk.l0]
        rw [if_pos (by omega), if_pos (by omega), rdIK_nat, if_neg (by omega)]
  exact main a.length 0 (by omega)
theorem iArena_ev (a : List S47) (hn : a.length ≤ 9223372036854775807) : Ev (fun k => impl_ArenaOk.f k a) (arenaB a) := by
  have main : ∀ (d i : Nat), i + d = a.length → Ev (fun k => impl_ArenaOk.l0 k a a.length (i : Int) a) ((List.range' i d).all fun i => knotB a i (a.getD i z47)) := by
    intro d
    induction d with
    | zero => intro i hi; exact ev_some fun k => by simp only [impl_ArenaOk.l0]; rw [if_neg (by omega)]; rfl
    | succ d ih =>
      intro i hi
      rw [List.range'_succ, List.all_cons]
      unfold knotB
      by_cases h4 : (a.getD i z47).f1.length = 4
      · rw [decide_eq_true h4, Bool.true_and]
        have h := ev_kids (L := fun k j => impl_ArenaOk.l1 k i a a.length i (a.getD i z47).f1 (a.getD i z47).f1.length j a (a.getD i z47).f0 (a.getD i z47).f1) (T := kidB a i (a.getD i z47).f0) h4 (fun k j hj => iArena_step k (a.getD i z47).f1 i j a _ (by omega) hn hj h4)
          (g := fun k => impl_ArenaOk.l0 k a a.length ((i + 1 : Nat) : Int) a) (fun k => by simp only [impl_ArenaOk.l1]; rw [if_neg (by omega), wsucc (n := a.length) (by omega) hn]) (ih (i + 1) (by omega)) 4 0 rfl
        refine Ev.step (fun k => ?_) h
        simp only [impl_ArenaOk.l0]
        rw [if_pos (by omega), if_pos (by omega), if_pos (by omega), rdIK_nat, if_pos (by omega)]
        rfl
      · rw [decide_eq_false h4, Bool.false_and, Bool.false_and]
        refine ev_some fun k => ?_
        simp only [impl_ArenaOk.l0]
        rw [if_pos (by omega), if_pos (by omega), if_pos (by omega), rdIK_nat, if_neg (by omega)]
  exact main a.length 0 (by omega)
end Go.Proofs.Ytjpjikhokpfhmaa.Pu

namespace Go.Proofs.Ytjpjikhokpfhmaa.PT
open Go.RowKit Go.Proofs.YtjpjikhokpfhmaaW.PrintWords Go.Proofs.YtjpjikhokpfhmaaW.PrintLast Go.Proofs.YtjpjikhokpfhmaaW.PrintMore
attribute [local go_sem] max2_int min2_int max_two min_two max_three min_three max_four min_four   -- for this text's walks alone
set_option linter.unusedVariables false
set_option linter.unusedSimpArgs false
def spec_l11Get.f (l0_0 : List (S47)) (a1 : Int) (a2 : Int) : Option (Int):=if a1 < 0 then (some 0) else (if 0 ≤ a1 then (if a1 < (l0_0.length : Int) then (if 0 ≤ (wrap64 (Int.tdiv a2 4)) then (if (wrap64 (Int.tdiv a2 4)) < (((rd_T47 l0_0 a1).f1).length : Int) then (if (rd ((rd_T47 l0_0 a1).f1) (wrap64 (Int.tdiv a2 4))) < 0 then (some 0) else (if 0 ≤ (rd ((rd_T47 l0_0 a1).f1) (wrap64 (Int.tdiv a2 4))) then (if (rd ((rd_T47 l0_0 a1).f1) (wrap64 (Int.tdiv a2 4))) < (l0_0.length : Int) then (if 0 ≤ (Int.tmod a2 4) then (if (Int.tmod a2 4) < (((rd_T47 l0_0 (rd ((rd_T47 l0_0 a1).f1) (wrap64 (Int.tdiv a2 4)))).f1).length : Int) then (some (rd ((rd_T47 l0_0 (rd ((rd_T47 l0_0 a1).f1) (wrap64 (Int.tdiv a2 4)))).f1) (Int.tmod a2 4))) else (none)) else (none)) else (none)) else (none))) else (none)) else (none)) else (none)) else (none))
set_option maxHeartbeats 8000000 in
set_option maxRecDepth 100000 in
theorem spec_l11Get.calls (A0_0 : Option Addr) (c0_0 : Nat) (l0_0 : List (S47)) (a1 : Int) (a2 : Int) (r : Int) (w : World) (hr0_0 : Kd.C k47 w A0_0 l0_0.length l0_0) (hc0_0 : l0_0.length ≤ c0_0) (h : spec_l11Get.f l0_0 a1 a2 = some r) :
  Calls Try.prog 31 #[.agg #[.slice A0_0 l0_0.length c0_0],.int .i64 a1,.int .i64 a2] w fun e w'=>e = .returned (.int .i64 r) ∧ Below w.heap.size w w':=by
 have hu26:=Try.underlying26;have HR0_0:=Aside0.mk hr0_0;have HC0_0:=Aside0.mk hc0_0;clear hr0_0 hc0_0;have HB:=Aside0.mk (Below.refl w.heap.size w);have H : (if a1 < 0 then (some 0) else (if 0 ≤ a1 then (if a1 < (l0_0.length : Int) then (if 0 ≤ (wrap64 (Int.tdiv a2 4)) then (if (wrap64 (Int.tdiv a2 4)) < (((rd_T47 l0_0 a1).f1).length : Int) then (if (rd ((rd_T47 l0_0 a1).f1) (wrap64 (Int.tdiv a2 4))) < 0 then (some 0) else (if 0 ≤ (rd ((rd_T47 l0_0 a1).f1) (wrap64 (Int.tdiv a2 4))) then (if (rd ((rd_T47 l0_0 a1).f1) (wrap64 (Int.tdiv a2 4))) < (l0_0.length : Int) then (if 0 ≤ (Int.tmod a2 4) then (if (Int.tmod a2 4) < (((rd_T47 l0_0 (rd ((rd_T47 l0_0 a1).f1) (wrap64 (Int.tdiv a2 4)))).f1).length : Int) then (some (rd ((rd_T47 l0_0 (rd ((rd_T47 l0_0 a1).f1) (wrap64 (Int.tdiv a2 4)))).f1) (Int.tmod a2 4))) else (none)) else (none)) else (none)) else (none))) else (none)) else (none)) else (none)) else (none))) = some r:=h;clear h
 by_cases c4 : a1 < 0
 ·rw [if_pos c4] at H;have c4b0 : decide (a1 < 0) = true:=decide_eq_true c4;clear c4;obtain rfl:=Option.some.inj H
  go_enter Try.func31,Try.ntmps31
  go_wp2_with (first | ((with_reducible refine gate_dst (N:=3) rfl ?_);refine box_event ?hg (N:=3) ?hd (cs:=#[.slice A0_0 l0_0.length c0_0]) (t:=26) ?hr ?_;(case hd=>rfl);(case hg=>rfl);(case hr=>first | (go_simp;done) | (go_simp;rfl));intro gb231 hg w5 hbox hb;have n0_:=Aside0.mk (below_step (hs HB) hb);have n1_:=Aside0.mk (hbox);have n2_:=Aside0.mk ((by rw [hg];exact (below_size (hs HB)) : w.heap.size ≤ gb231));have n3_:=Aside0.mk ((by rw [hg];exact (below_size (hs HB)) : w.heap.size ≤ gb231));clear HB;have HB:=n0_;have BK231:=n1_;have GW231:=n2_;have GE231:=n3_;clear n0_ n1_ n2_ n3_;clear hb hbox hg))
  go_ret
  exact ⟨by first | rfl | (simp [errW_none,errW_some] <;> rfl) | (simp [*,errW_none,errW_some] <;> rfl),hs1 HB GE231⟩
 rw [if_neg c4] at H;have c4b0 : decide (a1 < 0) = false:=decide_eq_false c4;clear c4
 by_cases c6 : 0 ≤ a1
 ·rw [if_pos c6] at H;have c6b0 : decide (0 ≤ a1) = true:=decide_eq_true c6;clear c6
  by_cases c7 : a1 < (l0_0.length : Int)
  ·rw [if_pos c7] at H;have c7b0 : decide (a1 < (l0_0.length : Int)) = true:=decide_eq_true c7;clear c7;obtain ⟨ji8,hji8⟩ : ∃ j_ : Int,(wrap64 (Int.tdiv a2 4)) = j_:=⟨_,rfl⟩;replace H : (if 0 ≤ (ji8) then (if (ji8) < (((rd_T47 l0_0 a1).f1).length : Int) then (if (rd ((rd_T47 l0_0 a1).f1) (ji8)) < 0 then (some 0) else (if 0 ≤ (rd ((rd_T47 l0_0 a1).f1) (ji8)) then (if (rd ((rd_T47 l0_0 a1).f1) (ji8)) < (l0_0.length : Int) then (if 0 ≤ (Int.tmod a2 4) then (if (Int.tmod a2 4) < (((rd_T47 l0_0 (rd ((rd_T47 l0_0 a1).f1) (ji8))).f1).length : Int) then (some (rd ((rd_T47 l0_0 (rd ((rd_T47 l0_0 a1).f1) (ji8))).f1) (Int.tmod a2 4))) else (none)) else (none)) else (none)) else (none))) else (none)) else (none)) = some r:=by first | (rw [hji8] at H;exact H) | (simp only [hji8] at H ⊢;exact H)
   have hji8w : (IntKind.i64.wrap (Int.tdiv a2 4)) = ji8:=(i64_w _).trans hji8
   by_cases c9 : 0 ≤ (ji8)
   ·rw [if_pos c9] at H;have c9b0 : decide (0 ≤ (ji8)) = true:=decide_eq_true c9;clear c9
    by_cases c10 : (ji8) < (((rd_T47 l0_0 a1).f1).length : Int)
    ·rw [if_pos c10] at H;have c10b0 : decide ((ji8) < (((rd_T47 l0_0 a1).f1).length : Int)) = true:=decide_eq_true c10;clear c10
     by_cases c11 : (rd ((rd_T47 l0_0 a1).f1) (ji8)) < 0
     ·rw [if_pos c11] at H;have c11b0 : decide ((rd ((rd_T47 l0_0 a1).f1) (ji8)) < 0) = true:=decide_eq_true c11;clear c11;obtain rfl:=Option.some.inj H
      go_enter Try.func31,Try.ntmps31
      go_wp2_with (first | ((with_reducible refine gate_dst (N:=3) rfl ?_);refine box_event ?hg (N:=3) ?hd (cs:=#[.slice A0_0 l0_0.length c0_0]) (t:=26) ?hr ?_;(case hd=>rfl);(case hg=>rfl);(case hr=>first | (go_simp;done) | (go_simp;rfl));intro gb231 hg w12 hbox hb;have n0_:=Aside0.mk (below_step (hs HB) hb);have n1_:=Aside0.mk (hbox);have n2_:=Aside0.mk ((by rw [hg];exact (below_size (hs HB)) : w.heap.size ≤ gb231));have n3_:=Aside0.mk ((by rw [hg];exact (below_size (hs HB)) : w.heap.size ≤ gb231));clear HB;have HB:=n0_;have BK231:=n1_;have GW231:=n2_;have GE231:=n3_;clear n0_ n1_ n2_ n3_;clear hb hbox hg;have hcz13_0 : w12.cell? ⟨gb231,0,none⟩ = some (.slice A0_0 l0_0.length c0_0):=(blk_cell BK231.out 0).trans rfl;have hfz13_0:=blk_frozen BK231.out 0;have p232 : 0 ≤ (a1 : Int):=of_decide_eq_true (by first | (with_reducible assumption) | assumption);have q232 : a1 < (l0_0.length : Int):=of_decide_eq_true (by first | (with_reducible assumption) | assumption);obtain ⟨ad232,A232_1,c232_1,e232,hx232_0,hx232_1,hl232_1,hi232_1⟩:=at_T47 HR0_0.out a1 p232 q232;cases e232;replace hx232_0:=(HB.out.cell (World.block_lt_of_cell? w _ hx232_0)).trans hx232_0;replace hx232_1:=(HB.out.cell (World.block_lt_of_cell? w _ hx232_1)).trans hx232_1;have HR232_1:=Aside0.mk hi232_1;have HC232_1:=Aside0.mk hl232_1;clear hi232_1 hl232_1;replace p232:=eq_true p232;replace q232:=eq_true q232;have p233 : 0 ≤ ((ji8) : Int):=of_decide_eq_true (by first | (with_reducible assumption) | assumption);have q233 : (ji8) < (((rd_T47 l0_0 a1).f1).length : Int):=of_decide_eq_true (by first | (with_reducible assumption) | assumption);obtain ⟨ad233,e233,hx233_0⟩:=Kd.at_int HR232_1.out (ji8) p233 q233;cases e233;replace hx233_0:=(HB.out.cell (World.block_lt_of_cell? w _ hx233_0)).trans hx233_0;replace p233:=eq_true p233;replace q233:=eq_true q233))
      go_ret
      exact ⟨by first | rfl | (simp [errW_none,errW_some] <;> rfl) | (simp only [← hji8];first | rfl | (simp [errW_none,errW_some] <;> rfl)) | (simp [*,errW_none,errW_some] <;> rfl),hs1 HB GE231⟩
     rw [if_neg c11] at H;have c11b0 : decide ((rd ((rd_T47 l0_0 a1).f1) (ji8)) < 0) = false:=decide_eq_false c11;clear c11
     by_cases c14 : 0 ≤ (rd ((rd_T47 l0_0 a1).f1) (ji8))
     ·rw [if_pos c14] at H;have c14b0 : decide (0 ≤ (rd ((rd_T47 l0_0 a1).f1) (ji8))) = true:=decide_eq_true c14;clear c14
      by_cases c15 : (rd ((rd_T47 l0_0 a1).f1) (ji8)) < (l0_0.length : Int)
      ·rw [if_pos c15] at H;have c15b0 : decide ((rd ((rd_T47 l0_0 a1).f1) (ji8)) < (l0_0.length : Int)) = true:=decide_eq_true c15;clear c15;obtain ⟨ji16,hji16⟩ : ∃ j_ : Int,(Int.tmod a2 4) = j_:=⟨_,rfl⟩;replace H : (if 0 ≤ (ji16) then (if (ji16) < (((rd_T47 l0_0 (rd ((rd_T47 l0_0 a1).f1) (ji8))).f1).length : Int) then (some (rd ((rd_T47 l0_0 (rd ((rd_T47 l0_0 a1).f1) (ji8))).f1) (ji16))) else (none)) else (none)) = some r:=by first | (rw [hji16] at H;exact H) | (simp only [hji16] at H ⊢;exact H)
       by_cases c17 : 0 ≤ (ji16)
       ·rw [if_pos c17] at H;have c17b0 : decide (0 ≤ (ji16)) = true:=decide_eq_true c17;clear c17
        by_cases c18 : (ji16) < (((rd_T47 l0_0 (rd ((rd_T47 l0_0 a1).f1) (ji8))).f1).length : Int)
        ·rw [if_pos c18] at H;have c18b0 : decide ((ji16) < (((rd_T47 l0_0 (rd ((rd_T47 l0_0 a1).f1) (ji8))).f1).length : Int)) = true:=decide_eq_true c18;clear c18;obtain rfl:=Option.some.inj H
         go_enter Try.func31,Try.ntmps31
         go_wp2_with (first | ((with_reducible refine gate_dst (N:=3) rfl ?_);refine box_event ?hg (N:=3) ?hd (cs:=#[.slice A0_0 l0_0.length c0_0]) (t:=26) ?hr ?_;(case hd=>rfl);(case hg=>rfl);(case hr=>first | (go_simp;done) | (go_simp;rfl));intro gb231 hg w19 hbox hb;have n0_:=Aside0.mk (below_step (hs HB) hb);have n1_:=Aside0.mk (hbox);have n2_:=Aside0.mk ((by rw [hg];exact (below_size (hs HB)) : w.heap.size ≤ gb231));have n3_:=Aside0.mk ((by rw [hg];exact (below_size (hs HB)) : w.heap.size ≤ gb231));clear HB;have HB:=n0_;have BK231:=n1_;have GW231:=n2_;have GE231:=n3_;clear n0_ n1_ n2_ n3_;clear hb hbox hg;have hcz20_0 : w19.cell? ⟨gb231,0,none⟩ = some (.slice A0_0 l0_0.length c0_0):=(blk_cell BK231.out 0).trans rfl;have hfz20_0:=blk_frozen BK231.out 0;have p232 : 0 ≤ (a1 : Int):=of_decide_eq_true (by first | (with_reducible assumption) | assumption);have q232 : a1 < (l0_0.length : Int):=of_decide_eq_true (by first | (with_reducible assumption) | assumption);obtain ⟨ad232,A232_1,c232_1,e232,hx232_0,hx232_1,hl232_1,hi232_1⟩:=at_T47 HR0_0.out a1 p232 q232;cases e232;replace hx232_0:=(HB.out.cell (World.block_lt_of_cell? w _ hx232_0)).trans hx232_0;replace hx232_1:=(HB.out.cell (World.block_lt_of_cell? w _ hx232_1)).trans hx232_1;have HR232_1:=Aside0.mk hi232_1;have HC232_1:=Aside0.mk hl232_1;clear hi232_1 hl232_1;replace p232:=eq_true p232;replace q232:=eq_true q232;have p233 : 0 ≤ ((ji8) : Int):=of_decide_eq_true (by first | (with_reducible assumption) | assumption);have q233 : (ji8) < (((rd_T47 l0_0 a1).f1).length : Int):=of_decide_eq_true (by first | (with_reducible assumption) | assumption);obtain ⟨ad233,e233,hx233_0⟩:=Kd.at_int HR232_1.out (ji8) p233 q233;cases e233;replace hx233_0:=(HB.out.cell (World.block_lt_of_cell? w _ hx233_0)).trans hx233_0;replace p233:=eq_true p233;replace q233:=eq_true q233;have p234 : 0 ≤ ((rd ((rd_T47 l0_0 a1).f1) (ji8)) : Int):=of_decide_eq_true (by first | (with_reducible assumption) | assumption);have q234 : (rd ((rd_T47 l0_0 a1).f1) (ji8)) < (l0_0.length : Int):=of_decide_eq_true (by first | (with_reducible assumption) | assumption);obtain ⟨ad234,A234_1,c234_1,e234,hx234_0,hx234_1,hl234_1,hi234_1⟩:=at_T47 HR0_0.out (rd ((rd_T47 l0_0 a1).f1) (ji8)) p234 q234;obtain rfl : ad232 = ad234:=(by injection e234);replace hx234_0:=(HB.out.cell (World.block_lt_of_cell? w _ hx234_0)).trans hx234_0;replace hx234_1:=(HB.out.cell (World.block_lt_of_cell? w _ hx234_1)).trans hx234_1;have HR234_1:=Aside0.mk hi234_1;have HC234_1:=Aside0.mk hl234_1;clear hi234_1 hl234_1;replace p234:=eq_true p234;replace q234:=eq_true q234;have p235 : 0 ≤ ((ji16) : Int):=of_decide_eq_true (by first | (with_reducible assumption) | assumption);have q235 : (ji16) < (((rd_T47 l0_0 (rd ((rd_T47 l0_0 a1).f1) (ji8))).f1).length : Int):=of_decide_eq_true (by first | (with_reducible assumption) | assumption);obtain ⟨ad235,e235,hx235_0⟩:=Kd.at_int HR234_1.out (ji16) p235 q235;cases e235;replace hx235_0:=(HB.out.cell (World.block_lt_of_cell? w _ hx235_0)).trans hx235_0;replace p235:=eq_true p235;replace q235:=eq_true q235))
         go_ret
         exact ⟨by first | rfl | (simp [errW_none,errW_some] <;> rfl) | (simp only [← hji8,← hji16];first | rfl | (simp [errW_none,errW_some] <;> rfl)) | (simp [*,errW_none,errW_some] <;> rfl),hs1 HB GE231⟩
        rw [if_neg c18] at H;exact absurd H (by simp)
       rw [if_neg c17] at H;exact absurd H (by simp)
      rw [if_neg c15] at H;exact absurd H (by simp)
     rw [if_neg c14] at H;exact absurd H (by simp)
    rw [if_neg c10] at H;exact absurd H (by simp)
   rw [if_neg c9] at H;exact absurd H (by simp)
  rw [if_neg c7] at H;exact absurd H (by simp)
 rw [if_neg c6] at H;exact absurd H (by simp)
end Go.Proofs.Ytjpjikhokpfhmaa.PT

namespace Go.Proofs.Ytjpjikhokpfhmaa.PT
open Go.RowKit Go.Proofs.YtjpjikhokpfhmaaW.PrintWords Go.Proofs.YtjpjikhokpfhmaaW.PrintLast Go.Proofs.YtjpjikhokpfhmaaW.PrintMore
attribute [local go_sem] max2_int min2_int max_two min_two max_three min_three max_four min_four   -- for this text's walks alone
set_option linter.unusedVariables false
set_option linter.unusedSimpArgs false
def spec_GetAt.f (k : Nat) (l0_0 : List (S47)) (a1 : Int) (a2 : Int) : Option (Int):=(spec_ArenaOk.f k l0_0).bind fun t237=>(if t237 = true then ((spec_l11Root.f l0_0 a1).bind fun t238=>(if t238 = true then ((spec_l01In.f a2 0 15).bind fun t239=>(if t239 = true then ((spec_l11Get.f l0_0 a1 a2).bind fun t240=>(some t240)) else (some 0))) else (some 0))) else (some 0))
theorem spec_GetAt.mono : ∀ a0 a1 a2 k,LeO (spec_GetAt.f k a0 a1 a2) (spec_GetAt.f (k + 1) a0 a1 a2):=by
 intro a0 a1 a2 k;unfold spec_GetAt.f
 repeat' first
   | (with_reducible exact spec_ArenaOk.mono _ _)
   | (with_reducible exact LeO.refl _)
   | (with_reducible exact LeO.none _)
   | (with_reducible refine LeO.ite ?_ ?_)
   | (with_reducible refine LeO.bind ?_ (fun _=>?_))
   | exact spec_ArenaOk.mono _ _
   | exact LeO.none _
   | refine LeO.ite ?_ ?_
   | refine LeO.bind ?_ (fun _=>?_)
set_option maxHeartbeats 8000000 in
set_option maxRecDepth 100000 in
theorem spec_GetAt.calls (k : Nat) (A0_0 : Option Addr) (c0_0 : Nat) (l0_0 : List (S47)) (a1 : Int) (a2 : Int) (r : Int) (w : World) (hr0_0 : Kd.C k47 w A0_0 l0_0.length l0_0) (hc0_0 : l0_0.length ≤ c0_0) (h : spec_GetAt.f k l0_0 a1 a2 = some r) :
  Calls Try.prog 12 #[.agg #[.slice A0_0 l0_0.length c0_0],.int .i64 a1,.int .i64 a2] w fun e w'=>e = .returned (.int .i64 r) ∧ Below w.heap.size w w':=by
 have hu26:=Try.underlying26;have HR0_0:=Aside0.mk hr0_0;have HC0_0:=Aside0.mk hc0_0;clear hr0_0 hc0_0;have HB:=Aside0.mk (Below.refl w.heap.size w);have H : ((spec_ArenaOk.f k l0_0).bind fun t237=>(if t237 = true then ((spec_l11Root.f l0_0 a1).bind fun t238=>(if t238 = true then ((spec_l01In.f a2 0 15).bind fun t239=>(if t239 = true then ((spec_l11Get.f l0_0 a1 a2).bind fun t240=>(some t240)) else (some 0))) else (some 0))) else (some 0))) = some r:=h;clear h;replace H:=Option.bind_eq_some_iff.mp H;obtain ⟨t237,A40,H⟩:=H;replace H : (if t237 = true then ((spec_l11Root.f l0_0 a1).bind fun t238=>(if t238 = true then ((spec_l01In.f a2 0 15).bind fun t239=>(if t239 = true then ((spec_l11Get.f l0_0 a1 a2).bind fun t240=>(some t240)) else (some 0))) else (some 0))) else (some 0)) = some r:=H;have A4:=Aside0.mk A40;clear A40
 by_cases c5 : t237 = true
 ·subst c5;have H1 : ((spec_l11Root.f l0_0 a1).bind fun t238=>(if t238 = true then ((spec_l01In.f a2 0 15).bind fun t239=>(if t239 = true then ((spec_l11Get.f l0_0 a1 a2).bind fun t240=>(some t240)) else (some 0))) else (some 0))) = some r:=by rw [if_pos rfl] at H;exact H
  clear H;have H:=H1;clear H1;replace H:=Option.bind_eq_some_iff.mp H;obtain ⟨t238,A60,H⟩:=H;replace H : (if t238 = true then ((spec_l01In.f a2 0 15).bind fun t239=>(if t239 = true then ((spec_l11Get.f l0_0 a1 a2).bind fun t240=>(some t240)) else (some 0))) else (some 0)) = some r:=H;have A6:=Aside0.mk A60;clear A60
  by_cases c7 : t238 = true
  ·subst c7;have H1 : ((spec_l01In.f a2 0 15).bind fun t239=>(if t239 = true then ((spec_l11Get.f l0_0 a1 a2).bind fun t240=>(some t240)) else (some 0))) = some r:=by rw [if_pos rfl] at H;exact H
   clear H;have H:=H1;clear H1;replace H:=Option.bind_eq_some_iff.mp H;obtain ⟨t239,A80,H⟩:=H;replace H : (if t239 = true then ((spec_l11Get.f l0_0 a1 a2).bind fun t240=>(some t240)) else (some 0)) = some r:=H;have A8:=Aside0.mk A80;clear A80
   by_cases c9 : t239 = true
   ·subst c9;have H1 : ((spec_l11Get.f l0_0 a1 a2).bind fun t240=>(some t240)) = some r:=by rw [if_pos rfl] at H;exact H
    clear H;have H:=H1;clear H1;replace H:=Option.bind_eq_some_iff.mp H;obtain ⟨t240,A100,H⟩:=H;replace H : (some t240) = some r:=H;have A10:=Aside0.mk A100;clear A100;obtain rfl:=Option.some.inj H
    go_enter Try.func12,Try.ntmps12
    go_wp2_with (first | ((with_reducible refine gate_dst (N:=3) rfl ?_);refine box_event ?hg (N:=3) ?hd (cs:=#[.slice A0_0 l0_0.length c0_0]) (t:=26) ?hr ?_;(case hd=>rfl);(case hg=>rfl);(case hr=>first | (go_simp;done) | (go_simp;rfl));intro gb236 hg w11 hbox hb;have n0_:=Aside0.mk (below_step (hs HB) hb);have n1_:=Aside0.mk (hbox);have n2_:=Aside0.mk ((by rw [hg];exact (below_size (hs HB)) : w.heap.size ≤ gb236));have n3_:=Aside0.mk ((by rw [hg];exact (below_size (hs HB)) : w.heap.size ≤ gb236));clear HB;have HB:=n0_;have BK236:=n1_;have GW236:=n2_;have GE236:=n3_;clear n0_ n1_ n2_ n3_;clear hb hbox hg;have hcz12_0 : w11.cell? ⟨gb236,0,none⟩ = some (.slice A0_0 l0_0.length c0_0):=(blk_cell BK236.out 0).trans rfl;have hfz12_0:=blk_frozen BK236.out 0) | ((with_reducible refine gate_callee (f:=28) rfl ?_);refine goesL_ (some 8) rfl rfl Try.func28 (by kernel_rfl) rfl #[.agg #[.slice A0_0 l0_0.length c0_0]] rfl (by (try simp only [List.map_toArray,List.map_cons,List.map_nil]);first | done | rfl | (simp only [List.length_drop,List.length_take];rfl)) ?_;(with_reducible refine (spec_ArenaOk.calls k _ _ l0_0 true _ ?side1 ?side2 A4.out).mono ?_);(case side1=>repeat (first | exact (Kd.C_below HR0_0.out HB.out) | (with_reducible refine Kd.C_alloc ?_ _) | (with_reducible refine Kd.C_drewN ?_ _) | (with_reducible refine Kd.C_drew ?_)));(case side2=>exact HC0_0.out);rintro e w13 ⟨rfl,hb⟩;refine ⟨_,rfl,?_⟩;have n0_:=Aside0.mk (blk_below (g:=gb236) (o:=.cells #[.slice A0_0 l0_0.length c0_0] 26 (0,0)) (bs BK236) hb);have n1_:=Aside0.mk (below_step (hs1 HB GE236) hb);clear BK236;clear HB;have BK236:=n0_;have HB:=n1_;clear n0_ n1_;(try clear hb);(try clear hb2);(try clear hk);(try clear hi);have hcz14_0 : w13.cell? ⟨gb236,0,none⟩ = some (.slice A0_0 l0_0.length c0_0):=(blk_cell BK236.out 0).trans rfl;have hfz14_0:=blk_frozen BK236.out 0) | (go_at_call 29;(with_reducible refine (spec_l11Root.calls _ _ l0_0 a1 true _ ?side1 ?side2 A6.out).mono ?_);(case side1=>repeat (first | exact (Kd.C_below HR0_0.out HB.out) | (with_reducible refine Kd.C_alloc ?_ _) | (with_reducible refine Kd.C_drewN ?_ _) | (with_reducible refine Kd.C_drew ?_)));(case side2=>exact HC0_0.out);rintro e w15 ⟨rfl,hb⟩;have n0_:=Aside0.mk (blk_below (g:=gb236) (o:=.cells #[.slice A0_0 l0_0.length c0_0] 26 (0,0)) (bs BK236) hb);have n1_:=Aside0.mk (below_step (hs1 HB GE236) hb);clear BK236;clear HB;have BK236:=n0_;have HB:=n1_;clear n0_ n1_;(try clear hb);(try clear hb2);(try clear hk);(try clear hi)) | (go_at_call 30;(with_reducible refine (spec_l01In.calls a2 0 15 true _ A8.out).mono ?_);rintro e w' ⟨rfl,⟨nd,rfl⟩⟩;have hcz16_0 : w15.cell? ⟨gb236,0,none⟩ = some (.slice A0_0 l0_0.length c0_0):=(blk_cell BK236.out 0).trans rfl;have hfz16_0:=blk_frozen BK236.out 0) | ((with_reducible refine gate_callee (f:=31) rfl ?_);refine goesL_ (some 24) rfl rfl Try.func31 (by kernel_rfl) rfl #[.agg #[.slice A0_0 l0_0.length c0_0],.int .i64 a1,.int .i64 a2] rfl (by (try simp only [List.map_toArray,List.map_cons,List.map_nil]);first | done | rfl | (simp only [List.length_drop,List.length_take];rfl)) ?_;(with_reducible refine (spec_l11Get.calls _ _ l0_0 a1 a2 t240 _ ?side1 ?side2 A10.out).mono ?_);(case side1=>repeat (first | exact (Kd.C_below HR0_0.out (hs1 HB GE236)) | (with_reducible refine Kd.C_alloc ?_ _) | (with_reducible refine Kd.C_drewN ?_ _) | (with_reducible refine Kd.C_drew ?_)));(case side2=>exact HC0_0.out);rintro e w17 ⟨rfl,hb⟩;refine ⟨_,rfl,?_⟩;have n0_:=Aside0.mk (blk_below (g:=gb236) (o:=.cells #[.slice A0_0 l0_0.length c0_0] 26 (0,0)) (bs BK236) hb);have n1_:=Aside0.mk (below_step (hs1 HB GE236) hb);clear BK236;clear HB;have BK236:=n0_;have HB:=n1_;clear n0_ n1_;(try clear hb);(try clear hb2);(try clear hk);(try clear hi)))
    go_ret
    exact ⟨by first | rfl | (simp [errW_none,errW_some] <;> rfl) | (simp [*,errW_none,errW_some] <;> rfl),hs1 HB GE236⟩
   replace c9:=Bool.eq_false_iff.mpr c9;subst c9;have H1 : (some 0) = some r:=by rw [if_neg (show ¬ (false = true) by decide)] at H;exact H
   clear H;have H:=H1;clear H1;obtain rfl:=Option.some.inj H
   go_enter Try.func12,Try.ntmps12
   go_wp2_with (first | ((with_reducible refine gate_dst (N:=3) rfl ?_);refine box_event ?hg (N:=3) ?hd (cs:=#[.slice A0_0 l0_0.length c0_0]) (t:=26) ?hr ?_;(case hd=>rfl);(case hg=>rfl);(case hr=>first | (go_simp;done) | (go_simp;rfl));intro gb236 hg w18 hbox hb;have n0_:=Aside0.mk (below_step (hs HB) hb);have n1_:=Aside0.mk (hbox);have n2_:=Aside0.mk ((by rw [hg];exact (below_size (hs HB)) : w.heap.size ≤ gb236));have n3_:=Aside0.mk ((by rw [hg];exact (below_size (hs HB)) : w.heap.size ≤ gb236));clear HB;have HB:=n0_;have BK236:=n1_;have GW236:=n2_;have GE236:=n3_;clear n0_ n1_ n2_ n3_;clear hb hbox hg;have hcz19_0 : w18.cell? ⟨gb236,0,none⟩ = some (.slice A0_0 l0_0.length c0_0):=(blk_cell BK236.out 0).trans rfl;have hfz19_0:=blk_frozen BK236.out 0) | ((with_reducible refine gate_callee (f:=28) rfl ?_);refine goesL_ (some 8) rfl rfl Try.func28 (by kernel_rfl) rfl #[.agg #[.slice A0_0 l0_0.length c0_0]] rfl (by (try simp only [List.map_toArray,List.map_cons,List.map_nil]);first | done | rfl | (simp only [List.length_drop,List.length_take];rfl)) ?_;(with_reducible refine (spec_ArenaOk.calls k _ _ l0_0 true _ ?side1 ?side2 A4.out).mono ?_);(case side1=>repeat (first | exact (Kd.C_below HR0_0.out HB.out) | (with_reducible refine Kd.C_alloc ?_ _) | (with_reducible refine Kd.C_drewN ?_ _) | (with_reducible refine Kd.C_drew ?_)));(case side2=>exact HC0_0.out);rintro e w20 ⟨rfl,hb⟩;refine ⟨_,rfl,?_⟩;have n0_:=Aside0.mk (blk_below (g:=gb236) (o:=.cells #[.slice A0_0 l0_0.length c0_0] 26 (0,0)) (bs BK236) hb);have n1_:=Aside0.mk (below_step (hs1 HB GE236) hb);clear BK236;clear HB;have BK236:=n0_;have HB:=n1_;clear n0_ n1_;(try clear hb);(try clear hb2);(try clear hk);(try clear hi);have hcz21_0 : w20.cell? ⟨gb236,0,none⟩ = some (.slice A0_0 l0_0.length c0_0):=(blk_cell BK236.out 0).trans rfl;have hfz21_0:=blk_frozen BK236.out 0) | (go_at_call 29;(with_reducible refine (spec_l11Root.calls _ _ l0_0 a1 true _ ?side1 ?side2 A6.out).mono ?_);(case side1=>repeat (first | exact (Kd.C_below HR0_0.out HB.out) | (with_reducible refine Kd.C_alloc ?_ _) | (with_reducible refine Kd.C_drewN ?_ _) | (with_reducible refine Kd.C_drew ?_)));(case side2=>exact HC0_0.out);rintro e w22 ⟨rfl,hb⟩;have n0_:=Aside0.mk (blk_below (g:=gb236) (o:=.cells #[.slice A0_0 l0_0.length c0_0] 26 (0,0)) (bs BK236) hb);have n1_:=Aside0.mk (below_step (hs1 HB GE236) hb);clear BK236;clear HB;have BK236:=n0_;have HB:=n1_;clear n0_ n1_;(try clear hb);(try clear hb2);(try clear hk);(try clear hi)) | (go_at_call 30;(with_reducible refine (spec_l01In.calls a2 0 15 false _ A8.out).mono ?_);rintro e w' ⟨rfl,⟨nd,rfl⟩⟩))
   go_ret
   exact ⟨by first | rfl | (simp [errW_none,errW_some] <;> rfl) | (simp [*,errW_none,errW_some] <;> rfl),hs1 HB GE236⟩
  replace c7:=Bool.eq_false_iff.mpr c7;subst c7;have H1 : (some 0) = some r:=by rw [if_neg (show ¬ (false = true) by decide)] at H;exact H
  clear H;have H:=H1;clear H1;obtain rfl:=Option.some.inj H
  go_enter Try.func12,Try.ntmps12
  go_wp2_with (first | ((with_reducible refine gate_dst (N:=3) rfl ?_);refine box_event ?hg (N:=3) ?hd (cs:=#[.slice A0_0 l0_0.length c0_0]) (t:=26) ?hr ?_;(case hd=>rfl);(case hg=>rfl);(case hr=>first | (go_simp;done) | (go_simp;rfl));intro gb236 hg w23 hbox hb;have n0_:=Aside0.mk (below_step (hs HB) hb);have n1_:=Aside0.mk (hbox);have n2_:=Aside0.mk ((by rw [hg];exact (below_size (hs HB)) : w.heap.size ≤ gb236));have n3_:=Aside0.mk ((by rw [hg];exact (below_size (hs HB)) : w.heap.size ≤ gb236));clear HB;have HB:=n0_;have BK236:=n1_;have GW236:=n2_;have GE236:=n3_;clear n0_ n1_ n2_ n3_;clear hb hbox hg;have hcz24_0 : w23.cell? ⟨gb236,0,none⟩ = some (.slice A0_0 l0_0.length c0_0):=(blk_cell BK236.out 0).trans rfl;have hfz24_0:=blk_frozen BK236.out 0) | ((with_reducible refine gate_callee (f:=28) rfl ?_);refine goesL_ (some 8) rfl rfl Try.func28 (by kernel_rfl) rfl #[.agg #[.slice A0_0 l0_0.length c0_0]] rfl (by (try simp only [List.map_toArray,List.map_cons,List.map_nil]);first | done | rfl | (simp only [List.length_drop,List.length_take];rfl)) ?_;(with_reducible refine (spec_ArenaOk.calls k _ _ l0_0 true _ ?side1 ?side2 A4.out).mono ?_);(case side1=>repeat (first | exact (Kd.C_below HR0_0.out HB.out) | (with_reducible refine Kd.C_alloc ?_ _) | (with_reducible refine Kd.C_drewN ?_ _) | (with_reducible refine Kd.C_drew ?_)));(case side2=>exact HC0_0.out);rintro e w25 ⟨rfl,hb⟩;refine ⟨_,rfl,?_⟩;have n0_:=Aside0.mk (blk_below (g:=gb236) (o:=.cells #[.slice A0_0 l0_0.length c0_0] 26 (0,0)) (bs BK236) hb);have n1_:=Aside0.mk (below_step (hs1 HB GE236) hb);clear BK236;clear HB;have BK236:=n0_;have HB:=n1_;clear n0_ n1_;(try clear hb);(try clear hb2);(try clear hk);(try clear hi);have hcz26_0 : w25.cell? ⟨gb236,0,none⟩ = some (.slice A0_0 l0_0.length c0_0):=(blk_cell BK236.out 0).trans rfl;have hfz26_0:=blk_frozen BK236.out 0) | (go_at_call 29;(with_reducible refine (spec_l11Root.calls _ _ l0_0 a1 false _ ?side1 ?side2 A6.out).mono ?_);(case side1=>repeat (first | exact (Kd.C_below HR0_0.out HB.out) | (with_reducible refine Kd.C_alloc ?_ _) | (with_reducible refine Kd.C_drewN ?_ _) | (with_reducible refine Kd.C_drew ?_)));(case side2=>exact HC0_0.out);rintro e w27 ⟨rfl,hb⟩;have n0_:=Aside0.mk (blk_below (g:=gb236) (o:=.cells #[.slice A0_0 l0_0.length c0_0] 26 (0,0)) (bs BK236) hb);have n1_:=Aside0.mk (below_step (hs1 HB GE236) hb);clear BK236;clear HB;have BK236:=n0_;have HB:=n1_;clear n0_ n1_;(try clear hb);(try clear hb2);(try clear hk);(try clear hi)))
  go_ret
  exact ⟨by first | rfl | (simp [errW_none,errW_some] <;> rfl) | (simp [*,errW_none,errW_some] <;> rfl),hs1 HB GE236⟩
 replace c5:=Bool.eq_false_iff.mpr c5;subst c5;have H1 : (some 0) = some r:=by rw [if_neg (show ¬ (false = true) by decide)] at H;exact H
 clear H;have H:=H1;clear H1;obtain rfl:=Option.some.inj H
 go_enter Try.func12,Try.ntmps12
 go_wp2_with (first | ((with_reducible refine gate_dst (N:=3) rfl ?_);refine box_event ?hg (N:=3) ?hd (cs:=#[.slice A0_0 l0_0.length c0_0]) (t:=26) ?hr ?_;(case hd=>rfl);(case hg=>rfl);(case hr=>first | (go_simp;done) | (go_simp;rfl));intro gb236 hg w28 hbox hb;have n0_:=Aside0.mk (below_step (hs HB) hb);have n1_:=Aside0.mk (hbox);have n2_:=Aside0.mk ((by rw [hg];exact (below_size (hs HB)) : w.heap.size ≤ gb236));have n3_:=Aside0.mk ((by rw [hg];exact (below_size (hs HB)) : w.heap.size ≤ gb236));clear HB;have HB:=n0_;have BK236:=n1_;have GW236:=n2_;have GE236:=n3_;clear n0_ n1_ n2_ n3_;clear hb hbox hg;have hcz29_0 : w28.cell? ⟨gb236,0,none⟩ = some (.slice A0_0 l0_0.length c0_0):=(blk_cell BK236.out 0).trans rfl;have hfz29_0:=blk_frozen BK236.out 0) | ((with_reducible refine gate_callee (f:=28) rfl ?_);refine goesL_ (some 8) rfl rfl Try.func28 (by kernel_rfl) rfl #[.agg #[.slice A0_0 l0_0.length c0_0]] rfl (by (try simp only [List.map_toArray,List.map_cons,List.map_nil]);first | done | rfl | (simp only [List.length_drop,List.length_take];rfl)) ?_;(with_reducible refine (spec_ArenaOk.calls k _ _ l0_0 false _ ?side1 ?side2 A4.out).mono ?_);(case side1=>repeat (first | exact (Kd.C_below HR0_0.out HB.out) | (with_reducible refine Kd.C_alloc ?_ _) | (with_reducible refine Kd.C_drewN ?_ _) | (with_reducible refine Kd.C_drew ?_)));(case side2=>exact HC0_0.out);rintro e w30 ⟨rfl,hb⟩;refine ⟨_,rfl,?_⟩;have n0_:=Aside0.mk (blk_below (g:=gb236) (o:=.cells #[.slice A0_0 l0_0.length c0_0] 26 (0,0)) (bs BK236) hb);have n1_:=Aside0.mk (below_step (hs1 HB GE236) hb);clear BK236;clear HB;have BK236:=n0_;have HB:=n1_;clear n0_ n1_;(try clear hb);(try clear hb2);(try clear hk);(try clear hi)))
 go_ret
 exact ⟨by first | rfl | (simp [errW_none,errW_some] <;> rfl) | (simp [*,errW_none,errW_some] <;> rfl),hs1 HB GE236⟩
end Go.Proofs.Ytjpjikhokpfhmaa.PT

/- The number of a sector of a tree, as one function; the program's and the reference's GetAt answer it. -/
namespace Go.Proofs.Ytjpjikhokpfhmaa.Pu
set_option linter.unusedVariables false
set_option linter.unusedSimpArgs false
open Go.RowKit Go.Proofs.Ytjpjikhokpfhmaa.PT Go.Proofs.YtjpjikhokpfhmaaW.PrintWords

def rootB (a : List S47) (r : Int) : Bool := decide (0 ≤ r ∧ r ≤ (a.length : Int) - 1) && !(a.getD r.toNat z47).f0
def numB (a : List S47) (r s : Int) : Int := if (a.getD r.toNat z47).f1.getD (s / 4).toNat 0 < 0 then 0 else (a.getD ((a.getD r.toNat z47).f1.getD (s / 4).toNat 0).toNat z47).f1.getD (s % 4).toNat 0
def getB (a : List S47) (r s : Int) : Int := if (0 ≤ s ∧ s ≤ 15) ∧ rootB a r = true ∧ arenaB a = true then numB a r s else 0

theorem knot_of {a : List S47} (h : arenaB a = true) {i : Nat} (hi : i < a.length) : (a.getD i z47).f1.length = 4 ∧ ∀ n ∈ (a.getD i z47).f1, kidB a i (a.getD i z47).f0 n = true := by
  unfold arenaB at h
  rw [List.all_eq_true] at h
  have h1 := h i (by simp; omega)
  unfold knotB at h1
  rw [Bool.and_eq_true, decide_eq_true_eq, List.all_eq_true] at h1
  exact h1
theorem getD_mem {α : Type} {l : List α} {i : Nat} {z : α} (hi : i < l.length) : l.getD i z ∈ l := by
  rw [List.getD_eq_getElem?_getD, List.getElem?_eq_getElem hi]; exact List.getElem_mem hi
/-- A kid of a knot that is no leaf: -1, or the place of a leaf. -/
theorem kid_of {a : List S47} (h : arenaB a = true) {r : Nat} (hr : r < a.length) (hf : (a.getD r z47).f0 = false) {j : Nat} (hj : j < 4) :
    (a.getD r z47).f1.getD j 0 = -1 ∨ (0 ≤ (a.getD r z47).f1.getD j 0 ∧ (a.getD r z47).f1.getD j 0 < r ∧ (a.getD ((a.getD r z47).f1.getD j 0).toNat z47).f0 = true) := by
  obtain ⟨h4, hk⟩ := knot_of h hr
  have h1 := hk _ (getD_mem (i := j) (z := 0) (by omega))
  unfold kidB at h1
  rw [hf] at h1
  simp only [Bool.false_eq_true, if_false, Bool.or_eq_true, decide_eq_true_eq, Bool.and_eq_true] at h1
  rcases h1 with h1 | ⟨h1, h2⟩
  · exact .inl h1
  · exact .inr ⟨h1.1, by omega, h2⟩
theorem iRoot_eq (a : List S47) (r : Int) (hn : a.length ≤ 9223372036854775807) : impl_isRoot.f a r = some (rootB a r) := by
  unfold impl_isRoot.f rootB
  rw [w64 (by omega) (by omega), in_eq]
  simp only [Option.bind_some]
  by_cases h : 0 ≤ r ∧ r ≤ (a.length : Int) - 1
  · rw [decide_eq_true h, if_pos rfl, if_pos h.1, if_pos (by omega), Bool.true_and]; rfl
  · rw [decide_eq_false h, if_neg (by decide), Bool.false_and]
theorem sRoot_eq (a : List S47) (r : Int) (hn : a.length ≤ 9223372036854775807) : spec_l11Root.f a r = some (decide (r = -1) || rootB a r) := by
  unfold spec_l11Root.f rootB
  by_cases h0 : r = -1
  · rw [if_pos h0, decide_eq_true h0, Bool.true_or]
  · rw [if_neg h0, decide_eq_false h0, Bool.false_or, w64 (by omega) (by omega), l01In_eq]
    simp only [Option.bind_some]
    by_cases h : 0 ≤ r ∧ r ≤ (a.length : Int) - 1
    · rw [decide_eq_true h, if_pos rfl, if_pos h.1, if_pos (by omega), Bool.true_and]; rfl
    · rw [decide_eq_false h, if_neg (by decide), Bool.false_and]
theorem div4 {s : Int} (h0 : 0 ≤ s) (h1 : s ≤ 15) : wrap64 (Int.tdiv s 4) = s / 4 ∧ Int.tmod s 4 = s % 4 ∧ 0 ≤ s / 4 ∧ s / 4 < 4 ∧ 0 ≤ s % 4 ∧ s % 4 < 4 := by
  rw [Int.tdiv_eq_ediv_of_nonneg h0, Int.tmod_eq_emod_of_nonneg h0, w64 (by omega) (by omega)]
  omega
theorem root_lt {a : List S47} {r : Int} (h : rootB a r = true) : 0 ≤ r ∧ r.toNat < a.length ∧ (a.getD r.toNat z47).f0 = false := by
  unfold rootB at h
  rw [Bool.and_eq_true, decide_eq_true_eq, Bool.not_eq_true'] at h
  exact ⟨h.1.1, by omega, h.2⟩
theorem iNumber_eq (a : List S47) (r s : Int) (ha : arenaB a = true) (hr : rootB a r = true) (h0 : 0 ≤ s) (h1 : s ≤ 15) : impl_numberAt.f a r s = some (numB a r s) := by
  obtain ⟨r0, rl, rf⟩ := root_lt hr
  obtain ⟨d1, d2, d3, d4, d5, d6⟩ := div4 h0 h1
  have h4 := (knot_of ha rl).1
  have hk := kid_of ha rl rf (j := (s / 4).toNat) (by omega)
  unfold impl_numberAt.f numB
  simp only [d1, d2]
  show (if 0 ≤ r then if r < (a.length : Int) then if 0 ≤ s / 4 then if s / 4 < (((a.getD r.toNat z47).f1.length : Nat) : Int) then if (a.getD r.toNat z47).f1.getD (s / 4).toNat 0 < 0 then some 0 else if 0 ≤ (a.getD r.toNat z47).f1.getD (s / 4).toNat 0 then if (a.getD r.toNat z47).f1.getD (s / 4).toNat 0 < (a.length : Int) then if 0 ≤ s % 4 then if s % 4 < (((a.getD ((a.getD r.toNat z47).f1.getD (s / 4).toNat 0).toNat z47).f1.length : Nat) : Int) then some ((a.getD ((a.getD r.toNat z47).f1.getD (s / 4).toNat 0).toNat z47).f1.getD (s % 4).toNat 0) else none else none else none else none else none else none else none else none) = _
  rw [if_pos r0, if_pos (by omega), if_pos d3, if_pos (by omega)]
  rcases hk with hk | ⟨k0, k1, _⟩
  · rw [if_pos (by omega), if_pos (by omega)]
  · have h5 := (knot_of ha (i := ((a.getD r.toNat z47).f1.getD (s / 4).toNat 0).toNat) (by omega)).1
    rw [if_neg (by omega), if_pos k0, if_pos (by omega), if_pos d5, if_pos (by omega), if_neg (by omega)]
theorem sGet_eq (a : List S47) (r s : Int) (ha : arenaB a = true) (hr : rootB a r = true) (h0 : 0 ≤ s) (h1 : s ≤ 15) : spec_l11Get.f a r s = some (numB a r s) := by
  obtain ⟨r0, rl, rf⟩ := root_lt hr
  have h := iNumber_eq a r s ha hr h0 h1
  unfold impl_numberAt.f at h
  unfold spec_l11Get.f
  rw [if_neg (by omega)]
  exact h
theorem iGetAt_ev (a : List S47) (r s : Int) (hn : a.length ≤ 9223372036854775807) : Ev (fun k => impl_GetAt.f k a r s) (getB a r s) := by
  unfold impl_GetAt.f getB
  simp only [in_eq, iRoot_eq a r hn, Option.bind_some, decide_eq_true_eq]
  by_cases h1 : 0 ≤ s ∧ s ≤ 15
  · by_cases h2 : rootB a r = true
    · simp only [if_pos h1, if_pos h2]
      refine ev_bind (iArena_ev a hn) ?_
      by_cases h3 : arenaB a = true
      · simp only [if_pos h3, if_pos (show (0 ≤ s ∧ s ≤ 15) ∧ rootB a r = true ∧ arenaB a = true from ⟨h1, h2, h3⟩)]
        rw [iNumber_eq a r s h3 h2 h1.1 h1.2]
        exact Ev.now _
      · simp only [if_neg h3, if_neg (show ¬ ((0 ≤ s ∧ s ≤ 15) ∧ rootB a r = true ∧ arenaB a = true) from fun h => h3 h.2.2)]
        exact Ev.now _
    · simp only [if_pos h1, if_neg h2, if_neg (show ¬ ((0 ≤ s ∧ s ≤ 15) ∧ rootB a r = true ∧ arenaB a = true) from fun h => h2 h.2.1)]
      exact Ev.now _
  · simp only [if_neg h1, if_neg (show ¬ ((0 ≤ s ∧ s ≤ 15) ∧ rootB a r = true ∧ arenaB a = true) from fun h => h1 h.1)]
    exact Ev.now _
theorem sGetAt_ev (a : List S47) (r s : Int) (hn : a.length ≤ 9223372036854775807) : Ev (fun k => spec_GetAt.f k a r s) (getB a r s) := by
  unfold spec_GetAt.f getB
  refine ev_bind (sArena_ev a hn) ?_
  by_cases h3 : arenaB a = true
  · simp only [if_pos h3, l01In_eq, sRoot_eq a r hn, Option.bind_some]
    by_cases h2 : rootB a r = true
    · simp only [h2, Bool.or_true, if_true]
      by_cases h1 : 0 ≤ s ∧ s ≤ 15
      · simp only [decide_eq_true h1, if_true, if_pos (show (0 ≤ s ∧ s ≤ 15) ∧ True ∧ arenaB a = true from ⟨h1, trivial, h3⟩)]
        rw [sGet_eq a r s h3 h2 h1.1 h1.2]
        exact Ev.now _
      · simp only [decide_eq_false h1, Bool.false_eq_true, if_false, if_neg (show ¬ ((0 ≤ s ∧ s ≤ 15) ∧ True ∧ arenaB a = true) from fun h => h1 h.1)]
        exact Ev.now _
    · have e : getB a r s = 0 := by unfold getB; exact if_neg fun h => h2 h.2.1
      unfold getB at e
      rw [e]
      by_cases h0 : r = -1
      · simp only [decide_eq_true h0, Bool.true_or, if_true]
        by_cases h1 : 0 ≤ s ∧ s ≤ 15
        · simp only [decide_eq_true h1, if_true]
          unfold spec_l11Get.f
          simp only [if_pos (show r < 0 by omega), Option.bind_some]
          exact Ev.now _
        · simp only [decide_eq_false h1, Bool.false_eq_true, if_false]
          exact Ev.now _
      · simp only [decide_eq_false h0, Bool.eq_false_iff.mpr h2, Bool.or_self, Bool.false_eq_true, if_false]
        exact Ev.now _
  · simp only [if_neg h3, if_neg (show ¬ ((0 ≤ s ∧ s ≤ 15) ∧ rootB a r = true ∧ arenaB a = true) from fun h => h3 h.2.2)]
    exact Ev.now _
end Go.Proofs.Ytjpjikhokpfhmaa.Pu

/- The copies of an arena. -/
namespace Go.Proofs.Ytjpjikhokpfhmaa.Pu
set_option linter.unusedVariables false
set_option linter.unusedSimpArgs false
open Go.RowKit Go.Proofs.Ytjpjikhokpfhmaa.PT Go.Proofs.YtjpjikhokpfhmaaW.PrintWords

theorem drop_cons {α : Type} {l : List α} {i : Nat} (z : α) (h : i < l.length) : l.drop i = l.getD i z :: l.drop (i + 1) := by
  rw [List.drop_eq_getElem_cons h, List.getD_eq_getElem?_getD, List.getElem?_eq_getElem h]; rfl
theorem sCopyArena_ev (a : List S47) (hn : a.length ≤ 1048576) (hx : ∀ x ∈ a, x.f1.length ≤ 1048576) : Ev (fun k => spec_l11Copy.f k a) a := by
  have main : ∀ (d i : Nat) (acc : List S47), i + d = a.length → acc.length = i → Ev (fun k => spec_l11Copy.l0 k (i : Int) a acc) (acc ++ a.drop i) := by
    intro d
    induction d with
    | zero => intro i acc hi hl; exact ev_some fun k => by simp only [spec_l11Copy.l0]; rw [if_neg (by omega), List.drop_eq_nil_of_le (by omega), List.append_nil]
    | succ d ih =>
      intro i acc hi hl
      have hil : i < a.length := by omega
      have hm := hx _ (getD_mem (z := z47) hil)
      have h := ih (i + 1) (acc ++ [a.getD i z47]) (by omega) (by simp; omega)
      rw [List.append_assoc, List.singleton_append, ← drop_cons z47 hil] at h
      refine Ev.step (fun k => ?_) h
      simp only [spec_l11Copy.l0]
      rw [if_pos (by omega), if_pos (by omega), rdIK_nat, Option.bind_some, if_pos (show ([] : List Int).length + (a.getD i z47).f1.length < 17592186044416 by rw [List.length_nil]; omega), if_pos (by omega), wsucc (n := a.length) hil (by omega), List.nil_append]
  have h := main a.length 0 [] (by omega) rfl
  rw [List.nil_append, List.drop_zero] at h
  exact h
theorem iCopyInts_eq {l : List Int} (h : l.length ≤ 1048576) : impl_copyInts.f l = some l := by
  unfold impl_copyInts.f
  rw [if_pos (by simp; omega), List.nil_append]
theorem app_ok {α : Type} (l : List α) {c : Nat} : l ++ [] = l := List.append_nil l
theorem iCopyArena_ev (a : List S47) (hn : a.length ≤ 1048576) (hx : ∀ x ∈ a, x.f1.length ≤ 1048576) : Ev (fun k => impl_copyArena.f k a) a := by
  have main : ∀ (d i : Nat) (acc : List S47), i + d = a.length → acc.length = i → Ev (fun k => impl_copyArena.l0 k a a.length (i : Int) acc) (acc ++ a.drop i) := by
    intro d
    induction d with
    | zero => intro i acc hi hl; exact ev_some fun k => by simp only [impl_copyArena.l0]; rw [if_neg (by omega), List.drop_eq_nil_of_le (by omega), List.append_nil]
    | succ d ih =>
      intro i acc hi hl
      have hil : i < a.length := by omega
      have h := ih (i + 1) (acc ++ [a.getD i z47]) (by omega) (by simp; omega)
      rw [List.append_assoc, List.singleton_append, ← drop_cons z47 hil] at h
      refine Ev.step (fun k => ?_) h
      simp only [impl_copyArena.l0]
      rw [if_pos (by omega), if_pos (by omega), if_pos (by omega), rdIK_nat, iCopyInts_eq (hx _ (getD_mem hil)), Option.bind_some, if_pos (by omega), wsucc (n := a.length) hil (by omega)]
  have h := main a.length 0 [] (by omega) rfl
  rw [List.nil_append, List.drop_zero] at h
  exact h
end Go.Proofs.Ytjpjikhokpfhmaa.Pu

/- What is put into a tree, as one function; the program's and the reference's PutAt answer it. -/
namespace Go.Proofs.Ytjpjikhokpfhmaa.Pu
set_option linter.unusedVariables false
set_option linter.unusedSimpArgs false
open Go.RowKit Go.Proofs.Ytjpjikhokpfhmaa.PT Go.Proofs.YtjpjikhokpfhmaaW.PrintWords

def topB (a : List S47) (r : Int) : List Int := if r = -1 then [-1, -1, -1, -1] else (a.getD r.toNat z47).f1
def leafB (a : List S47) (r s : Int) : List Int := if 0 ≤ (topB a r).getD (s / 4).toNat 0 then (a.getD ((topB a r).getD (s / 4).toNat 0).toNat z47).f1 else List.replicate 4 0
def canPut (a : List S47) (r s n : Int) : Prop := arenaB a = true ∧ (r = -1 ∨ rootB a r = true) ∧ (0 ≤ s ∧ s ≤ 15) ∧ 0 ≤ n
instance (a : List S47) (r s n : Int) : Decidable (canPut a r s n) := by unfold canPut; infer_instance
def putB (a : List S47) (r s n : Int) : List S47 × Int :=
  if canPut a r s n then (a ++ [⟨true, (leafB a r s).set (s % 4).toNat n⟩, ⟨false, (topB a r).set (s / 4).toNat (a.length : Int)⟩], (a.length : Int) + 1) else (a, r)
theorem putB_no {a : List S47} {r s n : Int} (h : ¬ canPut a r s n) : putB a r s n = (a, r) := if_neg h
theorem putB_yes {a : List S47} {r s n : Int} {t l : List Int} (h : canPut a r s n) (ht : topB a r = t) (hl : leafB a r s = l) :
    putB a r s n = (a ++ [⟨true, l.set (s % 4).toNat n⟩, ⟨false, t.set (s / 4).toNat (a.length : Int)⟩], (a.length : Int) + 1) := by
  unfold putB; rw [if_pos h, ht, hl]
theorem none4 : ∀ j : Nat, j < 4 → ([-1, -1, -1, -1] : List Int).getD j 0 = -1 := by decide
theorem rd_toNat (l : List Int) (i : Int) : rd l i = l.getD i.toNat 0 := Eq.trans rfl rfl
theorem rdK_toNat (l : List S47) (i : Int) : rd_T47 l i = l.getD i.toNat z47 := Eq.trans rfl rfl
theorem rep4_len : (List.replicate 4 (0 : Int)).length = 4 := rfl
theorem leaf_new {a : List S47} {r s : Int} {t : List Int} (ht : topB a r = t) (h : ¬ 0 ≤ t.getD (s / 4).toNat 0) : leafB a r s = List.replicate 4 0 := by
  unfold leafB; rw [ht, if_neg h]
theorem leaf_old {a : List S47} {r s : Int} {t : List Int} (ht : topB a r = t) (h : 0 ≤ t.getD (s / 4).toNat 0) : leafB a r s = (a.getD (t.getD (s / 4).toNat 0).toNat z47).f1 := by
  unfold leafB; rw [ht, if_pos h]
theorem top_none {a : List S47} {r : Int} (h : r = -1) : topB a r = [-1, -1, -1, -1] := if_pos h
theorem top_some {a : List S47} {r : Int} (h : ¬ r = -1) : topB a r = (a.getD r.toNat z47).f1 := if_neg h
theorem putB_bound {a : List S47} {r s n : Int} (hn : a.length ≤ 1048576) (hx : ∀ x ∈ a, x.f1.length ≤ 1048576) : (putB a r s n).1.length ≤ 1048578 ∧ ∀ x ∈ (putB a r s n).1, x.f1.length ≤ 1048576 := by
  by_cases h : canPut a r s n
  · have top : (topB a r).length ≤ 1048576 := by
      by_cases h0 : r = -1
      · rw [top_none h0]; decide
      · rw [top_some h0]
        obtain ⟨_, h2, _⟩ := h
        obtain ⟨_, rl, _⟩ := root_lt (h2.resolve_left h0)
        exact hx _ (getD_mem rl)
    have leaf : (leafB a r s).length ≤ 1048576 := by
      unfold leafB
      split
      · by_cases hi : ((topB a r).getD (s / 4).toNat 0).toNat < a.length
        · exact hx _ (getD_mem hi)
        · rw [List.getD_eq_getElem?_getD, List.getElem?_eq_none (by omega)]; exact Nat.zero_le _
      · rw [List.length_replicate]; omega
    rw [putB_yes h rfl rfl]
    refine ⟨by simp only [List.length_append, List.length_cons, List.length_nil]; omega, fun x hx' => ?_⟩
    rcases List.mem_append.1 hx' with hx' | hx'
    · exact hx _ hx'
    · rcases List.mem_cons.1 hx' with rfl | hx'
      · show (List.set _ _ _).length ≤ _
        rw [List.length_set]; exact leaf
      · obtain rfl := List.mem_singleton.1 hx'
        show (List.set _ _ _).length ≤ _
        rw [List.length_set]; exact top
  · rw [putB_no h]; exact ⟨by show a.length ≤ _; omega, hx⟩
theorem iPut_ev (a : List S47) (r s n : Int) (hn : a.length ≤ 1048576) (hx : ∀ x ∈ a, x.f1.length ≤ 1048576) : Ev (fun k => impl_PutAt.f k a r s n) (putB a r s n) := by
  unfold impl_PutAt.f
  refine ev_bind (iCopyArena_ev a hn hx) ?_
  by_cases h0 : r = -1
  · simp only [if_pos h0, in_eq, Option.bind_some, decide_eq_true_eq]
    by_cases h1 : 0 ≤ s ∧ s ≤ 15
    · obtain ⟨d1, d2, d3, d4, d5, d6⟩ := div4 h1.1 h1.2
      simp only [if_pos h1]
      by_cases h2 : n < 0
      · simp only [if_pos h2]; rw [putB_no (fun h => by have := h.2.2.2; omega)]; exact Ev.now _
      · simp only [if_neg h2]
        refine ev_bind (iArena_ev a (by omega)) ?_
        by_cases h3 : arenaB a = true
        · have hc : canPut a r s n := ⟨h3, .inl h0, h1, by omega⟩
          have ht := top_none (a := a) h0
          have hq : ¬ 0 ≤ ([-1, -1, -1, -1] : List Int).getD (s / 4).toNat 0 := by rw [none4 _ (by omega)]; decide
          rw [putB_yes hc ht (leaf_new ht hq)]
          simp only [if_pos h3, d1, d2, rd_toNat]
          rw [if_pos d3, if_pos d4, if_neg hq, if_pos d5, if_pos d6, if_pos (by omega), w64 (by omega) (by omega)]
          exact Ev.now _
        · simp only [if_neg h3]; rw [putB_no (fun h => h3 h.1)]; exact Ev.now _
    · simp only [if_neg h1]; rw [putB_no (fun h => h1 h.2.2.1)]; exact Ev.now _
  · simp only [if_neg h0, iRoot_eq a r (by omega), in_eq, Option.bind_some, decide_eq_true_eq]
    by_cases hr : rootB a r = true
    · obtain ⟨r0, rl, rf⟩ := root_lt hr
      simp only [if_pos hr]
      by_cases h1 : 0 ≤ s ∧ s ≤ 15
      · obtain ⟨d1, d2, d3, d4, d5, d6⟩ := div4 h1.1 h1.2
        simp only [if_pos h1]
        by_cases h2 : n < 0
        · simp only [if_pos h2]; rw [putB_no (fun h => by have := h.2.2.2; omega)]; exact Ev.now _
        · simp only [if_neg h2]
          refine ev_bind (iArena_ev a (by omega)) ?_
          by_cases h3 : arenaB a = true
          · have hc : canPut a r s n := ⟨h3, .inr hr, h1, by omega⟩
            have ht := top_some (a := a) h0
            have h4 := (knot_of h3 rl).1
            have hk := kid_of h3 rl rf (j := (s / 4).toNat) (by omega)
            simp only [if_pos h3, d1, d2, rdK_toNat]
            rw [if_pos r0, if_pos (by omega), iCopyInts_eq (hx _ (getD_mem rl)), Option.bind_some, if_pos d3, if_pos (by omega)]
            simp only [rd_toNat]
            rcases hk with hk | ⟨k0, k1, _⟩
            · have hq : ¬ 0 ≤ (a.getD r.toNat z47).f1.getD (s / 4).toNat 0 := by omega
              rw [putB_yes hc ht (leaf_new ht hq), if_neg hq, if_pos d5, if_pos d6, if_pos (by omega), w64 (by omega) (by omega)]
              exact Ev.now _
            · have hi : ((a.getD r.toNat z47).f1.getD (s / 4).toNat 0).toNat < a.length := by omega
              have h5 := (knot_of h3 hi).1
              rw [putB_yes hc ht (leaf_old ht k0), if_pos k0, if_pos (by omega), iCopyInts_eq (hx _ (getD_mem hi)), Option.bind_some, if_pos d5, if_pos (by omega), if_pos (by omega), w64 (by omega) (by omega)]
              exact Ev.now _
          · simp only [if_neg h3]; rw [putB_no (fun h => h3 h.1)]; exact Ev.now _
      · simp only [if_neg h1]; rw [putB_no (fun h => h1 h.2.2.1)]; exact Ev.now _
    · simp only [if_neg hr]; rw [putB_no (fun h => hr (h.2.1.resolve_left h0))]; exact Ev.now _
theorem sPut_ev (a : List S47) (r s n : Int) (hn : a.length ≤ 1048576) (hx : ∀ x ∈ a, x.f1.length ≤ 1048576) : Ev (fun k => spec_PutAt.f k a r s n) (putB a r s n) := by
  unfold spec_PutAt.f
  refine ev_bind (sCopyArena_ev a hn hx) (ev_bind (sArena_ev a (by omega)) ?_)
  by_cases h3 : arenaB a = true
  · simp only [if_pos h3, sRoot_eq a r (by omega), l01In_eq, Option.bind_some, Bool.or_eq_true, decide_eq_true_eq]
    by_cases hr : r = -1 ∨ rootB a r = true
    · simp only [if_pos hr]
      by_cases h1 : 0 ≤ s ∧ s ≤ 15
      · obtain ⟨d1, d2, d3, d4, d5, d6⟩ := div4 h1.1 h1.2
        simp only [if_pos h1]
        by_cases h2 : n < 0
        · simp only [if_pos h2]; rw [putB_no (fun h => by have := h.2.2.2; omega)]; exact Ev.now _
        · simp only [if_neg h2]
          have hc : canPut a r s n := ⟨h3, hr, h1, by omega⟩
          by_cases h0 : r = -1
          · have ht := top_none (a := a) h0
            have hq : ¬ 0 ≤ ([-1, -1, -1, -1] : List Int).getD (s / 4).toNat 0 := by rw [none4 _ (by omega)]; decide
            simp only [d1, d2]
            rw [putB_yes hc ht (leaf_new ht hq), if_neg (by omega), if_pos d3, if_pos d4, if_pos d5, if_pos d6, if_pos (by omega), w64 (by omega) (by omega), show (a.length : Int) + 2 - 1 = a.length + 1 by omega]
            exact Ev.now _
          · have ht := top_some (a := a) h0
            obtain ⟨r0, rl, rf⟩ := root_lt (hr.resolve_left h0)
            have h4 := (knot_of h3 rl).1
            have hk := kid_of h3 rl rf (j := (s / 4).toNat) (by omega)
            simp only [d1, d2, rdK_toNat]
            rw [if_pos r0, if_pos (by omega), if_pos (by omega), if_pos d3, if_pos (by omega)]
            simp only [rd_toNat]
            rcases hk with hk | ⟨k0, k1, _⟩
            · have hq : ¬ 0 ≤ (a.getD r.toNat z47).f1.getD (s / 4).toNat 0 := by omega
              rw [putB_yes hc ht (leaf_new ht hq), if_neg hq, if_pos d5, if_pos d6, if_pos (by omega), w64 (by omega) (by omega), show (a.length : Int) + 2 - 1 = a.length + 1 by omega]
              exact Ev.now _
            · have hi : ((a.getD r.toNat z47).f1.getD (s / 4).toNat 0).toNat < a.length := by omega
              have h5 := (knot_of h3 hi).1
              rw [putB_yes hc ht (leaf_old ht k0), if_pos k0, if_pos (by omega), if_pos (by omega), if_pos d5, if_pos (by omega), if_pos (by omega), w64 (by omega) (by omega), show (a.length : Int) + 2 - 1 = a.length + 1 by omega]
              exact Ev.now _
      · simp only [if_neg h1]; rw [putB_no (fun h => h1 h.2.2.1)]; exact Ev.now _
    · simp only [if_neg hr]; rw [putB_no (fun h => hr h.2.1)]; exact Ev.now _
  · simp only [if_neg h3]; rw [putB_no (fun h => h3 h.1)]; exact Ev.now _
end Go.Proofs.Ytjpjikhokpfhmaa.Pu

/- More plain facts on rounds: tests in a row, folds, searches. -/
namespace Go.Proofs.Ytjpjikhokpfhmaa.Pu
set_option linter.unusedVariables false
set_option linter.unusedSimpArgs false
open Go.RowKit Go.Proofs.YtjpjikhokpfhmaaW.PrintWords

/-- Tests in a row, one a round; then what comes. -/
theorem ev_scan {L : Nat → Int → Option Bool} {g : Nat → Option Bool} {n : Nat} {T : Nat → Bool} {r : Bool}
    (hs : ∀ k i, i < n → L (k + 1) (i : Int) = if T i = true then L k ((i + 1 : Nat) : Int) else some false) (he : ∀ k, L (k + 1) (n : Int) = g k) (hr : Ev g r) :
    ∀ (d i : Nat), i + d = n → Ev (fun k => L k (i : Int)) ((List.range' i d).all T && r) := by
  intro d
  induction d with
  | zero =>
    intro i hi
    obtain rfl : i = n := by omega
    exact Ev.step he hr
  | succ d ih =>
    intro i hi
    rw [List.range'_succ, List.all_cons]
    by_cases h : T i = true
    · rw [h, Bool.true_and]
      exact Ev.step (fun k => by rw [hs k i (by omega), if_pos h]) (ih (i + 1) (by omega))
    · rw [Bool.eq_false_iff.mpr h, Bool.false_and, Bool.false_and]
      exact ev_some fun k => by rw [hs k i (by omega), if_neg h]
/-- Tests in a row, each of many rounds; then what comes. -/
theorem ev_outer {L : Nat → Int → Option Bool} {n : Nat} {T : Nat → Bool} {r0 : Bool}
    (hs : ∀ i r, i < n → Ev (fun k => L k ((i + 1 : Nat) : Int)) r → Ev (fun k => L k (i : Int)) (T i && r)) (he : Ev (fun k => L k (n : Int)) r0) :
    ∀ (d i : Nat), i + d = n → Ev (fun k => L k (i : Int)) ((List.range' i d).all T && r0) := by
  intro d
  induction d with
  | zero =>
    intro i hi
    obtain rfl : i = n := by omega
    exact he
  | succ d ih =>
    intro i hi
    rw [List.range'_succ, List.all_cons, Bool.and_assoc]
    exact hs i _ (by omega) (ih (i + 1) (by omega))
/-- A state that is carried along; then what comes. -/
theorem ev_fold {σ ρ : Type} {L : Nat → σ → Int → Option ρ} {n : Nat} {F : σ → Nat → σ} {fin : σ → ρ} (Inv : Nat → σ → Prop)
    (hs : ∀ s i, i < n → Inv i s → ∀ r, Ev (fun k => L k (F s i) ((i + 1 : Nat) : Int)) r → Ev (fun k => L k s (i : Int)) r) (hi : ∀ s i, i < n → Inv i s → Inv (i + 1) (F s i))
    (he : ∀ s, Inv n s → Ev (fun k => L k s (n : Int)) (fin s)) : ∀ (d i : Nat) (s : σ), i + d = n → Inv i s → Ev (fun k => L k s (i : Int)) (fin ((List.range' i d).foldl F s)) := by
  intro d
  induction d with
  | zero =>
    intro i s h hv
    obtain rfl : i = n := by omega
    exact he s hv
  | succ d ih =>
    intro i s h hv
    rw [List.range'_succ, List.foldl_cons]
    exact hs s i (by omega) hv _ (ih (i + 1) (F s i) (by omega) (hi s i (by omega) hv))
/-- The first place that meets a test, -1 without one. -/
def findI (T : Nat → Bool) : Nat → Nat → Int
  | _, 0 => -1
  | i, d + 1 => if T i = true then (i : Int) else findI T (i + 1) d
theorem ev_find {L : Nat → Int → Option Int} {n : Nat} {T : Nat → Bool}
    (hy : ∀ i, i < n → T i = true → Ev (fun k => L k (i : Int)) (i : Int)) (hn : ∀ i, i < n → T i = false → ∀ r, Ev (fun k => L k ((i + 1 : Nat) : Int)) r → Ev (fun k => L k (i : Int)) r)
    (he : Ev (fun k => L k (n : Int)) (-1)) : ∀ (d i : Nat), i + d = n → Ev (fun k => L k (i : Int)) (findI T i d) := by
  intro d
  induction d with
  | zero =>
    intro i hi
    obtain rfl : i = n := by omega
    exact he
  | succ d ih =>
    intro i hi
    unfold findI
    by_cases h : T i = true
    · rw [if_pos h]; exact hy i (by omega) h
    · rw [if_neg h]; exact hn i (by omega) (Bool.eq_false_iff.mpr h) _ (ih (i + 1) (by omega))
theorem findI_range {T : Nat → Bool} : ∀ (d i : Nat), findI T i d = -1 ∨ ∃ j, i ≤ j ∧ j < i + d ∧ findI T i d = (j : Int) ∧ T j = true
  | 0, i => .inl rfl
  | d + 1, i => by
    unfold findI
    by_cases h : T i = true
    · rw [if_pos h]; exact .inr ⟨i, Nat.le_refl _, by omega, rfl, h⟩
    · rw [if_neg h]
      rcases findI_range d (i + 1) with h1 | ⟨j, h1, h2, h3, h4⟩
      · exact .inl h1
      · exact .inr ⟨j, by omega, by omega, h3, h4⟩
theorem bytes_empty (a : ByteArray) : (a.toList == ([] : List UInt8)) = decide ((a.size : Int) ≤ 0) := by
  rw [ByteArray.toList_eq]
  have h : a.data.toList.length = a.size := by rw [Array.length_toList]; rfl
  cases e : a.data.toList with
  | nil =>
    have h1 : a.size = 0 := by rw [← h, e]; rfl
    rw [decide_eq_true (by omega)]; rfl
  | cons x l =>
    have h1 : a.size = l.length + 1 := by rw [← h, e]; rfl
    rw [decide_eq_false (by omega)]; rfl
theorem getD_mem' {α : Type} {l : List α} {i : Nat} {z : α} (hi : i < l.length) : l.getD i z ∈ l := by
  rw [List.getD_eq_getElem?_getD, List.getElem?_eq_getElem hi]; exact List.getElem_mem hi
end Go.Proofs.Ytjpjikhokpfhmaa.Pu

namespace Go.Proofs.Ytjpjikhokpfhmaa.PT
open Go.RowKit Go.Proofs.YtjpjikhokpfhmaaW.PrintWords Go.Proofs.YtjpjikhokpfhmaaW.PrintLast Go.Proofs.YtjpjikhokpfhmaaW.PrintMore
attribute [local go_sem] max2_int min2_int max_two min_two max_three min_three max_four min_four   -- for this text's walks alone
set_option linter.unusedVariables false
set_option linter.unusedSimpArgs false
def spec_AllAt.l0 : Nat → Int → List Int → Int → List (S47) → Option (List Int)
 | 0,_,_,_,_=>none
 | k + 1,x1,x5,x6,x249000=>if x6 < 16 then ((spec_GetAt.f k x249000 x1 x6).bind fun t252=>(if x5.length < 17592186044416 then (spec_AllAt.l0 k x1 (x5 ++ [t252]) (wrap64 (x6 + 1)) x249000) else (none))) else (some x5)
def spec_AllAt.f (k : Nat) (l0_0 : List (S47)) (a1 : Int) : Option (List Int):=spec_AllAt.l0 k a1 (([] : List Int)) 0 l0_0
theorem spec_AllAt.mono_l : ∀ k,(∀ y0 y1 y2 y3,LeO (spec_AllAt.l0 k y0 y1 y2 y3) (spec_AllAt.l0 (k + 1) y0 y1 y2 y3))
 | 0=>fun _ _ _ _ r h=>by simp [spec_AllAt.l0] at h
 | k + 1=>by
  have ih0:=spec_AllAt.mono_l k;intro y0 y1 y2 y3;unfold spec_AllAt.l0
  repeat' first
  | (with_reducible exact ih0 _ _ _ _)
  | (with_reducible exact spec_GetAt.mono _ _ _ _)
  | (with_reducible exact LeO.refl _)
  | (with_reducible exact LeO.none _)
  | (with_reducible refine LeO.ite ?_ ?_)
  | (with_reducible refine LeO.bind ?_ (fun _=>?_))
  | exact ih0 _ _ _ _
  | exact spec_GetAt.mono _ _ _ _
  | exact LeO.none _
  | refine LeO.ite ?_ ?_
  | refine LeO.bind ?_ (fun _=>?_)
theorem spec_AllAt.mono : ∀ a0 a1 k,LeO (spec_AllAt.f k a0 a1) (spec_AllAt.f (k + 1) a0 a1):=by
 intro a0 a1 k;have ih0:=spec_AllAt.mono_l k;unfold spec_AllAt.f
 repeat' first
   | (with_reducible exact ih0 _ _ _ _)
   | (with_reducible exact spec_GetAt.mono _ _ _ _)
   | (with_reducible exact LeO.refl _)
   | (with_reducible exact LeO.none _)
   | (with_reducible refine LeO.ite ?_ ?_)
   | (with_reducible refine LeO.bind ?_ (fun _=>?_))
   | exact ih0 _ _ _ _
   | exact spec_GetAt.mono _ _ _ _
   | exact LeO.none _
   | refine LeO.ite ?_ ?_
   | refine LeO.bind ?_ (fun _=>?_)
set_option maxHeartbeats 8000000 in
set_option maxRecDepth 100000 in
theorem spec_AllAt.calls (k : Nat) (A0_0 : Option Addr) (c0_0 : Nat) (l0_0 : List (S47)) (a1 : Int) (r : List Int) (w : World) (hr0_0 : Kd.C k47 w A0_0 l0_0.length l0_0) (hc0_0 : l0_0.length ≤ c0_0) (h : spec_AllAt.f k l0_0 a1 = some r) :
  Calls Try.prog 15 #[.agg #[.slice A0_0 l0_0.length c0_0],.int .i64 a1] w fun e w'=>∃ v0_ : Value,e = .returned (v0_) ∧ Kd.R (Kd.int .i64) 3 w' w.heap.size (fun _=>True) v0_ r ∧ Below w.heap.size w w':=by
 have hu26:=Try.underlying26;have HR0_0:=Aside0.mk hr0_0;have HC0_0:=Aside0.mk hc0_0;clear hr0_0 hc0_0;have HB:=Aside0.mk (Below.refl w.heap.size w);have H : (spec_AllAt.l0 k a1 (([] : List Int)) 0 l0_0) = some r:=h;clear h;obtain ⟨y249,hy249⟩ : ∃ y_ : List Int,y_ = (([] : List Int)):=⟨_,rfl⟩;replace H : (spec_AllAt.l0 k a1 y249 0 l0_0) = some r:=by first | (rw [hy249];with_reducible exact H) | (have H2_:=(Option.bind_some _ _).symm.trans H;rw [hy249];with_reducible exact H2_) | (have H2_:=(Option.bind_some _ _).symm.trans H;with_reducible exact H2_) | with_reducible exact H | (rw [hy249];exact H) | exact H
 have Ny249:=Aside0.mk hy249;clear hy249;have H':=Aside0.mk H;clear H
 go_enter Try.func15,Try.ntmps15
 go_wp2_with (first | ((with_reducible refine gate_dst (N:=2) rfl ?_);refine box_event ?hg (N:=2) ?hd (cs:=#[.slice A0_0 l0_0.length c0_0]) (t:=26) ?hr ?_;(case hd=>rfl);(case hg=>rfl);(case hr=>first | (go_simp;done) | (go_simp;rfl));intro gb248 hg w3 hbox hb;have n0_:=Aside0.mk (below_step (hs HB) hb);have n1_:=Aside0.mk (hbox);have n2_:=Aside0.mk ((by rw [hg];exact (below_size (hs HB)) : w.heap.size ≤ gb248));have n3_:=Aside0.mk ((by rw [hg];exact (below_size (hs HB)) : w.heap.size ≤ gb248));clear HB;have HB:=n0_;have BK248:=n1_;have GW248:=n2_;have GE248:=n3_;clear n0_ n1_ n2_ n3_;clear hb hbox hg) | ((with_reducible refine gate_dst (N:=7) rfl ?_);refine Kd.R_lit (Kd.int .i64) _ 3 ?hg (N:=7) ?hd (xs:=([] : List Int)) (inner:=[]) (ok:=fun _=>True) (okp:=fun _=>True) ?hr ?hp (fun _ hk=>hk) trivial (Below.refl _ _) (Nat.le_refl _) (by simp) ?_;(case hd=>rfl);(case hg=>rfl);(case hr=>first | (go_simp;done) | (go_simp;rfl));(case hp=>exact (Reps.none _ _));intro v250 w4 ho5 hb hg_ hnew_;clear hg_ hnew_;(first | rw [← Ny249.out] at ho5 | (simp only [Int.reduceToNat] at ho5;rw [← Ny249.out] at ho5));have n0_:=Aside0.mk (Kd.R_lower ho5 (below_size (hs1 HB GE248)));have n1_:=Aside0.mk (blk_below (g:=gb248) (o:=.cells #[.slice A0_0 l0_0.length c0_0] 26 (0,0)) (bs BK248) hb);have n2_:=Aside0.mk (below_step (hs1 HB GE248) hb);clear BK248;clear HB;have HO251:=n0_;have BK248:=n1_;have HB:=n2_;clear n0_ n1_ n2_;clear hb ho5));go_loopg [5,6] k (fun kq v5 v6 w'=>∃ (x5_1 : List Int) (x6_1 : Int),v6 = .int .i64 x6_1 ∧ Aside0 (spec_AllAt.l0 kq a1 x5_1 x6_1 l0_0 = some r) ∧ Aside0 (kq ≤ k) ∧ Aside0 (Kd.R (Kd.int .i64) 3 w' w.heap.size (fun _=>True) v5 x5_1) ∧ Aside0 (w'.heap[gb248]? = some (.cells #[(.slice A0_0 l0_0.length c0_0)] 26 (0,0))) ∧ Aside0 (Below w.heap.size w w'));case atStart=>exact ⟨(y249),(0),(by first | rfl | (simp;done) | (simp [*];done)),H',⟨Nat.le_refl _⟩,⟨rs HO251⟩,⟨bs BK248⟩,⟨hs1 HB GE248⟩⟩
 case round =>
  clear H'
  try clear c1
  try clear p2
  obtain ⟨x5_1,x6_1,rfl,HA,HK1,HO_5,BK248,HB⟩:=hrel;cases gk with
  | zero=>exact absurd HA.out (by simp [spec_AllAt.l0])
  | succ k1 =>
   have H:=HA.out;clear HA;simp only [spec_AllAt.l0] at H
   by_cases c6 : x6_1 < 16
   ·rw [if_pos c6] at H;have c6b0 : decide (x6_1 < 16) = true:=decide_eq_true c6;clear c6;replace H:=Option.bind_eq_some_iff.mp H;obtain ⟨t252,A70,H⟩:=H;replace H : (if x5_1.length < 17592186044416 then (spec_AllAt.l0 k1 a1 (x5_1 ++ [t252]) (wrap64 (x6_1 + 1)) l0_0) else (none)) = some r:=H;have A7:=Aside0.mk A70;clear A70
    by_cases c8 : x5_1.length < 17592186044416
    ·rw [if_pos c8] at H;have LMc8:=Aside0.mk c8;clear c8;obtain ⟨y253,hy253⟩ : ∃ y_ : List Int,y_ = (x5_1 ++ [t252]):=⟨_,rfl⟩;replace H : (spec_AllAt.l0 k1 a1 y253 (wrap64 (x6_1 + 1)) l0_0) = some r:=by first | (rw [hy253];with_reducible exact H) | (have H2_:=(Option.bind_some _ _).symm.trans H;rw [hy253];with_reducible exact H2_) | (have H2_:=(Option.bind_some _ _).symm.trans H;with_reducible exact H2_) | with_reducible exact H | (rw [hy253];exact H) | exact H
     have Ny253:=Aside0.mk hy253;clear hy253;have H':=Aside0.mk H;clear H;have hcz9_0 : wr.cell? ⟨gb248,0,none⟩ = some (.slice A0_0 l0_0.length c0_0):=(blk_cell BK248.out 0).trans rfl;have hfz9_0:=blk_frozen BK248.out 0;go_wp2_with (first | ((with_reducible refine gate_callee (f:=12) rfl ?_);refine goesL_ (some 16) rfl rfl Try.func12 (by kernel_rfl) rfl #[.agg #[.slice A0_0 l0_0.length c0_0],.int .i64 a1,.int .i64 x6_1] rfl (by (try simp only [List.map_toArray,List.map_cons,List.map_nil]);first | done | rfl | (simp only [List.length_drop,List.length_take];rfl)) ?_;(with_reducible refine (spec_GetAt.calls k1 _ _ l0_0 a1 x6_1 t252 _ ?side1 ?side2 A7.out).mono ?_);(case side1=>repeat (first | exact (Kd.C_below HR0_0.out HB.out) | (with_reducible refine Kd.C_alloc ?_ _) | (with_reducible refine Kd.C_drewN ?_ _) | (with_reducible refine Kd.C_drew ?_)));(case side2=>exact HC0_0.out);rintro e w10 ⟨rfl,hb⟩;refine ⟨_,rfl,?_⟩;have n0_:=Aside0.mk (Kd.R_below (rs HO_5) hb);have n1_:=Aside0.mk (blk_below (g:=gb248) (o:=.cells #[.slice A0_0 l0_0.length c0_0] 26 (0,0)) (bs BK248) hb);have n2_:=Aside0.mk (below_step (hs1 HB GE248) hb);clear HO_5;clear BK248;clear HB;have HO_5:=n0_;have BK248:=n1_;have HB:=n2_;clear n0_ n1_ n2_;(try clear hb);(try clear hb2);(try clear hk);(try clear hi)) | ((with_reducible refine gate_builtin (b:=.append) (xs:=#[.tmp 12,.tmp 17]) rfl ?_);at_builtin;refine Kd.R_append (Kd.int .i64) (w0:=w) w.heap.size rfl (.tmp 12) (.tmp 17) 27 3 (.int .i64 0) 8 rfl Try.underlying27 info3 rfl (by decide) (by omega) u5 x5_1 t252 [.int .i64 t252] (fun _=>True) (fun _=>False) rfl rfl ?aP (fun _ hk=>hk.elim) ?aF ?aO ?aB ?aS ?aL ?_;(case aP=>exact rfl);(case aB=>exact (hs1 HB GE248));(case aF=>exact (fun _ _=>trivial));(case aO=>exact (rs HO_5));(case aS=>exact (below_size (hs1 HB GE248)));(case aL=>have:=LMc8.out;omega);intro v254 w11 ho hb hg hat;rw [← Ny253.out] at ho;have n0_:=Aside0.mk (blk_grown (g:=gb248) (o:=.cells #[.slice A0_0 l0_0.length c0_0] 26 (0,0)) (bs BK248) hg (Kd.R_ne HO_5.out BK248.out (by decide)));have n1_:=Aside0.mk (hb);have n2_:=Aside0.mk (ho);clear BK248;clear HB;clear HO_5;have BK248:=n0_;have HB:=n1_;have HO255:=n2_;clear n0_ n1_ n2_;clear ho hb hg hat));go_roundg k1;case measure=>have:=HK1.out;omega
     case rel=>exact ⟨(y253),(wrap64 (x6_1 + 1)),(by first | rfl | (simp;done) | (simp [*];done)),H',⟨by have:=HK1.out;omega⟩,⟨rs HO255⟩,⟨bs BK248⟩,⟨hs1 HB GE248⟩⟩
    rw [if_neg c8] at H;exact absurd H (by simp)
   rw [if_neg c6] at H;have c6b0 : decide (x6_1 < 16) = false:=decide_eq_false c6;clear c6;obtain rfl:=Option.some.inj H
   go_wp2
   go_ret
   exact ⟨_,by first | rfl | (simp [errW_none,errW_some] <;> rfl) | (simp [*,errW_none,errW_some] <;> rfl),rs HO_5,hs1 HB GE248⟩
end Go.Proofs.Ytjpjikhokpfhmaa.PT

/- The numbers of all sectors of a tree, as one list; the program's and the reference's AllAt tell it. -/
namespace Go.Proofs.Ytjpjikhokpfhmaa.Pu
set_option linter.unusedVariables false
set_option linter.unusedSimpArgs false
open Go.RowKit Go.Proofs.Ytjpjikhokpfhmaa.PT Go.Proofs.YtjpjikhokpfhmaaW.PrintWords

def allB (a : List S47) (r : Int) : List Int := (List.range' 0 16).map fun (i : Nat) => getB a r (i : Int)
theorem allB_len (a : List S47) (r : Int) : (allB a r).length = 16 := by simp [allB]
theorem allB_get (a : List S47) (r : Int) {i : Nat} (hi : i < 16) : (allB a r).getD i 0 = getB a r (i : Int) := by
  rw [List.getD_eq_getElem?_getD, List.getElem?_eq_getElem (by rw [allB_len]; exact hi)]
  simp [allB]
theorem iAllAt_ev (a : List S47) (r : Int) (hn : a.length ≤ 9223372036854775807) : Ev (fun k => impl_AllAt.f k a r) (allB a r) := by
  have main : ∀ (d i : Nat) (acc : List Int), i + d = 16 → acc.length = i → Ev (fun k => impl_AllAt.l0 k r acc (i : Int) a) (acc ++ (List.range' i d).map fun (i : Nat) => getB a r (i : Int)) := by
    intro d
    induction d with
    | zero => intro i acc hi hl; exact ev_some fun k => by simp only [impl_AllAt.l0]; rw [if_neg (by omega)]; simp
    | succ d ih =>
      intro i acc hi hl
      have h := ih (i + 1) (acc ++ [getB a r (i : Int)]) (by omega) (by simp; omega)
      rw [List.append_assoc, List.singleton_append] at h
      rw [List.range'_succ, List.map_cons]
      refine Ev.step (f := fun k => (impl_GetAt.f k a r (i : Int)).bind fun t => impl_AllAt.l0 k r (acc ++ [t]) ((i + 1 : Nat) : Int) a) (fun k => ?_) (ev_bind (iGetAt_ev a r i hn) h)
      simp only [impl_AllAt.l0]
      rw [if_pos (by omega), wsucc (n := 16) (by omega) (by omega)]
      simp only [if_pos (show acc.length < 17592186044416 by omega)]
  exact main 16 0 [] rfl rfl
theorem sAllAt_ev (a : List S47) (r : Int) (hn : a.length ≤ 9223372036854775807) : Ev (fun k => spec_AllAt.f k a r) (allB a r) := by
  have main : ∀ (d i : Nat) (acc : List Int), i + d = 16 → acc.length = i → Ev (fun k => spec_AllAt.l0 k r acc (i : Int) a) (acc ++ (List.range' i d).map fun (i : Nat) => getB a r (i : Int)) := by
    intro d
    induction d with
    | zero => intro i acc hi hl; exact ev_some fun k => by simp only [spec_AllAt.l0]; rw [if_neg (by omega)]; simp
    | succ d ih =>
      intro i acc hi hl
      have h := ih (i + 1) (acc ++ [getB a r (i : Int)]) (by omega) (by simp; omega)
      rw [List.append_assoc, List.singleton_append] at h
      rw [List.range'_succ, List.map_cons]
      refine Ev.step (f := fun k => (spec_GetAt.f k a r (i : Int)).bind fun t => spec_AllAt.l0 k r (acc ++ [t]) ((i + 1 : Nat) : Int) a) (fun k => ?_) (ev_bind (sGetAt_ev a r i hn) h)
      simp only [spec_AllAt.l0]
      rw [if_pos (by omega), wsucc (n := 16) (by omega) (by omega)]
      simp only [if_pos (show acc.length < 17592186044416 by omega)]
  exact main 16 0 [] rfl rfl
theorem drop_get {α : Type} {l : List α} {i : Nat} (z : α) (h : i < l.length) : l.drop i = l.getD i z :: l.drop (i + 1) := by
  rw [List.drop_eq_getElem_cons h, List.getD_eq_getElem?_getD, List.getElem?_eq_getElem h]; rfl
end Go.Proofs.Ytjpjikhokpfhmaa.Pu

/- Trees: what is put into a tree is there, all else is as it was; a right arena stays right. -/

namespace Go.Proofs.Ytjpjikhokpfhmaa.Pu
set_option linter.unusedVariables false
set_option linter.unusedSimpArgs false
open Go.RowKit Go.Proofs.Ytjpjikhokpfhmaa.PT Go.Proofs.YtjpjikhokpfhmaaW.PrintWords

theorem getD_app {α : Type} {a t : List α} {i : Nat} {z : α} (h : i < a.length) : (a ++ t).getD i z = a.getD i z := by
  rw [List.getD_eq_getElem?_getD, List.getD_eq_getElem?_getD, List.getElem?_append_left h]
theorem getD_app0 {α : Type} {a : List α} {x y z : α} : (a ++ [x, y]).getD a.length z = x := by
  rw [List.getD_eq_getElem?_getD, List.getElem?_append_right (by omega), Nat.sub_self]; rfl
theorem getD_app1 {α : Type} {a : List α} {x y z : α} : (a ++ [x, y]).getD (a.length + 1) z = y := by
  rw [List.getD_eq_getElem?_getD, List.getElem?_append_right (by omega), Nat.add_sub_cancel_left]; rfl
theorem getD_set' {α : Type} {l : List α} {c : Nat} (i : Nat) (v z : α) (hc : c < l.length) : (l.set c v).getD i z = if c = i then v else l.getD i z := by
  rw [List.getD_eq_getElem?_getD, List.getD_eq_getElem?_getD, List.getElem?_set]
  by_cases h : c = i
  · subst h; simp [hc]
  · rw [if_neg h, if_neg h]
theorem getD_rep' {α : Type} (n i : Nat) (z : α) : (List.replicate n z).getD i z = z := by
  rw [List.getD_eq_getElem?_getD, List.getElem?_replicate]
  by_cases h : i < n <;> simp [h]
theorem kidB_app {a t : List S47} {i : Nat} (hi : i ≤ a.length) (leaf : Bool) (n : Int) : kidB (a ++ t) i leaf n = kidB a i leaf n := by
  unfold kidB
  by_cases h : leaf = true
  · rw [if_pos h, if_pos h]
  · rw [if_neg h, if_neg h]
    by_cases hk : 0 ≤ n ∧ n ≤ (i : Int) - 1
    · rw [getD_app (by omega)]
    · rw [decide_eq_false hk, Bool.false_and, Bool.false_and]
theorem knotB_app {a t : List S47} {i : Nat} (hi : i ≤ a.length) (x : S47) : knotB (a ++ t) i x = knotB a i x := by
  unfold knotB; rw [show kidB (a ++ t) i x.f0 = kidB a i x.f0 from funext fun n => kidB_app hi _ _]
theorem arenaB_iff {a : List S47} : arenaB a = true ↔ ∀ i, i < a.length → knotB a i (a.getD i z47) = true := by
  unfold arenaB
  rw [List.all_eq_true]
  constructor
  · intro h i hi; exact h i (by simp; omega)
  · intro h i hi; simp at hi; exact h i (by omega)
theorem knotB_iff {a : List S47} {i : Nat} {x : S47} : knotB a i x = true ↔ x.f1.length = 4 ∧ ∀ n ∈ x.f1, kidB a i x.f0 n = true := by
  unfold knotB; rw [Bool.and_eq_true, decide_eq_true_eq, List.all_eq_true]
theorem kid_leaf {a : List S47} {i : Nat} {n : Int} : kidB a i true n = true ↔ 0 ≤ n := by
  unfold kidB; rw [if_pos rfl, decide_eq_true_eq]
theorem kid_top {a : List S47} {i : Nat} {n : Int} : kidB a i false n = true ↔ n = -1 ∨ ((0 ≤ n ∧ n ≤ (i : Int) - 1) ∧ (a.getD n.toNat z47).f0 = true) := by
  unfold kidB; rw [if_neg (by decide), Bool.or_eq_true, Bool.and_eq_true, decide_eq_true_eq, decide_eq_true_eq]
/-- What is put on: the knots of a tree are right. -/
theorem top_right {a : List S47} {r : Int} (ha : arenaB a = true) (hr : r = -1 ∨ rootB a r = true) : (topB a r).length = 4 ∧ ∀ n ∈ topB a r, kidB a a.length false n = true := by
  by_cases h0 : r = -1
  · rw [top_none h0]
    refine ⟨rfl, fun n hn => ?_⟩
    have : n = -1 := by simpa using hn
    exact kid_top.2 (.inl this)
  · obtain ⟨r0, rl, rf⟩ := root_lt (hr.resolve_left h0)
    obtain ⟨h4, hk⟩ := knot_of ha rl
    rw [top_some h0]
    refine ⟨h4, fun n hn => ?_⟩
    have h := hk n hn
    rw [rf] at h
    rcases kid_top.1 h with h | ⟨h1, h2⟩
    · exact kid_top.2 (.inl h)
    · exact kid_top.2 (.inr ⟨by omega, h2⟩)
theorem top_kid {a : List S47} {r : Int} (ha : arenaB a = true) (hr : r = -1 ∨ rootB a r = true) {j : Nat} (hj : j < 4) : (topB a r).getD j 0 = -1 ∨ ((0 ≤ (topB a r).getD j 0 ∧ (topB a r).getD j 0 < (a.length : Int)) ∧ (a.getD ((topB a r).getD j 0).toNat z47).f0 = true) := by
  obtain ⟨h4, hk⟩ := top_right ha hr
  rcases kid_top.1 (hk _ (getD_mem (i := j) (z := 0) (by omega))) with h | ⟨h1, h2⟩
  · exact .inl h
  · exact .inr ⟨by omega, h2⟩
theorem leaf_right {a : List S47} {r s : Int} (ha : arenaB a = true) (hr : r = -1 ∨ rootB a r = true) (h0 : 0 ≤ s) (h1 : s ≤ 15) : (leafB a r s).length = 4 ∧ ∀ n ∈ leafB a r s, 0 ≤ n := by
  unfold leafB
  split
  · rename_i h
    rcases top_kid ha hr (j := (s / 4).toNat) (by omega) with hk | ⟨hk, hf⟩
    · omega
    · obtain ⟨h4, hn⟩ := knot_of ha (i := ((topB a r).getD (s / 4).toNat 0).toNat) (by omega)
      rw [hf] at hn
      exact ⟨h4, fun n h => kid_leaf.1 (hn n h)⟩
  · refine ⟨rfl, fun n hn => ?_⟩
    have := (List.mem_replicate.1 hn).2
    omega
theorem put_eq {a : List S47} {r s n : Int} (h : canPut a r s n) : putB a r s n = (a ++ [⟨true, (leafB a r s).set (s % 4).toNat n⟩, ⟨false, (topB a r).set (s / 4).toNat (a.length : Int)⟩], (a.length : Int) + 1) := putB_yes h rfl rfl
theorem put_len {a : List S47} {r s n : Int} (h : canPut a r s n) : (putB a r s n).1.length = a.length + 2 := by rw [put_eq h]; simp
theorem put_root {a : List S47} {r s n : Int} (h : canPut a r s n) : (putB a r s n).2 = (a.length : Int) + 1 := by rw [put_eq h]
theorem put_arena {a : List S47} {r s n : Int} (h : canPut a r s n) : arenaB (putB a r s n).1 = true := by
  obtain ⟨ha, hr, ⟨h0, h1⟩, hn⟩ := id h
  obtain ⟨t4, tk⟩ := top_right ha hr
  obtain ⟨l4, lk⟩ := leaf_right ha hr h0 h1
  rw [put_eq h]
  rw [arenaB_iff]
  intro i hi
  have hi : i < a.length + 2 := by simpa using hi
  by_cases hc : i < a.length
  · rw [getD_app hc, knotB_app (by omega)]
    exact arenaB_iff.1 ha i hc
  by_cases he : i = a.length
  · subst he
    rw [getD_app0, knotB_app (Nat.le_refl _), knotB_iff]
    refine ⟨by show (List.set _ _ _).length = 4; rw [List.length_set, l4], fun x hx => kid_leaf.2 ?_⟩
    rcases List.mem_or_eq_of_mem_set hx with hx | hx
    · exact lk x hx
    · omega
  · obtain rfl : i = a.length + 1 := by omega
    rw [getD_app1, knotB_iff]
    refine ⟨by show (List.set _ _ _).length = 4; rw [List.length_set, t4], fun x hx => kid_top.2 ?_⟩
    rcases List.mem_or_eq_of_mem_set hx with hx | hx
    · rcases kid_top.1 (tk x hx) with hx | ⟨h5, h6⟩
      · exact .inl hx
      · exact .inr ⟨by omega, by rw [getD_app (by omega)]; exact h6⟩
    · refine .inr ⟨by omega, ?_⟩
      rw [hx, Int.toNat_natCast, getD_app0]
theorem root_app {a t : List S47} {x : Int} (h : rootB a x = true) : rootB (a ++ t) x = true := by
  obtain ⟨h0, h1, h2⟩ := root_lt h
  unfold rootB
  rw [getD_app h1, h2, decide_eq_true (by simp only [List.length_append]; omega)]; rfl
theorem put_keeps {a : List S47} {r s n x : Int} (h : canPut a r s n) (hx : rootB a x = true) : rootB (putB a r s n).1 x = true := by
  rw [put_eq h]; exact root_app hx
theorem put_new {a : List S47} {r s n : Int} (h : canPut a r s n) : rootB (putB a r s n).1 (putB a r s n).2 = true := by
  rw [put_eq h]
  unfold rootB
  rw [show ((a.length : Int) + 1).toNat = a.length + 1 by omega, getD_app1, decide_eq_true (by simp only [List.length_append, List.length_cons, List.length_nil]; omega)]; rfl
theorem get_root {a : List S47} {r i : Int} (ha : arenaB a = true) (hr : rootB a r = true) (h0 : 0 ≤ i) (h1 : i ≤ 15) : getB a r i = numB a r i := if_pos ⟨⟨h0, h1⟩, hr, ha⟩
theorem get_none {a : List S47} {r i : Int} (hr : r = -1) : getB a r i = 0 := if_neg fun h => by have := (root_lt h.2.1).1; omega
/-- A number of a tree, by its top. -/
theorem get_top {a : List S47} {r i : Int} (ha : arenaB a = true) (hr : r = -1 ∨ rootB a r = true) (h0 : 0 ≤ i) (h1 : i ≤ 15) : getB a r i = if (topB a r).getD (i / 4).toNat 0 < 0 then 0 else (a.getD ((topB a r).getD (i / 4).toNat 0).toNat z47).f1.getD (i % 4).toNat 0 := by
  by_cases h : r = -1
  · rw [get_none h, top_none h, none4 _ (by omega), if_pos (by decide)]
  · rw [get_root ha (hr.resolve_left h) h0 h1, top_some h]; rfl
theorem get_out {a : List S47} {r i : Int} (h : ¬ (0 ≤ i ∧ i ≤ 15)) : getB a r i = 0 := if_neg fun g => h g.1
theorem get_app {a t : List S47} {x i : Int} (ha : arenaB a = true) (hb : arenaB (a ++ t) = true) (hx : x = -1 ∨ rootB a x = true) : getB (a ++ t) x i = getB a x i := by
  by_cases hi : 0 ≤ i ∧ i ≤ 15
  · by_cases h : x = -1
    · rw [get_none h, get_none h]
    · have hr := hx.resolve_left h
      obtain ⟨r0, rl, rf⟩ := root_lt hr
      rw [get_root hb (root_app hr) hi.1 hi.2, get_root ha hr hi.1 hi.2]
      unfold numB
      rw [getD_app rl]
      rcases kid_of ha rl rf (j := (i / 4).toNat) (by omega) with hk | ⟨k0, k1, _⟩
      · rw [hk, if_pos (by decide), if_pos (by decide)]
      · rw [if_neg (by omega), if_neg (by omega), getD_app (by omega)]
  · rw [get_out hi, get_out hi]
/-- All other trees are as they were. -/
theorem put_old {a : List S47} {r s n x i : Int} (h : canPut a r s n) (hx : x = -1 ∨ rootB a x = true) : getB (putB a r s n).1 x i = getB a x i := by
  have hb := put_arena h
  rw [put_eq h] at hb ⊢
  exact get_app h.1 hb hx
/-- What is put is there; all else of the tree is as it was. -/
theorem put_get {a : List S47} {r s n i : Int} (h : canPut a r s n) (h0 : 0 ≤ i) (h1 : i ≤ 15) : getB (putB a r s n).1 (putB a r s n).2 i = if i = s then n else getB a r i := by
  have hb := put_arena h
  have hq := put_new h
  obtain ⟨ha, hr, ⟨s0, s1⟩, hn⟩ := id h
  obtain ⟨t4, _⟩ := top_right ha hr
  obtain ⟨l4, _⟩ := leaf_right ha hr s0 s1
  rw [get_root hb hq h0 h1, get_top ha hr h0 h1]
  rw [put_eq h]
  unfold numB
  show (if ((a ++ _).getD ((a.length : Int) + 1).toNat z47).f1.getD _ 0 < 0 then (0 : Int) else _) = _
  rw [show ((a.length : Int) + 1).toNat = a.length + 1 by omega, getD_app1]
  simp only
  rw [getD_set' _ _ _ (by omega)]
  by_cases hq : (s / 4).toNat = (i / 4).toNat
  · rw [if_pos hq, if_neg (by omega), Int.toNat_natCast, getD_app0]
    simp only
    rw [getD_set' _ _ _ (by omega)]
    by_cases hm : (s % 4).toNat = (i % 4).toNat
    · rw [if_pos hm, if_pos (by omega)]
    · rw [if_neg hm, if_neg (by omega)]
      unfold leafB
      rw [hq]
      by_cases hk : 0 ≤ (topB a r).getD (i / 4).toNat 0
      · rw [if_pos hk, if_neg (by omega)]
      · rw [if_neg hk, if_pos (by omega), getD_rep']
  · rw [if_neg hq, if_neg (show ¬ i = s by omega)]
    rcases top_kid ha hr (j := (i / 4).toNat) (by omega) with hk | ⟨hk, _⟩
    · rw [hk, if_pos (by decide), if_pos (by decide)]
    · rw [if_neg (by omega), if_neg (by omega), getD_app (by omega)]
theorem allB_ext {a b : List S47} {r q : Int} (h : ∀ i : Int, 0 ≤ i → i ≤ 15 → getB a r i = getB b q i) : allB a r = allB b q := by
  unfold allB
  refine List.map_congr_left fun i hi => h i (by omega) ?_
  simp at hi; omega
end Go.Proofs.Ytjpjikhokpfhmaa.Pu

/- The reference's draws: a byte, a number below a bound, some places. -/
namespace Go.Proofs.Ytjpjikhokpfhmaa.Pu
set_option linter.unusedVariables false
set_option linter.unusedSimpArgs false
open Go.RowKit Go.Proofs.Ytjpjikhokpfhmaa.PT Go.Proofs.YtjpjikhokpfhmaaW.PrintWords

theorem and255 (x : Int) : 0 ≤ Go.bits .and .i64 x 255 ∧ Go.bits .and .i64 x 255 ≤ 255 := by
  have h : (BitVec.ofInt 64 x &&& BitVec.ofInt 64 255).toNat ≤ 255 := by
    rw [BitVec.toNat_and]; exact Nat.le_trans Nat.and_le_right (by decide)
  have e : Go.bits .and .i64 x 255 = Go.IntKind.i64.wrap ((BitVec.ofInt 64 x &&& BitVec.ofInt 64 255).toNat : Int) := rfl
  rw [e, Go.IntKind.wrap_i64]
  omega
/-- A draw's state: the place lies in the code. -/
theorem byte_eq (b : List Int) (i h : Int) (h0 : 0 ≤ i) (h1 : i ≤ b.length) (hb : b.length ≤ 9223372036854775807) : ∃ v i' h', spec_l01Byte.f b i h = some (v, i', h') ∧ (0 ≤ v ∧ v ≤ 255) ∧ 0 ≤ i' ∧ i' ≤ b.length := by
  unfold spec_l01Byte.f
  by_cases hi : i < (b.length : Int)
  · rw [if_pos hi, if_pos h0, w64 (x := i + 1) (by omega) (by omega)]
    exact ⟨_, _, _, rfl, and255 _, by omega, by omega⟩
  · rw [if_neg hi]
    exact ⟨_, _, _, rfl, and255 _, by omega, by omega⟩
theorem below_eq (b : List Int) (i h n : Int) (h0 : 0 ≤ i) (h1 : i ≤ b.length) (hb : b.length ≤ 9223372036854775807) (hn : 0 < n) : ∃ v i' h', spec_l01Below.f b i h n = some (v, i', h') ∧ (0 ≤ v ∧ v < n) ∧ 0 ≤ i' ∧ i' ≤ b.length := by
  unfold spec_l01Below.f
  rw [if_neg (by omega)]
  obtain ⟨v, i1, g1, e1, ⟨v0, v1⟩, a1, b1⟩ := byte_eq b i h h0 h1 hb
  rw [e1]
  by_cases hs : n ≤ 256
  · rw [if_pos hs, Option.bind_some, if_neg (by omega)]
    exact ⟨_, _, _, rfl, ⟨Int.tmod_nonneg _ v0, Int.tmod_lt_of_pos _ hn⟩, a1, b1⟩
  · rw [if_neg hs, Option.bind_some]
    obtain ⟨y, i2, g2, e2, ⟨y0, y1⟩, a2, b2⟩ := byte_eq b i1 g1 a1 b1 hb
    obtain ⟨z, i3, g3, e3, ⟨z0, z1⟩, a3, b3⟩ := byte_eq b i2 g2 a2 b2 hb
    obtain ⟨u, i4, g4, e4, ⟨u0, u1⟩, a4, b4⟩ := byte_eq b i3 g3 a3 b3 hb
    simp only [e2, e3, e4, Option.bind_some]
    rw [if_neg (by omega), w64 (x := v * 16777216) (by omega) (by omega), w64 (x := y * 65536) (by omega) (by omega), w64 (x := v * 16777216 + y * 65536) (by omega) (by omega), w64 (x := z * 256) (by omega) (by omega), w64 (x := v * 16777216 + y * 65536 + z * 256) (by omega) (by omega), w64 (x := v * 16777216 + y * 65536 + z * 256 + u) (by omega) (by omega)]
    exact ⟨_, _, _, rfl, ⟨Int.tmod_nonneg _ (by omega), Int.tmod_lt_of_pos _ hn⟩, a4, b4⟩
theorem new_ev (b : List Int) (hb : b.length ≤ 9223372036854775807) : ∃ h, Ev (fun k => spec_l01New.f k b) (b, 0, h) := by
  unfold spec_l01New.f
  have main : ∀ (d i : Nat) (h : Int), i + d = b.length → ∃ g, Ev (fun k => spec_l01New.l0 k b h (i : Int)) (b, 0, g) := by
    intro d
    induction d with
    | zero => intro i h hi; exact ⟨h, ev_some fun k => by simp only [spec_l01New.l0]; rw [if_neg (by omega)]⟩
    | succ d ih =>
      intro i h hi
      by_cases hf : (i : Int) < 4000
      · obtain ⟨g, hg⟩ := ih (i + 1) (Go.bits .and .i64 (wrap64 ((wrap64 ((wrap64 (h * 131)) + (wrap64 (rd b (i : Int))))) + 7)) 1073741823) (by omega)
        refine ⟨g, Ev.step (fun k => ?_) hg⟩
        simp only [spec_l01New.l0]
        rw [if_pos (by omega), if_pos hf, if_pos (by omega), wsucc (n := b.length) (by omega) hb]
      · exact ⟨h, ev_some fun k => by simp only [spec_l01New.l0]; rw [if_pos (by omega), if_neg hf]⟩
  exact main b.length 0 _ (by omega)
theorem places_ev (b : List Int) (hb : b.length ≤ 9223372036854775807) : ∃ p, Ev (fun k => spec_DrawPlaces.f k b) p ∧ p.length = 12 ∧ ∀ x ∈ p, 0 ≤ x ∧ x < 10000 := by
  unfold spec_DrawPlaces.f
  obtain ⟨h, hnew⟩ := new_ev b hb
  obtain ⟨v, i1, g1, e1, _, a1, b1⟩ := byte_eq b 0 h (by omega) (by omega) hb
  have main : ∀ (d i : Nat) (acc : List Int) (j g : Int), i + d = 12 → acc.length = i → (∀ x ∈ acc, 0 ≤ x ∧ x < 10000) → 0 ≤ j → j ≤ b.length → ∃ p, Ev (fun k => spec_DrawPlaces.l0 k acc (i : Int) b j g) p ∧ p.length = 12 ∧ ∀ x ∈ p, 0 ≤ x ∧ x < 10000 := by
    intro d
    induction d with
    | zero => intro i acc j g hi hl ha _ _; exact ⟨acc, ev_some fun k => by simp only [spec_DrawPlaces.l0]; rw [if_neg (by omega)], by omega, ha⟩
    | succ d ih =>
      intro i acc j g hi hl ha hj0 hj1
      obtain ⟨y, j2, g2, e2, hy, a2, b2⟩ := below_eq b j g 10000 hj0 hj1 hb (by omega)
      obtain ⟨p, hp, hp2, hp3⟩ := ih (i + 1) (acc ++ [y]) j2 g2 (by omega) (by simp; omega) (fun x hx => by
        rcases List.mem_append.1 hx with hx | hx
        · exact ha x hx
        · obtain rfl := List.mem_singleton.1 hx; exact hy) a2 b2
      refine ⟨p, Ev.step (fun k => ?_) hp, hp2, hp3⟩
      simp only [spec_DrawPlaces.l0]
      rw [if_pos (by omega), e2]
      simp only [Option.bind_some]
      rw [if_pos (by omega), wsucc (n := 12) (by omega) (by omega)]
  obtain ⟨p, hp, hp2, hp3⟩ := main 12 0 [] i1 g1 rfl rfl (fun x hx => by cases hx) a1 b1
  refine ⟨p, ev_bind hnew ?_, hp2, hp3⟩
  simp only [e1, Option.bind_some]
  exact hp
end Go.Proofs.Ytjpjikhokpfhmaa.Pu

/- A drawn forest: a right arena, and its roots. -/
namespace Go.Proofs.Ytjpjikhokpfhmaa.Pu
set_option linter.unusedVariables false
set_option linter.unusedSimpArgs false
open Go.RowKit Go.Proofs.Ytjpjikhokpfhmaa.PT Go.Proofs.YtjpjikhokpfhmaaW.PrintWords

def Woods (a : List S47) (roots : List Int) : Prop := arenaB a = true ∧ ∀ x ∈ roots, x = -1 ∨ rootB a x = true
theorem woods_len {a : List S47} (ha : arenaB a = true) : ∀ x ∈ a, x.f1.length = 4 := by
  intro x hx
  obtain ⟨i, hi, rfl⟩ := List.getElem_of_mem hx
  have h := (knot_of ha hi).1
  rwa [List.getD_eq_getElem?_getD, List.getElem?_eq_getElem hi] at h
theorem woods_le {a : List S47} (ha : arenaB a = true) : ∀ x ∈ a, x.f1.length ≤ 1048576 := fun x hx => by rw [woods_len ha x hx]; omega
theorem forest_ev (b : List Int) (hb : b.length ≤ 9223372036854775807) : ∃ a roots, Ev (fun k => spec_DrawForest.f k b) (a, roots) ∧ Woods a roots ∧ (1 ≤ roots.length ∧ roots.length ≤ 8) ∧ a.length ≤ 14 := by
  unfold spec_DrawForest.f spec_l11Arena.f
  obtain ⟨h, hnew⟩ := new_ev b hb
  have main : ∀ (d i : Nat) (a : List S47) (roots : List Int) (j g : Int), i + d = 7 → roots.length = i + 1 → a.length ≤ 2 * i → Woods a roots → 0 ≤ j → j ≤ b.length →
      ∃ a' roots' j' g', Ev (fun k => spec_l11Arena.l0 k roots (i : Int) b j g a) (a', roots', j', g') ∧ Woods a' roots' ∧ (1 ≤ roots'.length ∧ roots'.length ≤ 8) ∧ a'.length ≤ 14 := by
    intro d
    induction d with
    | zero =>
      intro i a roots j g hi hl hl2 hw hj0 hj1
      obtain ⟨v, j2, g2, e2, ⟨v0, v1⟩, a2, b2⟩ := below_eq b j g 8 hj0 hj1 hb (by omega)
      refine ⟨a, roots, j2, g2, ev_some fun k => ?_, hw, by omega, by omega⟩
      simp only [spec_l11Arena.l0, e2, Option.bind_some]
      rw [if_neg (by omega)]
    | succ d ih =>
      intro i a roots j g hi hl hl2 hw hj0 hj1
      obtain ⟨v, j2, g2, e2, ⟨v0, v1⟩, a2, b2⟩ := below_eq b j g 8 hj0 hj1 hb (by omega)
      by_cases hv : (i : Int) < v
      · obtain ⟨m, j3, g3, e3, ⟨m0, m1⟩, a3, b3⟩ := below_eq b j2 g2 (roots.length : Int) a2 b2 hb (by omega)
        obtain ⟨s, j4, g4, e4, ⟨s0, s1⟩, a4, b4⟩ := below_eq b j3 g3 16 a3 b3 hb (by omega)
        obtain ⟨n, j5, g5, e5, ⟨n0, n1⟩, a5, b5⟩ := below_eq b j4 g4 9 a4 b4 hb (by omega)
        have hr := hw.2 _ (getD_mem (l := roots) (i := m.toNat) (z := 0) (by omega))
        have hc : canPut a (roots.getD m.toNat 0) s n := ⟨hw.1, hr, ⟨s0, by omega⟩, n0⟩
        have hput := sPut_ev a (roots.getD m.toNat 0) s n (by omega) (woods_le hw.1)
        have pl := put_len hc
        have pr := put_new hc
        have pa := put_arena hc
        have pk : ∀ x, rootB a x = true → rootB (putB a (roots.getD m.toNat 0) s n).1 x = true := fun x hx => put_keeps hc hx
        generalize putB a (roots.getD m.toNat 0) s n = R at hput pl pr pa pk
        obtain ⟨a', roots', j', g', h1, h2, h3, h4⟩ := ih (i + 1) R.1 (roots ++ [R.2]) j5 g5 (by omega) (by simp; omega) (by omega) ⟨pa, fun x hx => by
          rcases List.mem_append.1 hx with hx | hx
          · exact (hw.2 x hx).imp id (pk x)
          · obtain rfl := List.mem_singleton.1 hx; exact .inr pr⟩ a5 b5
        refine ⟨a', roots', j', g', ?_, h2, h3, h4⟩
        refine Ev.step (f := fun k => (spec_PutAt.f k a (roots.getD m.toNat 0) s n).bind fun R => spec_l11Arena.l0 k (roots ++ [R.2]) ((i + 1 : Nat) : Int) b j5 g5 R.1) (fun k => ?_) (ev_bind hput h1)
        simp only [spec_l11Arena.l0, e2, e3, e4, e5, Option.bind_some]
        rw [if_pos hv, if_pos m0, if_pos m1, wsucc (n := 7) (by omega) (by omega)]
        simp only [if_pos (show roots.length < 17592186044416 by omega)]
        rfl
      · refine ⟨a, roots, j2, g2, ev_some fun k => ?_, hw, by omega, by omega⟩
        simp only [spec_l11Arena.l0, e2, Option.bind_some]
        rw [if_neg hv]
  obtain ⟨a', roots', j', g', h1, h2, h3, h4⟩ := main 7 0 [] [-1] 0 h rfl rfl (Nat.le_refl _) ⟨rfl, fun x hx => .inl (List.mem_singleton.1 hx)⟩ (by omega) (by omega)
  exact ⟨a', roots', ev_bind hnew (ev_bind h1 (Ev.now _)), h2, h3, h4⟩
end Go.Proofs.Ytjpjikhokpfhmaa.Pu

/- A list is as itself; a wood's bounds. -/
namespace Go.Proofs.Ytjpjikhokpfhmaa.Pu
set_option linter.unusedVariables false
set_option linter.unusedSimpArgs false
open Go.RowKit Go.Proofs.Ytjpjikhokpfhmaa.PT Go.Proofs.YtjpjikhokpfhmaaW.PrintWords

theorem same_ev (l : List Int) (hl : l.length ≤ 9223372036854775807) : Ev (fun k => laws_sameInts.f k l l) true := by
  unfold laws_sameInts.f
  simp only [if_true]
  have main : ∀ (d i : Nat), i + d = l.length → Ev (fun k => laws_sameInts.l0 k l l (i : Int)) true := by
    intro d
    induction d with
    | zero => intro i hi; exact ev_some fun k => by simp only [laws_sameInts.l0]; rw [if_neg (by omega)]
    | succ d ih =>
      intro i hi
      refine Ev.step (fun k => ?_) (ih (i + 1) (by omega))
      simp only [laws_sameInts.l0]
      rw [if_pos (by omega), if_pos (by omega), if_pos (by omega), if_pos trivial, wsucc (n := l.length) (by omega) hl]
  exact main l.length 0 (by omega)
theorem same_ev' {l m : List Int} (e : l = m) (hl : l.length ≤ 9223372036854775807) : Ev (fun k => laws_sameInts.f k l m) true := by
  subst e; exact same_ev l hl
theorem mod_lt {x n : Int} (h : 0 ≤ x) (hn : 0 < n) : 0 ≤ Int.tmod x n ∧ Int.tmod x n < n := ⟨Int.tmod_nonneg _ h, Int.tmod_lt_of_pos _ hn⟩
end Go.Proofs.Ytjpjikhokpfhmaa.Pu

/- FnPutsAgain: what is put twice is as put once; what is put at two places is there whichever came first. -/
namespace Go.Proofs.Ytjpjikhokpfhmaa.Pure
set_option linter.unusedVariables false
set_option linter.unusedSimpArgs false
open Go.RowKit Go.Proofs.Ytjpjikhokpfhmaa.PT Go.Proofs.YtjpjikhokpfhmaaW.PrintWords Go.Proofs.Ytjpjikhokpfhmaa.Pu

theorem FnPutsAgain : laws_FnPutsAgain.Pure := by
  intro l hl _ hx
  refine Ev.rounds (g := fun k => laws_FnPutsAgain.f k l) ?_
  unfold maxLen at hl
  unfold laws_FnPutsAgain.f laws_big.f
  refine ev_bind (Ev.now (decide ((l.length : Int) > 1048576))) ?_
  by_cases hbig : (l.length : Int) > 1048576
  · simp only [decide_eq_true hbig, if_true]; exact Ev.now _
  · simp only [decide_eq_false hbig, Bool.false_eq_true, if_false]
    obtain ⟨a, roots, hf, ⟨ha, hr⟩, ⟨r1, r8⟩, a14⟩ := forest_ev l (by omega)
    obtain ⟨p, hp, p12, pb⟩ := places_ev l (by omega)
    refine ev_bind hf (ev_bind hp ?_)
    obtain ⟨m0, m1⟩ := mod_lt (x := rd p 0) (n := (roots.length : Int)) (pb _ (getD_mem (i := 0) (z := 0) (by omega))).1 (by omega)
    obtain ⟨s0, s1⟩ := mod_lt (x := rd p 1) (n := 16) (pb _ (getD_mem (i := 1) (z := 0) (by omega))).1 (by omega)
    obtain ⟨u0, u1⟩ := mod_lt (x := rd p 2) (n := 15) (pb _ (getD_mem (i := 2) (z := 0) (by omega))).1 (by omega)
    have hroot := hr _ (getD_mem (l := roots) (i := (Int.tmod (rd p 0) (roots.length : Int)).toNat) (z := 0) (by omega))
    simp only [p12, if_pos (show (0 : Int) < ((12 : Nat) : Int) by omega), if_neg (show ¬ (roots.length : Int) = 0 by omega), if_pos m0, if_pos m1, if_pos (show (1 : Int) < ((12 : Nat) : Int) by omega), if_pos (show (2 : Int) < ((12 : Nat) : Int) by omega)]
    rw [show rd roots (Int.tmod (rd p 0) (roots.length : Int)) = roots.getD (Int.tmod (rd p 0) (roots.length : Int)).toNat 0 from rfl]
    generalize roots.getD (Int.tmod (rd p 0) (roots.length : Int)).toNat 0 = r at hroot ⊢
    generalize Int.tmod (rd p 1) 16 = s at s0 s1 ⊢
    generalize Int.tmod (rd p 2) 15 = u at u0 u1 ⊢
    rw [w64 (x := s + 1) (by omega) (by omega), w64 (x := s + 1 + u) (by omega) (by omega)]
    obtain ⟨t0, t1⟩ := mod_lt (x := s + 1 + u) (n := 16) (by omega) (by omega)
    have hst : Int.tmod (s + 1 + u) 16 ≠ s := by
      rw [Int.tmod_eq_emod_of_nonneg (by omega)]
      omega
    generalize Int.tmod (s + 1 + u) 16 = t at t0 t1 hst ⊢
    have fit : ∀ (a : List S47) (r s n : Int), arenaB a = true → a.length ≤ 1000 → Ev (fun k => impl_PutAt.f k a r s n) (putB a r s n) := fun a r s n ha hn => iPut_ev a r s n (by omega) (woods_le ha)
    have c1 : canPut a r s 5 := ⟨ha, hroot, ⟨s0, by omega⟩, by omega⟩
    have e1 := fit a r s 5 ha (by omega)
    have l1 := put_len c1
    have a1 := put_arena c1
    have q1 := put_new c1
    have g1 := fun (i : Int) h0 h1 => put_get (i := i) c1 h0 h1
    refine ev_bind e1 ?_
    generalize putB a r s 5 = B at l1 a1 q1 g1 ⊢
    have c2 : canPut B.1 B.2 s 5 := ⟨a1, .inr q1, ⟨s0, by omega⟩, by omega⟩
    have e2 := fit B.1 B.2 s 5 a1 (by omega)
    have l2 := put_len c2
    have g2 := fun (i : Int) h0 h1 => put_get (i := i) c2 h0 h1
    refine ev_bind e2 ?_
    generalize putB B.1 B.2 s 5 = C at l2 g2 ⊢
    have c3 : canPut B.1 B.2 t 6 := ⟨a1, .inr q1, ⟨t0, by omega⟩, by omega⟩
    have e3 := fit B.1 B.2 t 6 a1 (by omega)
    have l3 := put_len c3
    have g3 := fun (i : Int) h0 h1 => put_get (i := i) c3 h0 h1
    refine ev_bind e3 ?_
    generalize putB B.1 B.2 t 6 = D at l3 g3 ⊢
    have c4 : canPut a r t 6 := ⟨ha, hroot, ⟨t0, by omega⟩, by omega⟩
    have e4 := fit a r t 6 ha (by omega)
    have l4 := put_len c4
    have a4 := put_arena c4
    have q4 := put_new c4
    have g4 := fun (i : Int) h0 h1 => put_get (i := i) c4 h0 h1
    refine ev_bind e4 ?_
    generalize putB a r t 6 = E at l4 a4 q4 g4 ⊢
    have c5 : canPut E.1 E.2 s 5 := ⟨a4, .inr q4, ⟨s0, by omega⟩, by omega⟩
    have e5 := fit E.1 E.2 s 5 a4 (by omega)
    have l5 := put_len c5
    have g5 := fun (i : Int) h0 h1 => put_get (i := i) c5 h0 h1
    refine ev_bind e5 ?_
    generalize putB E.1 E.2 s 5 = F at l5 g5 ⊢
    have s16 := fun (a : List S47) (r : Int) => allB_len a r
    refine ev_bind (iAllAt_ev B.1 B.2 (by omega)) (ev_bind (iAllAt_ev C.1 C.2 (by omega)) (ev_bind (same_ev' (allB_ext fun i h0 h1 => ?_) (by rw [s16]; omega)) ?_))
    · rw [g2 i h0 h1, g1 i h0 h1]
      by_cases h : i = s
      · rw [if_pos h, if_pos h]
      · rw [if_neg h, if_neg h]
    simp only [if_true]
    refine ev_bind (iAllAt_ev D.1 D.2 (by omega)) (ev_bind (iAllAt_ev F.1 F.2 (by omega)) (ev_bind (same_ev' (allB_ext fun i h0 h1 => ?_) (by rw [s16]; omega)) ?_))
    · rw [g3 i h0 h1, g5 i h0 h1, g1 i h0 h1, g4 i h0 h1]
      by_cases h : i = t
      · rw [if_pos h, if_neg (by omega), if_pos h]
      · rw [if_neg h, if_neg h]
    simp only [eq_self_iff_true, if_true]
    refine ev_bind (iGetAt_ev D.1 D.2 s (by omega)) ?_
    rw [g3 s s0 (by omega), if_neg (by omega), g1 s s0 (by omega), if_pos rfl]
    simp only [eq_self_iff_true, if_true]
    refine ev_bind (iGetAt_ev D.1 D.2 t (by omega)) ?_
    rw [g3 t t0 (by omega), if_pos rfl]
    simp only [eq_self_iff_true, if_true]
    refine ev_bind (iGetAt_ev F.1 F.2 99 (by omega)) ?_
    rw [get_out (by omega)]
    exact Ev.now _
end Go.Proofs.Ytjpjikhokpfhmaa.Pure

/- Functions of the translation as plain Lean functions, and for each that its call comes to just what its Lean function answers; its conditions stand in each theorem. Written by a program of this session. -/
namespace Go.Proofs.Ytjpjikhokpfhmaa.fnPutsAgain
open Go.ChangeShapes Go.WideShapes Go.ChangeAt Go.RowKit
open Go.ChangeMaps (open_string shut_string)
set_option linter.unusedVariables false
theorem own : ownKnob Try.prog.godebug = none := by kernel_rfl
theorem laidOut : laidOutB Try.prog = true := by kernel_rfl
def IsRow (k : IntKind) (w : World) (a : Option Addr) (len cap : Nat) (zs : List Int) : Prop :=
  (a = none ∧ len = 0 ∧ cap = 0 ∧ zs = []) ∨
  ∃ x, a = some x ∧ len ≤ cap ∧ cap ≤ maxLen ∧ zs.length = cap ∧ (∀ i, i < zs.length → w.cell? (x.add i) = some (.int k (zs.getD i 0))) ∧ ∀ n ∈ zs, (Lit.int k n).wf = true
set_option maxRecDepth 100000 in
theorem lifted (os : Os) (started : os.Started) (H : Type) (enc : TypeId × Value → H) :
    ReturnsInHanded {} Try.checked os 4 .any (Rows.fnPutsAgainSpec.pre6 enc Try.prog Try.f4 Rows.fnPutsAgainRow.domain false) (Rows.fnPutsAgainSpec.post enc Try.prog Try.f4 false true false false) := by
  refine returnsInHanded_of_change_sized (C := Try.checked) own started (by kernel_rfl) Try.func4
    (ChangeSpec.witness6 (enc := enc) (C := Try.checked) false ⟨#[], #[.slice none 0 0], []⟩ 8 (by kernel_rfl) (by kernel_rfl) (by kernel_rfl) (by kernel_rfl)) ?_
  intro W base args ds gs before hval0 hW hcnd hsz0 _
  have hsz : (DataW.weightsEach Try.prog (Try.f4.params.toList ++ Rows.fnPutsAgainSpec.plain.varTypes Try.prog) (ds ++ gs)).all (· ≤ reachBytes) = true := hsz0
  have hval : ∀ (j : Nat) t v, Try.f4.params[j]? = some t → args[j]? = some v → Value.okWide Try.prog W .any base t v := hval0
  have hW' := hW
  obtain ⟨p, q, hA0, hV, rfl, hfz, hnd⟩ := hW
  have hA : DataW.TrodAll enc Try.prog W 0 (fun _ => true) true Try.f4.params.toList args.toList ds p := hA0
  rw [Try.params4] at hA hval hsz
  obtain ⟨v0, vs0, d0, ds0, p0, q0, hargs, rfl, rfl, h0, r0⟩ := trodAll_cons hA
  obtain ⟨rfl, rfl, rfl⟩ := trodAll_nil r0
  obtain rfl : args = #[v0] := by cases args; simp_all
  obtain ⟨rfl, rfl⟩ := trodVars_none hV
  obtain ⟨a0, len0, cap0, rfl⟩ := okWide_slice Try.underlying22 (hval 0 22 v0 rfl rfl)
  have k0 := h0
  have lt0 : ∀ x ∈ p0, x.block < W.heap.size := by obtain ⟨m, hm⟩ := k0; exact DataW.trod_lt m _ _ _ hm
  obtain ⟨z0, w0⟩ : ∃ zs, IsRow .u8 W a0 len0 cap0 zs := by
    obtain ⟨fuel, hf⟩ := h0
    rcases open_ints Try.underlying22 Try.underlying5 (by kernel_rfl) hf with ⟨hcs, _⟩ | ⟨x, l, c, zs, hcs, _, hl, hm, hz, _, hcell, hwz⟩
    · simp [Value.cells] at hcs
      obtain ⟨rfl, rfl, rfl⟩ := hcs
      exact ⟨[], .inl ⟨rfl, rfl, rfl, rfl⟩⟩
    · simp [Value.cells] at hcs
      obtain ⟨rfl, rfl, rfl⟩ := hcs
      exact ⟨zs, .inr ⟨_, rfl, hl, hm, by simpa using hz, hcell, hwz⟩⟩
  have y0 : len0 * 1 ≤ 140737488351232 := Go.Proofs.YtjpjikhokpfhmaaW.PrintWords.sized_ints hsz (j := 0) (t := 22) rfl rfl Try.underlying22 Try.underlying5 (by kernel_rfl) (by kernel_rfl) h0
  clear hA0 hval0 hsz0 hsz
  refine (PT.laws_FnPutsAgain.walk Pure.FnPutsAgain a0 len0 cap0 z0 W w0 y0).mono fun e W' ⟨he, bel⟩ => ?_
  subst he
  exact ⟨_, rfl, _, _, _, [], _, [], hW', trodAll_mk1 (shut_bool Try.underlying4 _), (trodAll_cons_mk (Below.trod laidOut (by kernel_rfl) (of_decide_eq_true (by kernel_rfl)) k0 bel lt0) trodAll_mk0), rfl, bel.frame _, fun h => by cases h⟩
theorem over : Rows.fnPutsAgainRow.holds Try.pinned (OpenSpec.ofChange Rows.fnPutsAgainSpec) :=
  OpenClaim.holds_of_wide 4 Try.f4 rfl rfl rfl rfl rfl rfl rfl ⟨rfl, rfl, rfl, rfl, rfl⟩ rfl rfl rfl rfl rfl (by kernel_rfl) Try.func4 (by kernel_rfl)
    (of_decide_eq_true (by kernel_rfl)) (by unfold Func.isWrapper; first | (rw [if_pos (by decide +kernel)]; kernel_rfl) | (rw [if_neg (by decide +kernel)]; exact ⟨rfl, rfl⟩))
    (fun os started H enc _ => lifted os started H enc)
theorem proved : Rows.FnPutsAgainSaid := over
#print axioms proved
end Go.Proofs.Ytjpjikhokpfhmaa.fnPutsAgain
namespace Go.Proofs.Ytjpjikhokpfhmaa
/-- The row, under a short name, for the claim. -/
theorem fnPutsAgain_holds : Rows.FnPutsAgainSaid := fnPutsAgain.proved
end Go.Proofs.Ytjpjikhokpfhmaa
