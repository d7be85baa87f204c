/- FnExactDoSteps: functions of the translation as Lean functions with what their calls come to, plain lemmas on them, and, at the end, the row. Parts of one proof, merged by a program of this session; each part's own sentence stands at its head. -/
import Derived.ChangeArms
import Derived.DataReads
import Derived.Test.YtijbejiajaiciaaRows
import Derived.WalkKit
import Derived.ProofKit
import Derived.OpenShut
import Derived.ShutString
import Derived.ChangeOld
import Derived.Below
import Derived.SizedLaws
import Derived.Test.YtijbejiajaiciaaMFnExactDoStepsd
namespace Go.Proofs.Ytijbejiajaiciaa.PC
open Go.RowKit Go.Proofs.YtijbejiajaiciaaW.PrintWords Go.Proofs.YtijbejiajaiciaaW.PrintLast Go.Proofs.YtijbejiajaiciaaW.PrintMore
attribute [local go_sem] max2_int min2_int max_two min_two max_three min_three max_four min_four
set_option linter.unusedVariables false
set_option linter.unusedSimpArgs false
def laws_FnExactDoSteps.f (k : Nat) (l0_0 : List (S144)) (l1 : List (S65)) : Option (Bool):=((laws_szFlash.f k l0_0 1048576).bind fun t3=>(if t3 < 0 then (some true) else ((laws_szStepS.f k l1 t3).bind fun t5=>(if t5 < 0 then (some true) else ((laws_toFlash.f k l0_0).bind fun t7=>((laws_toStepS.f k l1).bind fun t10=>((spec_DoSteps.f k t7 t10).bind fun b6=>((laws_toFlash.f k l0_0).bind fun t18=>((laws_toStepS.f k l1).bind fun t22=>((impl_DoSteps.f k t18 t22).bind fun b9=>((laws_eqFlash.f k b9.1 b6.1).bind fun t30=>(if t30 = true then (if b9.2 = b6.2 then ((laws_toFlash.f k l0_0).bind fun t32=>((laws_eqFlash.f k t18 t32).bind fun t35=>(if t35 = true then ((laws_toStepS.f k l1).bind fun t37=>((laws_eqStepS.f k t22 t37).bind fun t40=>(if t40 = true then ((laws_markFlash.f k t18 1).bind fun b19=>((laws_markStepS.f k t22 b19.1).bind fun b20=>((laws_eqFlash.f k b9.1 b6.1).bind fun t48=>(if t48 = true then (if b20.1 < 0 then (some false) else (if b9.2 = b6.2 then ((laws_markFlash.f k b9.1 1).bind fun b25=>((laws_heldFlash.f k b25.2 1).bind fun t53=>(if t53 < 0 then (some false) else (if t53 = b25.1 then ((laws_toFlash.f k l0_0).bind fun t55=>((laws_toStepS.f k l1).bind fun t58=>((impl_DoSteps.f k t55 t58).bind fun b31=>((laws_eqFlash.f k b31.1 b6.1).bind fun t66=>(if t66 = true then (if b31.2 = b6.2 then ((laws_heldFlash.f k b25.2 1).bind fun t68=>(if t68 < 0 then (some false) else (if t68 = b25.1 then (some true) else (some false)))) else (some false)) else (some false)))))) else (some false))))) else (some false))) else (some false))))) else (some false)))) else (some false)))) else (some false)) else (some false)))))))))))))
theorem laws_FnExactDoSteps.mono : ∀ a0 a1 k,LeO (laws_FnExactDoSteps.f k a0 a1) (laws_FnExactDoSteps.f (k + 1) a0 a1):=by
 intro a0 a1 k;unfold laws_FnExactDoSteps.f
 repeat' first
   | (with_reducible exact impl_DoSteps.mono _ _ _)
   | (with_reducible exact laws_eqFlash.mono _ _ _)
   | (with_reducible exact laws_eqStepS.mono _ _ _)
   | (with_reducible exact laws_heldFlash.mono _ _ _)
   | (with_reducible exact laws_markFlash.mono _ _ _)
   | (with_reducible exact laws_markStepS.mono _ _ _)
   | (with_reducible exact laws_szFlash.mono _ _ _)
   | (with_reducible exact laws_szStepS.mono _ _ _)
   | (with_reducible exact laws_toFlash.mono _ _)
   | (with_reducible exact laws_toStepS.mono _ _)
   | (with_reducible exact spec_DoSteps.mono _ _ _)
   | (with_reducible exact LeO.refl _)
   | (with_reducible exact LeO.none _)
   | (with_reducible refine LeO.ite ?_ ?_)
   | (with_reducible refine LeO.bind ?_ (fun _=>?_))
   | exact impl_DoSteps.mono _ _ _
   | exact laws_eqFlash.mono _ _ _
   | exact laws_eqStepS.mono _ _ _
   | exact laws_heldFlash.mono _ _ _
   | exact laws_markFlash.mono _ _ _
   | exact laws_markStepS.mono _ _ _
   | exact laws_szFlash.mono _ _ _
   | exact laws_szStepS.mono _ _ _
   | exact laws_toFlash.mono _ _
   | exact laws_toStepS.mono _ _
   | exact spec_DoSteps.mono _ _ _
   | exact LeO.none _
   | refine LeO.ite ?_ ?_
   | refine LeO.bind ?_ (fun _=>?_)
set_option maxHeartbeats 8000000 in
set_option maxRecDepth 100000 in
theorem laws_FnExactDoSteps.calls (k : Nat) (A0_0 : Option Addr) (c0_0 : Nat) (l0_0 : List (S144)) (A1 : Option Addr) (c1 : Nat) (l1 : List (S65)) (r : Bool) (hT : Aside0 (r = true)) (w : World) (hr0_0 : Kd.C k144 w A0_0 l0_0.length l0_0) (hc0_0 : l0_0.length ≤ c0_0) (hr1 : Kd.C k65 w A1 l1.length l1) (hc1 : l1.length ≤ c1) (h : laws_FnExactDoSteps.f k l0_0 l1 = some r) :
  Calls Try.prog 9 #[.agg #[.slice A0_0 l0_0.length c0_0],.slice A1 l1.length c1] w fun e w'=>e = .returned (.bool r) ∧ Below w.heap.size w w':=by
 have HR0_0:=Aside0.mk hr0_0;have HC0_0:=Aside0.mk hc0_0;clear hr0_0 hc0_0;have HR1:=Aside0.mk hr1;have HC1:=Aside0.mk hc1;clear hr1 hc1;have HB:=Aside0.mk (Below.refl w.heap.size w);have HL:=Aside0.mk (Nat.le_refl w.heap.size);have H : ((laws_szFlash.f k l0_0 1048576).bind fun t3=>(if t3 < 0 then (some true) else ((laws_szStepS.f k l1 t3).bind fun t5=>(if t5 < 0 then (some true) else ((laws_toFlash.f k l0_0).bind fun t7=>((laws_toStepS.f k l1).bind fun t10=>((spec_DoSteps.f k t7 t10).bind fun b6=>((laws_toFlash.f k l0_0).bind fun t18=>((laws_toStepS.f k l1).bind fun t22=>((impl_DoSteps.f k t18 t22).bind fun b9=>((laws_eqFlash.f k b9.1 b6.1).bind fun t30=>(if t30 = true then (if b9.2 = b6.2 then ((laws_toFlash.f k l0_0).bind fun t32=>((laws_eqFlash.f k t18 t32).bind fun t35=>(if t35 = true then ((laws_toStepS.f k l1).bind fun t37=>((laws_eqStepS.f k t22 t37).bind fun t40=>(if t40 = true then ((laws_markFlash.f k t18 1).bind fun b19=>((laws_markStepS.f k t22 b19.1).bind fun b20=>((laws_eqFlash.f k b9.1 b6.1).bind fun t48=>(if t48 = true then (if b20.1 < 0 then (some false) else (if b9.2 = b6.2 then ((laws_markFlash.f k b9.1 1).bind fun b25=>((laws_heldFlash.f k b25.2 1).bind fun t53=>(if t53 < 0 then (some false) else (if t53 = b25.1 then ((laws_toFlash.f k l0_0).bind fun t55=>((laws_toStepS.f k l1).bind fun t58=>((impl_DoSteps.f k t55 t58).bind fun b31=>((laws_eqFlash.f k b31.1 b6.1).bind fun t66=>(if t66 = true then (if b31.2 = b6.2 then ((laws_heldFlash.f k b25.2 1).bind fun t68=>(if t68 < 0 then (some false) else (if t68 = b25.1 then (some true) else (some false)))) else (some false)) else (some false)))))) else (some false))))) else (some false))) else (some false))))) else (some false)))) else (some false)))) else (some false)) else (some false))))))))))))) = some r:=h;clear h;replace H:=Option.bind_eq_some_iff.mp H;obtain ⟨t3,Fa00,H⟩:=H;replace H : (if t3 < 0 then (some true) else ((laws_szStepS.f k l1 t3).bind fun t5=>(if t5 < 0 then (some true) else ((laws_toFlash.f k l0_0).bind fun t7=>((laws_toStepS.f k l1).bind fun t10=>((spec_DoSteps.f k t7 t10).bind fun b6=>((laws_toFlash.f k l0_0).bind fun t18=>((laws_toStepS.f k l1).bind fun t22=>((impl_DoSteps.f k t18 t22).bind fun b9=>((laws_eqFlash.f k b9.1 b6.1).bind fun t30=>(if t30 = true then (if b9.2 = b6.2 then ((laws_toFlash.f k l0_0).bind fun t32=>((laws_eqFlash.f k t18 t32).bind fun t35=>(if t35 = true then ((laws_toStepS.f k l1).bind fun t37=>((laws_eqStepS.f k t22 t37).bind fun t40=>(if t40 = true then ((laws_markFlash.f k t18 1).bind fun b19=>((laws_markStepS.f k t22 b19.1).bind fun b20=>((laws_eqFlash.f k b9.1 b6.1).bind fun t48=>(if t48 = true then (if b20.1 < 0 then (some false) else (if b9.2 = b6.2 then ((laws_markFlash.f k b9.1 1).bind fun b25=>((laws_heldFlash.f k b25.2 1).bind fun t53=>(if t53 < 0 then (some false) else (if t53 = b25.1 then ((laws_toFlash.f k l0_0).bind fun t55=>((laws_toStepS.f k l1).bind fun t58=>((impl_DoSteps.f k t55 t58).bind fun b31=>((laws_eqFlash.f k b31.1 b6.1).bind fun t66=>(if t66 = true then (if b31.2 = b6.2 then ((laws_heldFlash.f k b25.2 1).bind fun t68=>(if t68 < 0 then (some false) else (if t68 = b25.1 then (some true) else (some false)))) else (some false)) else (some false)))))) else (some false))))) else (some false))) else (some false))))) else (some false)))) else (some false)))) else (some false)) else (some false)))))))))))) = some r:=H;have Fa0:=Aside0.mk Fa00;clear Fa00
 by_cases cd1 : t3 < 0
 ·rw [if_pos cd1] at H;have cd1b0 : decide (t3 < 0) = true:=decide_eq_true cd1;clear cd1;obtain rfl:=Option.some.inj H
  go_enter Try.func9,Try.ntmps9
  go_wp2_with (first | ((with_reducible refine gate_dst (N:=2) rfl ?_);refine box_event ?hg (N:=2) ?hd (cs:=#[.slice A0_0 l0_0.length c0_0]) (t:=54) ?hr ?_;(case hd=>rfl);(case hg=>rfl);(case hr=>first | (go_simp;done) | (go_simp;rfl));intro gb1 hg w1 hbox hb;have GBK1:=Aside0.mk (show gb1 = w.heap.size ∧ gb1 < w1.heap.size from ⟨hg,blk_lt hbox⟩);have GW1:=Aside0.mk (show w.heap.size ≤ gb1 by have q_:=below_size HB.out;rw [hg];exact q_);have BK1:=Aside0.mk hbox;replace HB:=Aside0.mk (below_step HB.out hb);replace HL:=Aside0.mk (And.intro HL.out (below_size hb));clear hb hbox hg;have hcz2 : w1.cell? ⟨gb1,0,none⟩ = some (.slice A0_0 l0_0.length c0_0):=(blk_cell BK1.out 0).trans rfl;have hfz3:=blk_frozen BK1.out 0) | ((with_reducible refine gate_callee (f:=31) rfl ?_);refine goesL_ (some 19) rfl rfl Try.func31 (by kernel_rfl) rfl #[.agg #[.slice A0_0 l0_0.length c0_0],.int .i64 1048576] rfl (by (try simp only [List.map_toArray,List.map_cons,List.map_nil]);first | done | rfl | (simp only [List.length_drop,List.length_take];rfl)) ?_;(with_reducible refine (laws_szFlash.calls k _ _ l0_0 1048576 t3 _ ?side1 ?side2 Fa0.out).mono ?_);(case side1=>exact Kd.C_below HR0_0.out HB.out);(case side2=>exact HC0_0.out);rintro e w4 ⟨rfl,hb⟩;refine ⟨_,rfl,?_⟩;replace BK1:=Aside0.mk (blk_below BK1.out hb);replace HB:=Aside0.mk (below_step HB.out hb);replace HL:=Aside0.mk (And.intro HL.out (below_size hb));clear hb;clear hcz2 hfz3;have hcz5 : w4.cell? ⟨gb1,0,none⟩ = some (.slice A0_0 l0_0.length c0_0):=(blk_cell BK1.out 0).trans rfl;have hfz6:=blk_frozen BK1.out 0))
  go_ret
  exact ⟨rfl,HB.out⟩
 rw [if_neg cd1] at H;have cd1b0 : decide (t3 < 0) = false:=decide_eq_false cd1;clear cd1;replace H:=Option.bind_eq_some_iff.mp H;obtain ⟨t5,Fa20,H⟩:=H;replace H : (if t5 < 0 then (some true) else ((laws_toFlash.f k l0_0).bind fun t7=>((laws_toStepS.f k l1).bind fun t10=>((spec_DoSteps.f k t7 t10).bind fun b6=>((laws_toFlash.f k l0_0).bind fun t18=>((laws_toStepS.f k l1).bind fun t22=>((impl_DoSteps.f k t18 t22).bind fun b9=>((laws_eqFlash.f k b9.1 b6.1).bind fun t30=>(if t30 = true then (if b9.2 = b6.2 then ((laws_toFlash.f k l0_0).bind fun t32=>((laws_eqFlash.f k t18 t32).bind fun t35=>(if t35 = true then ((laws_toStepS.f k l1).bind fun t37=>((laws_eqStepS.f k t22 t37).bind fun t40=>(if t40 = true then ((laws_markFlash.f k t18 1).bind fun b19=>((laws_markStepS.f k t22 b19.1).bind fun b20=>((laws_eqFlash.f k b9.1 b6.1).bind fun t48=>(if t48 = true then (if b20.1 < 0 then (some false) else (if b9.2 = b6.2 then ((laws_markFlash.f k b9.1 1).bind fun b25=>((laws_heldFlash.f k b25.2 1).bind fun t53=>(if t53 < 0 then (some false) else (if t53 = b25.1 then ((laws_toFlash.f k l0_0).bind fun t55=>((laws_toStepS.f k l1).bind fun t58=>((impl_DoSteps.f k t55 t58).bind fun b31=>((laws_eqFlash.f k b31.1 b6.1).bind fun t66=>(if t66 = true then (if b31.2 = b6.2 then ((laws_heldFlash.f k b25.2 1).bind fun t68=>(if t68 < 0 then (some false) else (if t68 = b25.1 then (some true) else (some false)))) else (some false)) else (some false)))))) else (some false))))) else (some false))) else (some false))))) else (some false)))) else (some false)))) else (some false)) else (some false)))))))))) = some r:=H;have Fa2:=Aside0.mk Fa20;clear Fa20
 by_cases cd3 : t5 < 0
 ·rw [if_pos cd3] at H;have cd3b0 : decide (t5 < 0) = true:=decide_eq_true cd3;clear cd3;obtain rfl:=Option.some.inj H
  go_enter Try.func9,Try.ntmps9
  go_wp2_with (first | ((with_reducible refine gate_dst (N:=2) rfl ?_);refine box_event ?hg (N:=2) ?hd (cs:=#[.slice A0_0 l0_0.length c0_0]) (t:=54) ?hr ?_;(case hd=>rfl);(case hg=>rfl);(case hr=>first | (go_simp;done) | (go_simp;rfl));intro gb1 hg w7 hbox hb;have GBK1:=Aside0.mk (show gb1 = w.heap.size ∧ gb1 < w7.heap.size from ⟨hg,blk_lt hbox⟩);have GW1:=Aside0.mk (show w.heap.size ≤ gb1 by have q_:=below_size HB.out;rw [hg];exact q_);have BK1:=Aside0.mk hbox;replace HB:=Aside0.mk (below_step HB.out hb);replace HL:=Aside0.mk (And.intro HL.out (below_size hb));clear hb hbox hg;have hcz8 : w7.cell? ⟨gb1,0,none⟩ = some (.slice A0_0 l0_0.length c0_0):=(blk_cell BK1.out 0).trans rfl;have hfz9:=blk_frozen BK1.out 0) | ((with_reducible refine gate_callee (f:=31) rfl ?_);refine goesL_ (some 19) rfl rfl Try.func31 (by kernel_rfl) rfl #[.agg #[.slice A0_0 l0_0.length c0_0],.int .i64 1048576] rfl (by (try simp only [List.map_toArray,List.map_cons,List.map_nil]);first | done | rfl | (simp only [List.length_drop,List.length_take];rfl)) ?_;(with_reducible refine (laws_szFlash.calls k _ _ l0_0 1048576 t3 _ ?side1 ?side2 Fa0.out).mono ?_);(case side1=>exact Kd.C_below HR0_0.out HB.out);(case side2=>exact HC0_0.out);rintro e w10 ⟨rfl,hb⟩;refine ⟨_,rfl,?_⟩;replace BK1:=Aside0.mk (blk_below BK1.out hb);replace HB:=Aside0.mk (below_step HB.out hb);replace HL:=Aside0.mk (And.intro HL.out (below_size hb));clear hb;clear hcz8 hfz9;have hcz11 : w10.cell? ⟨gb1,0,none⟩ = some (.slice A0_0 l0_0.length c0_0):=(blk_cell BK1.out 0).trans rfl;have hfz12:=blk_frozen BK1.out 0) | ((with_reducible refine gate_callee (f:=49) rfl ?_);refine goesL_ (some 24) rfl rfl Try.func49 (by kernel_rfl) rfl #[.slice A1 l1.length c1,.int .i64 t3] rfl (by (try simp only [List.map_toArray,List.map_cons,List.map_nil]);first | done | rfl | (simp only [List.length_drop,List.length_take];rfl)) ?_;(with_reducible refine (laws_szStepS.calls k _ _ l1 t3 t5 _ ?side1 ?side2 Fa2.out).mono ?_);(case side1=>exact Kd.C_below HR1.out HB.out);(case side2=>exact HC1.out);rintro e w13 ⟨rfl,hb⟩;refine ⟨_,rfl,?_⟩;replace BK1:=Aside0.mk (blk_below BK1.out hb);replace HB:=Aside0.mk (below_step HB.out hb);replace HL:=Aside0.mk (And.intro HL.out (below_size hb));clear hb;clear hcz11 hfz12;have hcz14 : w13.cell? ⟨gb1,0,none⟩ = some (.slice A0_0 l0_0.length c0_0):=(blk_cell BK1.out 0).trans rfl;have hfz15:=blk_frozen BK1.out 0))
  go_ret
  exact ⟨rfl,HB.out⟩
 rw [if_neg cd3] at H;have cd3b0 : decide (t5 < 0) = false:=decide_eq_false cd3;clear cd3;replace H:=Option.bind_eq_some_iff.mp H;obtain ⟨t7,Fa40,H⟩:=H;replace H : ((laws_toStepS.f k l1).bind fun t10=>((spec_DoSteps.f k t7 t10).bind fun b6=>((laws_toFlash.f k l0_0).bind fun t18=>((laws_toStepS.f k l1).bind fun t22=>((impl_DoSteps.f k t18 t22).bind fun b9=>((laws_eqFlash.f k b9.1 b6.1).bind fun t30=>(if t30 = true then (if b9.2 = b6.2 then ((laws_toFlash.f k l0_0).bind fun t32=>((laws_eqFlash.f k t18 t32).bind fun t35=>(if t35 = true then ((laws_toStepS.f k l1).bind fun t37=>((laws_eqStepS.f k t22 t37).bind fun t40=>(if t40 = true then ((laws_markFlash.f k t18 1).bind fun b19=>((laws_markStepS.f k t22 b19.1).bind fun b20=>((laws_eqFlash.f k b9.1 b6.1).bind fun t48=>(if t48 = true then (if b20.1 < 0 then (some false) else (if b9.2 = b6.2 then ((laws_markFlash.f k b9.1 1).bind fun b25=>((laws_heldFlash.f k b25.2 1).bind fun t53=>(if t53 < 0 then (some false) else (if t53 = b25.1 then ((laws_toFlash.f k l0_0).bind fun t55=>((laws_toStepS.f k l1).bind fun t58=>((impl_DoSteps.f k t55 t58).bind fun b31=>((laws_eqFlash.f k b31.1 b6.1).bind fun t66=>(if t66 = true then (if b31.2 = b6.2 then ((laws_heldFlash.f k b25.2 1).bind fun t68=>(if t68 < 0 then (some false) else (if t68 = b25.1 then (some true) else (some false)))) else (some false)) else (some false)))))) else (some false))))) else (some false))) else (some false))))) else (some false)))) else (some false)))) else (some false)) else (some false)))))))) = some r:=H;have Fa4:=Aside0.mk Fa40;clear Fa40;replace H:=Option.bind_eq_some_iff.mp H;obtain ⟨t10,Fa50,H⟩:=H;replace H : ((spec_DoSteps.f k t7 t10).bind fun b6=>((laws_toFlash.f k l0_0).bind fun t18=>((laws_toStepS.f k l1).bind fun t22=>((impl_DoSteps.f k t18 t22).bind fun b9=>((laws_eqFlash.f k b9.1 b6.1).bind fun t30=>(if t30 = true then (if b9.2 = b6.2 then ((laws_toFlash.f k l0_0).bind fun t32=>((laws_eqFlash.f k t18 t32).bind fun t35=>(if t35 = true then ((laws_toStepS.f k l1).bind fun t37=>((laws_eqStepS.f k t22 t37).bind fun t40=>(if t40 = true then ((laws_markFlash.f k t18 1).bind fun b19=>((laws_markStepS.f k t22 b19.1).bind fun b20=>((laws_eqFlash.f k b9.1 b6.1).bind fun t48=>(if t48 = true then (if b20.1 < 0 then (some false) else (if b9.2 = b6.2 then ((laws_markFlash.f k b9.1 1).bind fun b25=>((laws_heldFlash.f k b25.2 1).bind fun t53=>(if t53 < 0 then (some false) else (if t53 = b25.1 then ((laws_toFlash.f k l0_0).bind fun t55=>((laws_toStepS.f k l1).bind fun t58=>((impl_DoSteps.f k t55 t58).bind fun b31=>((laws_eqFlash.f k b31.1 b6.1).bind fun t66=>(if t66 = true then (if b31.2 = b6.2 then ((laws_heldFlash.f k b25.2 1).bind fun t68=>(if t68 < 0 then (some false) else (if t68 = b25.1 then (some true) else (some false)))) else (some false)) else (some false)))))) else (some false))))) else (some false))) else (some false))))) else (some false)))) else (some false)))) else (some false)) else (some false))))))) = some r:=H;have Fa5:=Aside0.mk Fa50;clear Fa50;replace H:=Option.bind_eq_some_iff.mp H;obtain ⟨⟨t13,t14⟩,Fa60,H⟩:=H;replace H : ((laws_toFlash.f k l0_0).bind fun t18=>((laws_toStepS.f k l1).bind fun t22=>((impl_DoSteps.f k t18 t22).bind fun b9=>((laws_eqFlash.f k b9.1 t13).bind fun t30=>(if t30 = true then (if b9.2 = t14 then ((laws_toFlash.f k l0_0).bind fun t32=>((laws_eqFlash.f k t18 t32).bind fun t35=>(if t35 = true then ((laws_toStepS.f k l1).bind fun t37=>((laws_eqStepS.f k t22 t37).bind fun t40=>(if t40 = true then ((laws_markFlash.f k t18 1).bind fun b19=>((laws_markStepS.f k t22 b19.1).bind fun b20=>((laws_eqFlash.f k b9.1 t13).bind fun t48=>(if t48 = true then (if b20.1 < 0 then (some false) else (if b9.2 = t14 then ((laws_markFlash.f k b9.1 1).bind fun b25=>((laws_heldFlash.f k b25.2 1).bind fun t53=>(if t53 < 0 then (some false) else (if t53 = b25.1 then ((laws_toFlash.f k l0_0).bind fun t55=>((laws_toStepS.f k l1).bind fun t58=>((impl_DoSteps.f k t55 t58).bind fun b31=>((laws_eqFlash.f k b31.1 t13).bind fun t66=>(if t66 = true then (if b31.2 = t14 then ((laws_heldFlash.f k b25.2 1).bind fun t68=>(if t68 < 0 then (some false) else (if t68 = b25.1 then (some true) else (some false)))) else (some false)) else (some false)))))) else (some false))))) else (some false))) else (some false))))) else (some false)))) else (some false)))) else (some false)) else (some false)))))) = some r:=H;have Fa6:=Aside0.mk Fa60;clear Fa60;replace H:=Option.bind_eq_some_iff.mp H;obtain ⟨t18,Fa70,H⟩:=H;replace H : ((laws_toStepS.f k l1).bind fun t22=>((impl_DoSteps.f k t18 t22).bind fun b9=>((laws_eqFlash.f k b9.1 t13).bind fun t30=>(if t30 = true then (if b9.2 = t14 then ((laws_toFlash.f k l0_0).bind fun t32=>((laws_eqFlash.f k t18 t32).bind fun t35=>(if t35 = true then ((laws_toStepS.f k l1).bind fun t37=>((laws_eqStepS.f k t22 t37).bind fun t40=>(if t40 = true then ((laws_markFlash.f k t18 1).bind fun b19=>((laws_markStepS.f k t22 b19.1).bind fun b20=>((laws_eqFlash.f k b9.1 t13).bind fun t48=>(if t48 = true then (if b20.1 < 0 then (some false) else (if b9.2 = t14 then ((laws_markFlash.f k b9.1 1).bind fun b25=>((laws_heldFlash.f k b25.2 1).bind fun t53=>(if t53 < 0 then (some false) else (if t53 = b25.1 then ((laws_toFlash.f k l0_0).bind fun t55=>((laws_toStepS.f k l1).bind fun t58=>((impl_DoSteps.f k t55 t58).bind fun b31=>((laws_eqFlash.f k b31.1 t13).bind fun t66=>(if t66 = true then (if b31.2 = t14 then ((laws_heldFlash.f k b25.2 1).bind fun t68=>(if t68 < 0 then (some false) else (if t68 = b25.1 then (some true) else (some false)))) else (some false)) else (some false)))))) else (some false))))) else (some false))) else (some false))))) else (some false)))) else (some false)))) else (some false)) else (some false))))) = some r:=H;have Fa7:=Aside0.mk Fa70;clear Fa70;replace H:=Option.bind_eq_some_iff.mp H;obtain ⟨t22,Fa80,H⟩:=H;replace H : ((impl_DoSteps.f k t18 t22).bind fun b9=>((laws_eqFlash.f k b9.1 t13).bind fun t30=>(if t30 = true then (if b9.2 = t14 then ((laws_toFlash.f k l0_0).bind fun t32=>((laws_eqFlash.f k t18 t32).bind fun t35=>(if t35 = true then ((laws_toStepS.f k l1).bind fun t37=>((laws_eqStepS.f k t22 t37).bind fun t40=>(if t40 = true then ((laws_markFlash.f k t18 1).bind fun b19=>((laws_markStepS.f k t22 b19.1).bind fun b20=>((laws_eqFlash.f k b9.1 t13).bind fun t48=>(if t48 = true then (if b20.1 < 0 then (some false) else (if b9.2 = t14 then ((laws_markFlash.f k b9.1 1).bind fun b25=>((laws_heldFlash.f k b25.2 1).bind fun t53=>(if t53 < 0 then (some false) else (if t53 = b25.1 then ((laws_toFlash.f k l0_0).bind fun t55=>((laws_toStepS.f k l1).bind fun t58=>((impl_DoSteps.f k t55 t58).bind fun b31=>((laws_eqFlash.f k b31.1 t13).bind fun t66=>(if t66 = true then (if b31.2 = t14 then ((laws_heldFlash.f k b25.2 1).bind fun t68=>(if t68 < 0 then (some false) else (if t68 = b25.1 then (some true) else (some false)))) else (some false)) else (some false)))))) else (some false))))) else (some false))) else (some false))))) else (some false)))) else (some false)))) else (some false)) else (some false)))) = some r:=H;have Fa8:=Aside0.mk Fa80;clear Fa80;replace H:=Option.bind_eq_some_iff.mp H;obtain ⟨⟨t25,t26⟩,Fa90,H⟩:=H;replace H : ((laws_eqFlash.f k t25 t13).bind fun t30=>(if t30 = true then (if t26 = t14 then ((laws_toFlash.f k l0_0).bind fun t32=>((laws_eqFlash.f k t18 t32).bind fun t35=>(if t35 = true then ((laws_toStepS.f k l1).bind fun t37=>((laws_eqStepS.f k t22 t37).bind fun t40=>(if t40 = true then ((laws_markFlash.f k t18 1).bind fun b19=>((laws_markStepS.f k t22 b19.1).bind fun b20=>((laws_eqFlash.f k t25 t13).bind fun t48=>(if t48 = true then (if b20.1 < 0 then (some false) else (if t26 = t14 then ((laws_markFlash.f k t25 1).bind fun b25=>((laws_heldFlash.f k b25.2 1).bind fun t53=>(if t53 < 0 then (some false) else (if t53 = b25.1 then ((laws_toFlash.f k l0_0).bind fun t55=>((laws_toStepS.f k l1).bind fun t58=>((impl_DoSteps.f k t55 t58).bind fun b31=>((laws_eqFlash.f k b31.1 t13).bind fun t66=>(if t66 = true then (if b31.2 = t14 then ((laws_heldFlash.f k b25.2 1).bind fun t68=>(if t68 < 0 then (some false) else (if t68 = b25.1 then (some true) else (some false)))) else (some false)) else (some false)))))) else (some false))))) else (some false))) else (some false))))) else (some false)))) else (some false)))) else (some false)) else (some false))) = some r:=H;have Fa9:=Aside0.mk Fa90;clear Fa90;replace H:=Option.bind_eq_some_iff.mp H;obtain ⟨t30,Fa100,H⟩:=H;replace H : (if t30 = true then (if t26 = t14 then ((laws_toFlash.f k l0_0).bind fun t32=>((laws_eqFlash.f k t18 t32).bind fun t35=>(if t35 = true then ((laws_toStepS.f k l1).bind fun t37=>((laws_eqStepS.f k t22 t37).bind fun t40=>(if t40 = true then ((laws_markFlash.f k t18 1).bind fun b19=>((laws_markStepS.f k t22 b19.1).bind fun b20=>((laws_eqFlash.f k t25 t13).bind fun t48=>(if t48 = true then (if b20.1 < 0 then (some false) else (if t26 = t14 then ((laws_markFlash.f k t25 1).bind fun b25=>((laws_heldFlash.f k b25.2 1).bind fun t53=>(if t53 < 0 then (some false) else (if t53 = b25.1 then ((laws_toFlash.f k l0_0).bind fun t55=>((laws_toStepS.f k l1).bind fun t58=>((impl_DoSteps.f k t55 t58).bind fun b31=>((laws_eqFlash.f k b31.1 t13).bind fun t66=>(if t66 = true then (if b31.2 = t14 then ((laws_heldFlash.f k b25.2 1).bind fun t68=>(if t68 < 0 then (some false) else (if t68 = b25.1 then (some true) else (some false)))) else (some false)) else (some false)))))) else (some false))))) else (some false))) else (some false))))) else (some false)))) else (some false)))) else (some false)) else (some false)) = some r:=H;have Fa10:=Aside0.mk Fa100;clear Fa100;have cd11 : t30 = true:=Classical.byContradiction fun hc_=>by rw [if_neg hc_] at H;exact absurd ((Option.some.inj H).trans hT.out) (by decide)
 rw [if_pos cd11] at H;subst cd11;replace H : (if t26 = t14 then ((laws_toFlash.f k l0_0).bind fun t32=>((laws_eqFlash.f k t18 t32).bind fun t35=>(if t35 = true then ((laws_toStepS.f k l1).bind fun t37=>((laws_eqStepS.f k t22 t37).bind fun t40=>(if t40 = true then ((laws_markFlash.f k t18 1).bind fun b19=>((laws_markStepS.f k t22 b19.1).bind fun b20=>((laws_eqFlash.f k t25 t13).bind fun t48=>(if t48 = true then (if b20.1 < 0 then (some false) else (if t26 = t14 then ((laws_markFlash.f k t25 1).bind fun b25=>((laws_heldFlash.f k b25.2 1).bind fun t53=>(if t53 < 0 then (some false) else (if t53 = b25.1 then ((laws_toFlash.f k l0_0).bind fun t55=>((laws_toStepS.f k l1).bind fun t58=>((impl_DoSteps.f k t55 t58).bind fun b31=>((laws_eqFlash.f k b31.1 t13).bind fun t66=>(if t66 = true then (if b31.2 = t14 then ((laws_heldFlash.f k b25.2 1).bind fun t68=>(if t68 < 0 then (some false) else (if t68 = b25.1 then (some true) else (some false)))) else (some false)) else (some false)))))) else (some false))))) else (some false))) else (some false))))) else (some false)))) else (some false)))) else (some false)) = some r:=H;have cd12 : t26 = t14:=Classical.byContradiction fun hc_=>by rw [if_neg hc_] at H;exact absurd ((Option.some.inj H).trans hT.out) (by decide)
 rw [if_pos cd12] at H;have cd12b0 : (t26 == t14) = true:=beq_iff_eq.mpr cd12;have cd12b1 : (t26 != t14) = false:=bne_eq_false_iff_eq.mpr cd12;clear cd12;replace H:=Option.bind_eq_some_iff.mp H;obtain ⟨t32,Fa130,H⟩:=H;replace H : ((laws_eqFlash.f k t18 t32).bind fun t35=>(if t35 = true then ((laws_toStepS.f k l1).bind fun t37=>((laws_eqStepS.f k t22 t37).bind fun t40=>(if t40 = true then ((laws_markFlash.f k t18 1).bind fun b19=>((laws_markStepS.f k t22 b19.1).bind fun b20=>((laws_eqFlash.f k t25 t13).bind fun t48=>(if t48 = true then (if b20.1 < 0 then (some false) else (if t26 = t14 then ((laws_markFlash.f k t25 1).bind fun b25=>((laws_heldFlash.f k b25.2 1).bind fun t53=>(if t53 < 0 then (some false) else (if t53 = b25.1 then ((laws_toFlash.f k l0_0).bind fun t55=>((laws_toStepS.f k l1).bind fun t58=>((impl_DoSteps.f k t55 t58).bind fun b31=>((laws_eqFlash.f k b31.1 t13).bind fun t66=>(if t66 = true then (if b31.2 = t14 then ((laws_heldFlash.f k b25.2 1).bind fun t68=>(if t68 < 0 then (some false) else (if t68 = b25.1 then (some true) else (some false)))) else (some false)) else (some false)))))) else (some false))))) else (some false))) else (some false))))) else (some false)))) else (some false))) = some r:=H;have Fa13:=Aside0.mk Fa130;clear Fa130;replace H:=Option.bind_eq_some_iff.mp H;obtain ⟨t35,Fa140,H⟩:=H;replace H : (if t35 = true then ((laws_toStepS.f k l1).bind fun t37=>((laws_eqStepS.f k t22 t37).bind fun t40=>(if t40 = true then ((laws_markFlash.f k t18 1).bind fun b19=>((laws_markStepS.f k t22 b19.1).bind fun b20=>((laws_eqFlash.f k t25 t13).bind fun t48=>(if t48 = true then (if b20.1 < 0 then (some false) else (if t26 = t14 then ((laws_markFlash.f k t25 1).bind fun b25=>((laws_heldFlash.f k b25.2 1).bind fun t53=>(if t53 < 0 then (some false) else (if t53 = b25.1 then ((laws_toFlash.f k l0_0).bind fun t55=>((laws_toStepS.f k l1).bind fun t58=>((impl_DoSteps.f k t55 t58).bind fun b31=>((laws_eqFlash.f k b31.1 t13).bind fun t66=>(if t66 = true then (if b31.2 = t14 then ((laws_heldFlash.f k b25.2 1).bind fun t68=>(if t68 < 0 then (some false) else (if t68 = b25.1 then (some true) else (some false)))) else (some false)) else (some false)))))) else (some false))))) else (some false))) else (some false))))) else (some false)))) else (some false)) = some r:=H;have Fa14:=Aside0.mk Fa140;clear Fa140;have cd15 : t35 = true:=Classical.byContradiction fun hc_=>by rw [if_neg hc_] at H;exact absurd ((Option.some.inj H).trans hT.out) (by decide)
 rw [if_pos cd15] at H;subst cd15;replace H : ((laws_toStepS.f k l1).bind fun t37=>((laws_eqStepS.f k t22 t37).bind fun t40=>(if t40 = true then ((laws_markFlash.f k t18 1).bind fun b19=>((laws_markStepS.f k t22 b19.1).bind fun b20=>((laws_eqFlash.f k t25 t13).bind fun t48=>(if t48 = true then (if b20.1 < 0 then (some false) else (if t26 = t14 then ((laws_markFlash.f k t25 1).bind fun b25=>((laws_heldFlash.f k b25.2 1).bind fun t53=>(if t53 < 0 then (some false) else (if t53 = b25.1 then ((laws_toFlash.f k l0_0).bind fun t55=>((laws_toStepS.f k l1).bind fun t58=>((impl_DoSteps.f k t55 t58).bind fun b31=>((laws_eqFlash.f k b31.1 t13).bind fun t66=>(if t66 = true then (if b31.2 = t14 then ((laws_heldFlash.f k b25.2 1).bind fun t68=>(if t68 < 0 then (some false) else (if t68 = b25.1 then (some true) else (some false)))) else (some false)) else (some false)))))) else (some false))))) else (some false))) else (some false))))) else (some false)))) = some r:=H;replace H:=Option.bind_eq_some_iff.mp H;obtain ⟨t37,Fa160,H⟩:=H;replace H : ((laws_eqStepS.f k t22 t37).bind fun t40=>(if t40 = true then ((laws_markFlash.f k t18 1).bind fun b19=>((laws_markStepS.f k t22 b19.1).bind fun b20=>((laws_eqFlash.f k t25 t13).bind fun t48=>(if t48 = true then (if b20.1 < 0 then (some false) else (if t26 = t14 then ((laws_markFlash.f k t25 1).bind fun b25=>((laws_heldFlash.f k b25.2 1).bind fun t53=>(if t53 < 0 then (some false) else (if t53 = b25.1 then ((laws_toFlash.f k l0_0).bind fun t55=>((laws_toStepS.f k l1).bind fun t58=>((impl_DoSteps.f k t55 t58).bind fun b31=>((laws_eqFlash.f k b31.1 t13).bind fun t66=>(if t66 = true then (if b31.2 = t14 then ((laws_heldFlash.f k b25.2 1).bind fun t68=>(if t68 < 0 then (some false) else (if t68 = b25.1 then (some true) else (some false)))) else (some false)) else (some false)))))) else (some false))))) else (some false))) else (some false))))) else (some false))) = some r:=H;have Fa16:=Aside0.mk Fa160;clear Fa160;replace H:=Option.bind_eq_some_iff.mp H;obtain ⟨t40,Fa170,H⟩:=H;replace H : (if t40 = true then ((laws_markFlash.f k t18 1).bind fun b19=>((laws_markStepS.f k t22 b19.1).bind fun b20=>((laws_eqFlash.f k t25 t13).bind fun t48=>(if t48 = true then (if b20.1 < 0 then (some false) else (if t26 = t14 then ((laws_markFlash.f k t25 1).bind fun b25=>((laws_heldFlash.f k b25.2 1).bind fun t53=>(if t53 < 0 then (some false) else (if t53 = b25.1 then ((laws_toFlash.f k l0_0).bind fun t55=>((laws_toStepS.f k l1).bind fun t58=>((impl_DoSteps.f k t55 t58).bind fun b31=>((laws_eqFlash.f k b31.1 t13).bind fun t66=>(if t66 = true then (if b31.2 = t14 then ((laws_heldFlash.f k b25.2 1).bind fun t68=>(if t68 < 0 then (some false) else (if t68 = b25.1 then (some true) else (some false)))) else (some false)) else (some false)))))) else (some false))))) else (some false))) else (some false))))) else (some false)) = some r:=H;have Fa17:=Aside0.mk Fa170;clear Fa170;have cd18 : t40 = true:=Classical.byContradiction fun hc_=>by rw [if_neg hc_] at H;exact absurd ((Option.some.inj H).trans hT.out) (by decide)
 rw [if_pos cd18] at H;subst cd18;replace H : ((laws_markFlash.f k t18 1).bind fun b19=>((laws_markStepS.f k t22 b19.1).bind fun b20=>((laws_eqFlash.f k t25 t13).bind fun t48=>(if t48 = true then (if b20.1 < 0 then (some false) else (if t26 = t14 then ((laws_markFlash.f k t25 1).bind fun b25=>((laws_heldFlash.f k b25.2 1).bind fun t53=>(if t53 < 0 then (some false) else (if t53 = b25.1 then ((laws_toFlash.f k l0_0).bind fun t55=>((laws_toStepS.f k l1).bind fun t58=>((impl_DoSteps.f k t55 t58).bind fun b31=>((laws_eqFlash.f k b31.1 t13).bind fun t66=>(if t66 = true then (if b31.2 = t14 then ((laws_heldFlash.f k b25.2 1).bind fun t68=>(if t68 < 0 then (some false) else (if t68 = b25.1 then (some true) else (some false)))) else (some false)) else (some false)))))) else (some false))))) else (some false))) else (some false))))) = some r:=H;replace H:=Option.bind_eq_some_iff.mp H;obtain ⟨⟨t42,t43⟩,Fa190,H⟩:=H;replace H : ((laws_markStepS.f k t22 t42).bind fun b20=>((laws_eqFlash.f k t25 t13).bind fun t48=>(if t48 = true then (if b20.1 < 0 then (some false) else (if t26 = t14 then ((laws_markFlash.f k t25 1).bind fun b25=>((laws_heldFlash.f k b25.2 1).bind fun t53=>(if t53 < 0 then (some false) else (if t53 = b25.1 then ((laws_toFlash.f k l0_0).bind fun t55=>((laws_toStepS.f k l1).bind fun t58=>((impl_DoSteps.f k t55 t58).bind fun b31=>((laws_eqFlash.f k b31.1 t13).bind fun t66=>(if t66 = true then (if b31.2 = t14 then ((laws_heldFlash.f k b25.2 1).bind fun t68=>(if t68 < 0 then (some false) else (if t68 = b25.1 then (some true) else (some false)))) else (some false)) else (some false)))))) else (some false))))) else (some false))) else (some false)))) = some r:=H;have Fa19:=Aside0.mk Fa190;clear Fa190;replace H:=Option.bind_eq_some_iff.mp H;obtain ⟨⟨t45,t46⟩,Fa200,H⟩:=H;replace H : ((laws_eqFlash.f k t25 t13).bind fun t48=>(if t48 = true then (if t45 < 0 then (some false) else (if t26 = t14 then ((laws_markFlash.f k t25 1).bind fun b25=>((laws_heldFlash.f k b25.2 1).bind fun t53=>(if t53 < 0 then (some false) else (if t53 = b25.1 then ((laws_toFlash.f k l0_0).bind fun t55=>((laws_toStepS.f k l1).bind fun t58=>((impl_DoSteps.f k t55 t58).bind fun b31=>((laws_eqFlash.f k b31.1 t13).bind fun t66=>(if t66 = true then (if b31.2 = t14 then ((laws_heldFlash.f k b25.2 1).bind fun t68=>(if t68 < 0 then (some false) else (if t68 = b25.1 then (some true) else (some false)))) else (some false)) else (some false)))))) else (some false))))) else (some false))) else (some false))) = some r:=H;have Fa20:=Aside0.mk Fa200;clear Fa200;replace H:=Option.bind_eq_some_iff.mp H;obtain ⟨t48,Fa210,H⟩:=H;replace H : (if t48 = true then (if t45 < 0 then (some false) else (if t26 = t14 then ((laws_markFlash.f k t25 1).bind fun b25=>((laws_heldFlash.f k b25.2 1).bind fun t53=>(if t53 < 0 then (some false) else (if t53 = b25.1 then ((laws_toFlash.f k l0_0).bind fun t55=>((laws_toStepS.f k l1).bind fun t58=>((impl_DoSteps.f k t55 t58).bind fun b31=>((laws_eqFlash.f k b31.1 t13).bind fun t66=>(if t66 = true then (if b31.2 = t14 then ((laws_heldFlash.f k b25.2 1).bind fun t68=>(if t68 < 0 then (some false) else (if t68 = b25.1 then (some true) else (some false)))) else (some false)) else (some false)))))) else (some false))))) else (some false))) else (some false)) = some r:=H;have Fa21:=Aside0.mk Fa210;clear Fa210;have cd22 : t48 = true:=Classical.byContradiction fun hc_=>by rw [if_neg hc_] at H;exact absurd ((Option.some.inj H).trans hT.out) (by decide)
 rw [if_pos cd22] at H;subst cd22;replace H : (if t45 < 0 then (some false) else (if t26 = t14 then ((laws_markFlash.f k t25 1).bind fun b25=>((laws_heldFlash.f k b25.2 1).bind fun t53=>(if t53 < 0 then (some false) else (if t53 = b25.1 then ((laws_toFlash.f k l0_0).bind fun t55=>((laws_toStepS.f k l1).bind fun t58=>((impl_DoSteps.f k t55 t58).bind fun b31=>((laws_eqFlash.f k b31.1 t13).bind fun t66=>(if t66 = true then (if b31.2 = t14 then ((laws_heldFlash.f k b25.2 1).bind fun t68=>(if t68 < 0 then (some false) else (if t68 = b25.1 then (some true) else (some false)))) else (some false)) else (some false)))))) else (some false))))) else (some false))) = some r:=H;have cd23 : ¬ (t45 < 0):=fun hc_=>by rw [if_pos hc_] at H;exact absurd ((Option.some.inj H).trans hT.out) (by decide)
 rw [if_neg cd23] at H;have cd23b0 : decide (t45 < 0) = false:=decide_eq_false cd23;clear cd23;have cd24 : t26 = t14:=Classical.byContradiction fun hc_=>by rw [if_neg hc_] at H;exact absurd ((Option.some.inj H).trans hT.out) (by decide)
 rw [if_pos cd24] at H;have cd24b0 : (t26 == t14) = true:=beq_iff_eq.mpr cd24;have cd24b1 : (t26 != t14) = false:=bne_eq_false_iff_eq.mpr cd24;clear cd24;replace H:=Option.bind_eq_some_iff.mp H;obtain ⟨⟨t50,t51⟩,Fa250,H⟩:=H;replace H : ((laws_heldFlash.f k t51 1).bind fun t53=>(if t53 < 0 then (some false) else (if t53 = t50 then ((laws_toFlash.f k l0_0).bind fun t55=>((laws_toStepS.f k l1).bind fun t58=>((impl_DoSteps.f k t55 t58).bind fun b31=>((laws_eqFlash.f k b31.1 t13).bind fun t66=>(if t66 = true then (if b31.2 = t14 then ((laws_heldFlash.f k t51 1).bind fun t68=>(if t68 < 0 then (some false) else (if t68 = t50 then (some true) else (some false)))) else (some false)) else (some false)))))) else (some false)))) = some r:=H;have Fa25:=Aside0.mk Fa250;clear Fa250;replace H:=Option.bind_eq_some_iff.mp H;obtain ⟨t53,Fa260,H⟩:=H;replace H : (if t53 < 0 then (some false) else (if t53 = t50 then ((laws_toFlash.f k l0_0).bind fun t55=>((laws_toStepS.f k l1).bind fun t58=>((impl_DoSteps.f k t55 t58).bind fun b31=>((laws_eqFlash.f k b31.1 t13).bind fun t66=>(if t66 = true then (if b31.2 = t14 then ((laws_heldFlash.f k t51 1).bind fun t68=>(if t68 < 0 then (some false) else (if t68 = t50 then (some true) else (some false)))) else (some false)) else (some false)))))) else (some false))) = some r:=H;have Fa26:=Aside0.mk Fa260;clear Fa260;have cd27 : ¬ (t53 < 0):=fun hc_=>by rw [if_pos hc_] at H;exact absurd ((Option.some.inj H).trans hT.out) (by decide)
 rw [if_neg cd27] at H;have cd27b0 : decide (t53 < 0) = false:=decide_eq_false cd27;clear cd27;have cd28 : t53 = t50:=Classical.byContradiction fun hc_=>by rw [if_neg hc_] at H;exact absurd ((Option.some.inj H).trans hT.out) (by decide)
 rw [if_pos cd28] at H;have cd28b0 : (t53 == t50) = true:=beq_iff_eq.mpr cd28;have cd28b1 : (t53 != t50) = false:=bne_eq_false_iff_eq.mpr cd28;clear cd28;replace H:=Option.bind_eq_some_iff.mp H;obtain ⟨t55,Fa290,H⟩:=H;replace H : ((laws_toStepS.f k l1).bind fun t58=>((impl_DoSteps.f k t55 t58).bind fun b31=>((laws_eqFlash.f k b31.1 t13).bind fun t66=>(if t66 = true then (if b31.2 = t14 then ((laws_heldFlash.f k t51 1).bind fun t68=>(if t68 < 0 then (some false) else (if t68 = t50 then (some true) else (some false)))) else (some false)) else (some false))))) = some r:=H;have Fa29:=Aside0.mk Fa290;clear Fa290;replace H:=Option.bind_eq_some_iff.mp H;obtain ⟨t58,Fa300,H⟩:=H;replace H : ((impl_DoSteps.f k t55 t58).bind fun b31=>((laws_eqFlash.f k b31.1 t13).bind fun t66=>(if t66 = true then (if b31.2 = t14 then ((laws_heldFlash.f k t51 1).bind fun t68=>(if t68 < 0 then (some false) else (if t68 = t50 then (some true) else (some false)))) else (some false)) else (some false)))) = some r:=H;have Fa30:=Aside0.mk Fa300;clear Fa300;replace H:=Option.bind_eq_some_iff.mp H;obtain ⟨⟨t61,t62⟩,Fa310,H⟩:=H;replace H : ((laws_eqFlash.f k t61 t13).bind fun t66=>(if t66 = true then (if t62 = t14 then ((laws_heldFlash.f k t51 1).bind fun t68=>(if t68 < 0 then (some false) else (if t68 = t50 then (some true) else (some false)))) else (some false)) else (some false))) = some r:=H;have Fa31:=Aside0.mk Fa310;clear Fa310;replace H:=Option.bind_eq_some_iff.mp H;obtain ⟨t66,Fa320,H⟩:=H;replace H : (if t66 = true then (if t62 = t14 then ((laws_heldFlash.f k t51 1).bind fun t68=>(if t68 < 0 then (some false) else (if t68 = t50 then (some true) else (some false)))) else (some false)) else (some false)) = some r:=H;have Fa32:=Aside0.mk Fa320;clear Fa320;have cd33 : t66 = true:=Classical.byContradiction fun hc_=>by rw [if_neg hc_] at H;exact absurd ((Option.some.inj H).trans hT.out) (by decide)
 rw [if_pos cd33] at H;subst cd33;replace H : (if t62 = t14 then ((laws_heldFlash.f k t51 1).bind fun t68=>(if t68 < 0 then (some false) else (if t68 = t50 then (some true) else (some false)))) else (some false)) = some r:=H;have cd34 : t62 = t14:=Classical.byContradiction fun hc_=>by rw [if_neg hc_] at H;exact absurd ((Option.some.inj H).trans hT.out) (by decide)
 rw [if_pos cd34] at H;have cd34b0 : (t62 == t14) = true:=beq_iff_eq.mpr cd34;have cd34b1 : (t62 != t14) = false:=bne_eq_false_iff_eq.mpr cd34;clear cd34;replace H:=Option.bind_eq_some_iff.mp H;obtain ⟨t68,Fa350,H⟩:=H;replace H : (if t68 < 0 then (some false) else (if t68 = t50 then (some true) else (some false))) = some r:=H;have Fa35:=Aside0.mk Fa350;clear Fa350;have cd36 : ¬ (t68 < 0):=fun hc_=>by rw [if_pos hc_] at H;exact absurd ((Option.some.inj H).trans hT.out) (by decide)
 rw [if_neg cd36] at H;have cd36b0 : decide (t68 < 0) = false:=decide_eq_false cd36;clear cd36;have cd37 : t68 = t50:=Classical.byContradiction fun hc_=>by rw [if_neg hc_] at H;exact absurd ((Option.some.inj H).trans hT.out) (by decide)
 rw [if_pos cd37] at H;have cd37b0 : (t68 == t50) = true:=beq_iff_eq.mpr cd37;have cd37b1 : (t68 != t50) = false:=bne_eq_false_iff_eq.mpr cd37;clear cd37;obtain rfl:=Option.some.inj H
 go_enter Try.func9,Try.ntmps9
 go_wp2_with (first | ((with_reducible refine gate_dst (N:=2) rfl ?_);refine box_event ?hg (N:=2) ?hd (cs:=#[.slice A0_0 l0_0.length c0_0]) (t:=54) ?hr ?_;(case hd=>rfl);(case hg=>rfl);(case hr=>first | (go_simp;done) | (go_simp;rfl));intro gb1 hg w16 hbox hb;have GBK1:=Aside0.mk (show gb1 = w.heap.size ∧ gb1 < w16.heap.size from ⟨hg,blk_lt hbox⟩);have GW1:=Aside0.mk (show w.heap.size ≤ gb1 by have q_:=below_size HB.out;rw [hg];exact q_);have BK1:=Aside0.mk hbox;replace HB:=Aside0.mk (below_step HB.out hb);replace HL:=Aside0.mk (And.intro HL.out (below_size hb));clear hb hbox hg;have hcz17 : w16.cell? ⟨gb1,0,none⟩ = some (.slice A0_0 l0_0.length c0_0):=(blk_cell BK1.out 0).trans rfl;have hfz18:=blk_frozen BK1.out 0) | ((with_reducible refine gate_callee (f:=31) rfl ?_);refine goesL_ (some 19) rfl rfl Try.func31 (by kernel_rfl) rfl #[.agg #[.slice A0_0 l0_0.length c0_0],.int .i64 1048576] rfl (by (try simp only [List.map_toArray,List.map_cons,List.map_nil]);first | done | rfl | (simp only [List.length_drop,List.length_take];rfl)) ?_;(with_reducible refine (laws_szFlash.calls k _ _ l0_0 1048576 t3 _ ?side1 ?side2 Fa0.out).mono ?_);(case side1=>exact Kd.C_below HR0_0.out HB.out);(case side2=>exact HC0_0.out);rintro e w19 ⟨rfl,hb⟩;refine ⟨_,rfl,?_⟩;replace BK1:=Aside0.mk (blk_below BK1.out hb);replace HB:=Aside0.mk (below_step HB.out hb);replace HL:=Aside0.mk (And.intro HL.out (below_size hb));clear hb;clear hcz17 hfz18;have hcz20 : w19.cell? ⟨gb1,0,none⟩ = some (.slice A0_0 l0_0.length c0_0):=(blk_cell BK1.out 0).trans rfl;have hfz21:=blk_frozen BK1.out 0) | ((with_reducible refine gate_callee (f:=49) rfl ?_);refine goesL_ (some 24) rfl rfl Try.func49 (by kernel_rfl) rfl #[.slice A1 l1.length c1,.int .i64 t3] rfl (by (try simp only [List.map_toArray,List.map_cons,List.map_nil]);first | done | rfl | (simp only [List.length_drop,List.length_take];rfl)) ?_;(with_reducible refine (laws_szStepS.calls k _ _ l1 t3 t5 _ ?side1 ?side2 Fa2.out).mono ?_);(case side1=>exact Kd.C_below HR1.out HB.out);(case side2=>exact HC1.out);rintro e w22 ⟨rfl,hb⟩;refine ⟨_,rfl,?_⟩;replace BK1:=Aside0.mk (blk_below BK1.out hb);replace HB:=Aside0.mk (below_step HB.out hb);replace HL:=Aside0.mk (And.intro HL.out (below_size hb));clear hb;clear hcz20 hfz21;have hcz23 : w22.cell? ⟨gb1,0,none⟩ = some (.slice A0_0 l0_0.length c0_0):=(blk_cell BK1.out 0).trans rfl;have hfz24:=blk_frozen BK1.out 0) | ((with_reducible refine gate_callee (f:=33) rfl ?_);refine goesL_ (some 29) rfl rfl Try.func33 (by kernel_rfl) rfl #[.agg #[.slice A0_0 l0_0.length c0_0]] rfl (by (try simp only [List.map_toArray,List.map_cons,List.map_nil]);first | done | rfl | (simp only [List.length_drop,List.length_take];rfl)) ?_;(with_reducible refine (laws_toFlash.calls k _ _ l0_0 t7 _ ?side1 ?side2 Fa4.out).mono ?_);(case side1=>exact Kd.C_below HR0_0.out HB.out);(case side2=>exact HC0_0.out);rintro e w25 ⟨v8,rfl,ho0,hb⟩;refine ⟨_,rfl,?_⟩;have HZ8:=Aside0.mk (Kd.S_lower (Kd.S_mono (ok':=fun k_=>(w22.heap.size ≤ k_ ∧ k_ < w25.heap.size)) (Kd.S_bound ho0) (fun k_ hk_=>⟨hk_.2.1,hk_.2.2.1⟩)) (below_size HB.out));clear ho0;replace BK1:=Aside0.mk (blk_below BK1.out hb);replace HB:=Aside0.mk (below_step HB.out hb);replace HL:=Aside0.mk (And.intro HL.out (below_size hb));clear hb;obtain ⟨A8,c8,e8⟩:=Kd.S_slice HZ8.out;subst e8;clear hcz23 hfz24;have hcz26 : w25.cell? ⟨gb1,0,none⟩ = some (.slice A0_0 l0_0.length c0_0):=(blk_cell BK1.out 0).trans rfl;have hfz27:=blk_frozen BK1.out 0) | ((with_reducible refine gate_callee (f:=51) rfl ?_);refine goesL_ (some 31) rfl rfl Try.func51 (by kernel_rfl) rfl #[.slice A1 l1.length c1] rfl (by (try simp only [List.map_toArray,List.map_cons,List.map_nil]);first | done | rfl | (simp only [List.length_drop,List.length_take];rfl)) ?_;(with_reducible refine (laws_toStepS.calls k _ _ l1 t10 _ ?side1 ?side2 Fa5.out).mono ?_);(case side1=>exact Kd.C_below HR1.out HB.out);(case side2=>exact HC1.out);rintro e w28 ⟨v11,rfl,ho0,hb⟩;refine ⟨_,rfl,?_⟩;have HZ11:=Aside0.mk (Kd.R_lower (Kd.R_mono (ok':=fun k_=>(w25.heap.size ≤ k_ ∧ k_ < w28.heap.size)) (Kd.R_bound ho0) (fun k_ hk_=>⟨hk_.2.1,hk_.2.2.1⟩)) (below_size HB.out));clear ho0;replace HZ8:=Aside0.mk (Kd.S_below HZ8.out hb);replace BK1:=Aside0.mk (blk_below BK1.out hb);replace HB:=Aside0.mk (below_step HB.out hb);replace HL:=Aside0.mk (And.intro HL.out (below_size hb));clear hb;obtain ⟨A11,c11,e11⟩:=Kd.R_slice HZ11.out;subst e11;clear hcz26 hfz27;have hcz29 : w28.cell? ⟨gb1,0,none⟩ = some (.slice A0_0 l0_0.length c0_0):=(blk_cell BK1.out 0).trans rfl;have hfz30:=blk_frozen BK1.out 0) | ((with_reducible refine gate_callee (f:=50) rfl ?_);refine goesL_ (some 32) rfl rfl Try.func50 (by kernel_rfl) rfl #[.agg #[.slice A8 t7.length c8],.slice A11 t10.length c11] rfl (by (try simp only [List.map_toArray,List.map_cons,List.map_nil]);first | done | rfl | (simp only [List.length_drop,List.length_take];rfl)) ?_;(with_reducible refine (spec_DoSteps.calls k _ _ t7 _ _ t10 t13 t14 _ ?side1 ?side2 ?side3 ?side4 Fa6.out).mono ?_);(case side1=>exact (Kd.S_reads' HZ8.out).2.2);(case side2=>exact (Kd.S_reads' HZ8.out).2.1);(case side3=>exact (Kd.R_reads' HZ11.out).2.2);(case side4=>exact (Kd.R_reads' HZ11.out).2.1);rintro e w31 ⟨v15,rfl,ho0,hb⟩;refine ⟨_,rfl,?_⟩;have HZ15:=Aside0.mk (Kd.S_lower (Kd.S_mono (ok':=fun k_=>(w28.heap.size ≤ k_ ∧ k_ < w31.heap.size)) (Kd.S_bound ho0) (fun k_ hk_=>⟨hk_.2.1,hk_.2.2.1⟩)) (below_size HB.out));clear ho0;replace HZ8:=Aside0.mk (Kd.S_below HZ8.out hb);replace HZ11:=Aside0.mk (Kd.R_below HZ11.out hb);replace BK1:=Aside0.mk (blk_below BK1.out hb);replace HB:=Aside0.mk (below_step HB.out hb);replace HL:=Aside0.mk (And.intro HL.out (below_size hb));clear hb;obtain ⟨A15,c15,e15⟩:=Kd.S_slice HZ15.out;subst e15;clear hcz29 hfz30;have hcz32 : w31.cell? ⟨gb1,0,none⟩ = some (.slice A0_0 l0_0.length c0_0):=(blk_cell BK1.out 0).trans rfl;have hfz33:=blk_frozen BK1.out 0) | ((with_reducible refine gate_dst (N:=6) rfl ?_);refine box_event ?hg (N:=6) ?hd (cs:=#[.slice none 0 0]) (t:=59) ?hr ?_;(case hd=>rfl);(case hg=>rfl);(case hr=>first | (go_simp;done) | (go_simp;rfl));intro gb16 hg w34 hbox hb;replace HZ8:=Aside0.mk (Kd.S_below HZ8.out hb);replace HZ11:=Aside0.mk (Kd.R_below HZ11.out hb);replace HZ15:=Aside0.mk (Kd.S_below HZ15.out hb);replace BK1:=Aside0.mk (blk_below BK1.out hb);have GBK16:=Aside0.mk (show gb16 = w31.heap.size ∧ gb16 < w34.heap.size from ⟨hg,blk_lt hbox⟩);have GW16:=Aside0.mk (show w.heap.size ≤ gb16 by have q_:=below_size HB.out;rw [hg];exact q_);have BK16:=Aside0.mk hbox;replace HB:=Aside0.mk (below_step HB.out hb);replace HL:=Aside0.mk (And.intro HL.out (below_size hb));clear hb hbox hg;clear hcz32 hfz33;have hcz35 : w34.cell? ⟨gb1,0,none⟩ = some (.slice A0_0 l0_0.length c0_0):=(blk_cell BK1.out 0).trans rfl;have hfz36:=blk_frozen BK1.out 0;have hcz37 : w34.cell? ⟨gb16,0,none⟩ = some (.slice none 0 0):=(blk_cell BK16.out 0).trans rfl;have hfz38:=blk_frozen BK16.out 0) | ((with_reducible refine gate_store (t:=59) (p:=6) rfl ?_);refine store_event (t:=59) (p:=6) (v:=?vo40_) (w1:=(w34.setCell ⟨gb16,0,none⟩ (.slice A15 t13.length c15))) ?hg ?ho ?hn ?hr ?_;(case ho=>rfl);(case hg=>rfl);(case hn=>rfl);(case hr=>first | (go_simp;done) | (go_simp;rfl));intro w39 hw;have hk : Kept w34 w39 (fun k_=>k_ = gb16):=(by rw [hw];exact (Kept.setCell (Kept.refl w34 (fun k_=>k_ = gb16)) (p:=⟨gb16,0,none⟩) (.inl rfl) (.slice A15 t13.length c15)));have g0_:=GBK16.out;replace HZ8:=Aside0.mk (Kd.S_kept HZ8.out hk (fun k_ (hk_ : (w22.heap.size ≤ k_ ∧ k_ < w25.heap.size)) (hs_ : k_ = gb16)=>by have q_:=HL.out;omega));replace HZ11:=Aside0.mk (Kd.R_kept HZ11.out hk (fun k_ (hk_ : (w25.heap.size ≤ k_ ∧ k_ < w28.heap.size)) (hs_ : k_ = gb16)=>by have q_:=HL.out;omega));replace HZ15:=Aside0.mk (Kd.S_kept HZ15.out hk (fun k_ (hk_ : (w28.heap.size ≤ k_ ∧ k_ < w31.heap.size)) (hs_ : k_ = gb16)=>by have q_:=HL.out;omega));replace BK1:=Aside0.mk (blk_kept BK1.out hk (fun hs_=>by have q_:=HL.out;have g_:=GBK1.out;have hs2_ : gb1 = gb16:=hs_;omega));clear g0_;replace BK16:=Aside0.mk (show w39.heap[gb16]? = some (.cells #[.slice A15 t13.length c15] 59 (0,0)) from (by rw [hw];exact (blk_put (cs:=#[.slice none 0 0]) (cs':=#[.slice A15 t13.length c15]) BK16.out 0 _ rfl)));replace HB:=Aside0.mk (show Below w.heap.size w w39 from (by rw [hw];exact (below_set HB.out GW16.out)));replace HL:=Aside0.mk (And.intro HL.out hk.1);clear hk hw;clear hcz35 hfz36 hcz37 hfz38;have hcz41 : w39.cell? ⟨gb1,0,none⟩ = some (.slice A0_0 l0_0.length c0_0):=(blk_cell BK1.out 0).trans rfl;have hfz42:=blk_frozen BK1.out 0;have hcz43 : w39.cell? ⟨gb16,0,none⟩ = some (.slice A15 t13.length c15):=(blk_cell BK16.out 0).trans rfl;have hfz44:=blk_frozen BK16.out 0) | ((with_reducible refine gate_callee (f:=33) rfl ?_);refine goesL_ (some 36) rfl rfl Try.func33 (by kernel_rfl) rfl #[.agg #[.slice A0_0 l0_0.length c0_0]] rfl (by (try simp only [List.map_toArray,List.map_cons,List.map_nil]);first | done | rfl | (simp only [List.length_drop,List.length_take];rfl)) ?_;(with_reducible refine (laws_toFlash.calls k _ _ l0_0 t18 _ ?side1 ?side2 Fa7.out).mono ?_);(case side1=>exact Kd.C_below HR0_0.out HB.out);(case side2=>exact HC0_0.out);rintro e w45 ⟨v19,rfl,ho0,hb⟩;refine ⟨_,rfl,?_⟩;have HZ19:=Aside0.mk (Kd.S_lower (Kd.S_mono (ok':=fun k_=>(w39.heap.size ≤ k_ ∧ k_ < w45.heap.size)) (Kd.S_bound ho0) (fun k_ hk_=>⟨hk_.2.1,hk_.2.2.1⟩)) (below_size HB.out));clear ho0;replace HZ8:=Aside0.mk (Kd.S_below HZ8.out hb);replace HZ11:=Aside0.mk (Kd.R_below HZ11.out hb);replace HZ15:=Aside0.mk (Kd.S_below HZ15.out hb);replace BK1:=Aside0.mk (blk_below BK1.out hb);replace BK16:=Aside0.mk (blk_below BK16.out hb);replace HB:=Aside0.mk (below_step HB.out hb);replace HL:=Aside0.mk (And.intro HL.out (below_size hb));clear hb;obtain ⟨A19,c19,e19⟩:=Kd.S_slice HZ19.out;subst e19;clear hcz41 hfz42 hcz43 hfz44;have hcz46 : w45.cell? ⟨gb1,0,none⟩ = some (.slice A0_0 l0_0.length c0_0):=(blk_cell BK1.out 0).trans rfl;have hfz47:=blk_frozen BK1.out 0;have hcz48 : w45.cell? ⟨gb16,0,none⟩ = some (.slice A15 t13.length c15):=(blk_cell BK16.out 0).trans rfl;have hfz49:=blk_frozen BK16.out 0) | ((with_reducible refine gate_dst (N:=8) rfl ?_);refine box_event ?hg (N:=8) ?hd (cs:=#[.slice none 0 0]) (t:=59) ?hr ?_;(case hd=>rfl);(case hg=>rfl);(case hr=>first | (go_simp;done) | (go_simp;rfl));intro gb20 hg w50 hbox hb;replace HZ8:=Aside0.mk (Kd.S_below HZ8.out hb);replace HZ11:=Aside0.mk (Kd.R_below HZ11.out hb);replace HZ15:=Aside0.mk (Kd.S_below HZ15.out hb);replace HZ19:=Aside0.mk (Kd.S_below HZ19.out hb);replace BK1:=Aside0.mk (blk_below BK1.out hb);replace BK16:=Aside0.mk (blk_below BK16.out hb);have GBK20:=Aside0.mk (show gb20 = w45.heap.size ∧ gb20 < w50.heap.size from ⟨hg,blk_lt hbox⟩);have GW20:=Aside0.mk (show w.heap.size ≤ gb20 by have q_:=below_size HB.out;rw [hg];exact q_);have BK20:=Aside0.mk hbox;replace HB:=Aside0.mk (below_step HB.out hb);replace HL:=Aside0.mk (And.intro HL.out (below_size hb));clear hb hbox hg;clear hcz46 hfz47 hcz48 hfz49;have hcz51 : w50.cell? ⟨gb1,0,none⟩ = some (.slice A0_0 l0_0.length c0_0):=(blk_cell BK1.out 0).trans rfl;have hfz52:=blk_frozen BK1.out 0;have hcz53 : w50.cell? ⟨gb16,0,none⟩ = some (.slice A15 t13.length c15):=(blk_cell BK16.out 0).trans rfl;have hfz54:=blk_frozen BK16.out 0;have hcz55 : w50.cell? ⟨gb20,0,none⟩ = some (.slice none 0 0):=(blk_cell BK20.out 0).trans rfl;have hfz56:=blk_frozen BK20.out 0) | ((with_reducible refine gate_store (t:=59) (p:=8) rfl ?_);refine store_event (t:=59) (p:=8) (v:=?vo58_) (w1:=(w50.setCell ⟨gb20,0,none⟩ (.slice A19 t18.length c19))) ?hg ?ho ?hn ?hr ?_;(case ho=>rfl);(case hg=>rfl);(case hn=>rfl);(case hr=>first | (go_simp;done) | (go_simp;rfl));intro w57 hw;have hk : Kept w50 w57 (fun k_=>k_ = gb20):=(by rw [hw];exact (Kept.setCell (Kept.refl w50 (fun k_=>k_ = gb20)) (p:=⟨gb20,0,none⟩) (.inl rfl) (.slice A19 t18.length c19)));have g0_:=GBK20.out;replace HZ8:=Aside0.mk (Kd.S_kept HZ8.out hk (fun k_ (hk_ : (w22.heap.size ≤ k_ ∧ k_ < w25.heap.size)) (hs_ : k_ = gb20)=>by have q_:=HL.out;omega));replace HZ11:=Aside0.mk (Kd.R_kept HZ11.out hk (fun k_ (hk_ : (w25.heap.size ≤ k_ ∧ k_ < w28.heap.size)) (hs_ : k_ = gb20)=>by have q_:=HL.out;omega));replace HZ15:=Aside0.mk (Kd.S_kept HZ15.out hk (fun k_ (hk_ : (w28.heap.size ≤ k_ ∧ k_ < w31.heap.size)) (hs_ : k_ = gb20)=>by have q_:=HL.out;omega));replace HZ19:=Aside0.mk (Kd.S_kept HZ19.out hk (fun k_ (hk_ : (w39.heap.size ≤ k_ ∧ k_ < w45.heap.size)) (hs_ : k_ = gb20)=>by have q_:=HL.out;omega));replace BK1:=Aside0.mk (blk_kept BK1.out hk (fun hs_=>by have q_:=HL.out;have g_:=GBK1.out;have hs2_ : gb1 = gb20:=hs_;omega));replace BK16:=Aside0.mk (blk_kept BK16.out hk (fun hs_=>by have q_:=HL.out;have g_:=GBK16.out;have hs2_ : gb16 = gb20:=hs_;omega));clear g0_;replace BK20:=Aside0.mk (show w57.heap[gb20]? = some (.cells #[.slice A19 t18.length c19] 59 (0,0)) from (by rw [hw];exact (blk_put (cs:=#[.slice none 0 0]) (cs':=#[.slice A19 t18.length c19]) BK20.out 0 _ rfl)));replace HB:=Aside0.mk (show Below w.heap.size w w57 from (by rw [hw];exact (below_set HB.out GW20.out)));replace HL:=Aside0.mk (And.intro HL.out hk.1);clear hk hw;clear hcz51 hfz52 hcz53 hfz54 hcz55 hfz56;have hcz59 : w57.cell? ⟨gb1,0,none⟩ = some (.slice A0_0 l0_0.length c0_0):=(blk_cell BK1.out 0).trans rfl;have hfz60:=blk_frozen BK1.out 0;have hcz61 : w57.cell? ⟨gb16,0,none⟩ = some (.slice A15 t13.length c15):=(blk_cell BK16.out 0).trans rfl;have hfz62:=blk_frozen BK16.out 0;have hcz63 : w57.cell? ⟨gb20,0,none⟩ = some (.slice A19 t18.length c19):=(blk_cell BK20.out 0).trans rfl;have hfz64:=blk_frozen BK20.out 0) | ((with_reducible refine gate_callee (f:=51) rfl ?_);refine goesL_ (some 38) rfl rfl Try.func51 (by kernel_rfl) rfl #[.slice A1 l1.length c1] rfl (by (try simp only [List.map_toArray,List.map_cons,List.map_nil]);first | done | rfl | (simp only [List.length_drop,List.length_take];rfl)) ?_;(with_reducible refine (laws_toStepS.calls k _ _ l1 t22 _ ?side1 ?side2 Fa8.out).mono ?_);(case side1=>exact Kd.C_below HR1.out HB.out);(case side2=>exact HC1.out);rintro e w65 ⟨v23,rfl,ho0,hb⟩;refine ⟨_,rfl,?_⟩;have HZ23:=Aside0.mk (Kd.R_lower (Kd.R_mono (ok':=fun k_=>(w57.heap.size ≤ k_ ∧ k_ < w65.heap.size)) (Kd.R_bound ho0) (fun k_ hk_=>⟨hk_.2.1,hk_.2.2.1⟩)) (below_size HB.out));clear ho0;replace HZ8:=Aside0.mk (Kd.S_below HZ8.out hb);replace HZ11:=Aside0.mk (Kd.R_below HZ11.out hb);replace HZ15:=Aside0.mk (Kd.S_below HZ15.out hb);replace HZ19:=Aside0.mk (Kd.S_below HZ19.out hb);replace BK1:=Aside0.mk (blk_below BK1.out hb);replace BK16:=Aside0.mk (blk_below BK16.out hb);replace BK20:=Aside0.mk (blk_below BK20.out hb);replace HB:=Aside0.mk (below_step HB.out hb);replace HL:=Aside0.mk (And.intro HL.out (below_size hb));clear hb;obtain ⟨A23,c23,e23⟩:=Kd.R_slice HZ23.out;subst e23;clear hcz59 hfz60 hcz61 hfz62 hcz63 hfz64;have hcz66 : w65.cell? ⟨gb1,0,none⟩ = some (.slice A0_0 l0_0.length c0_0):=(blk_cell BK1.out 0).trans rfl;have hfz67:=blk_frozen BK1.out 0;have hcz68 : w65.cell? ⟨gb16,0,none⟩ = some (.slice A15 t13.length c15):=(blk_cell BK16.out 0).trans rfl;have hfz69:=blk_frozen BK16.out 0;have hcz70 : w65.cell? ⟨gb20,0,none⟩ = some (.slice A19 t18.length c19):=(blk_cell BK20.out 0).trans rfl;have hfz71:=blk_frozen BK20.out 0) | ((with_reducible refine gate_callee (f:=52) rfl ?_);refine goesL_ (some 42) rfl rfl Try.func52 (by kernel_rfl) rfl #[.agg #[.slice A19 t18.length c19],.slice A23 t22.length c23] rfl (by (try simp only [List.map_toArray,List.map_cons,List.map_nil]);first | done | rfl | (simp only [List.length_drop,List.length_take];rfl)) ?_;(with_reducible refine (impl_DoSteps.calls k _ _ t18 _ _ t22 t25 t26 _ ?side1 ?side2 ?side3 ?side4 Fa9.out).mono ?_);(case side1=>exact (Kd.S_reads' HZ19.out).2.2);(case side2=>exact (Kd.S_reads' HZ19.out).2.1);(case side3=>exact (Kd.R_reads' HZ23.out).2.2);(case side4=>exact (Kd.R_reads' HZ23.out).2.1);rintro e w72 ⟨v27,rfl,ho0,hb⟩;refine ⟨_,rfl,?_⟩;have HZ27:=Aside0.mk (Kd.S_lower (Kd.S_mono (ok':=fun k_=>(w65.heap.size ≤ k_ ∧ k_ < w72.heap.size)) (Kd.S_bound ho0) (fun k_ hk_=>⟨hk_.2.1,hk_.2.2.1⟩)) (below_size HB.out));clear ho0;replace HZ8:=Aside0.mk (Kd.S_below HZ8.out hb);replace HZ11:=Aside0.mk (Kd.R_below HZ11.out hb);replace HZ15:=Aside0.mk (Kd.S_below HZ15.out hb);replace HZ19:=Aside0.mk (Kd.S_below HZ19.out hb);replace HZ23:=Aside0.mk (Kd.R_below HZ23.out hb);replace BK1:=Aside0.mk (blk_below BK1.out hb);replace BK16:=Aside0.mk (blk_below BK16.out hb);replace BK20:=Aside0.mk (blk_below BK20.out hb);replace HB:=Aside0.mk (below_step HB.out hb);replace HL:=Aside0.mk (And.intro HL.out (below_size hb));clear hb;obtain ⟨A27,c27,e27⟩:=Kd.S_slice HZ27.out;subst e27;clear hcz66 hfz67 hcz68 hfz69 hcz70 hfz71;have hcz73 : w72.cell? ⟨gb1,0,none⟩ = some (.slice A0_0 l0_0.length c0_0):=(blk_cell BK1.out 0).trans rfl;have hfz74:=blk_frozen BK1.out 0;have hcz75 : w72.cell? ⟨gb16,0,none⟩ = some (.slice A15 t13.length c15):=(blk_cell BK16.out 0).trans rfl;have hfz76:=blk_frozen BK16.out 0;have hcz77 : w72.cell? ⟨gb20,0,none⟩ = some (.slice A19 t18.length c19):=(blk_cell BK20.out 0).trans rfl;have hfz78:=blk_frozen BK20.out 0) | ((with_reducible refine gate_dst (N:=10) rfl ?_);refine box_event ?hg (N:=10) ?hd (cs:=#[.slice none 0 0]) (t:=59) ?hr ?_;(case hd=>rfl);(case hg=>rfl);(case hr=>first | (go_simp;done) | (go_simp;rfl));intro gb28 hg w79 hbox hb;replace HZ8:=Aside0.mk (Kd.S_below HZ8.out hb);replace HZ11:=Aside0.mk (Kd.R_below HZ11.out hb);replace HZ15:=Aside0.mk (Kd.S_below HZ15.out hb);replace HZ19:=Aside0.mk (Kd.S_below HZ19.out hb);replace HZ23:=Aside0.mk (Kd.R_below HZ23.out hb);replace HZ27:=Aside0.mk (Kd.S_below HZ27.out hb);replace BK1:=Aside0.mk (blk_below BK1.out hb);replace BK16:=Aside0.mk (blk_below BK16.out hb);replace BK20:=Aside0.mk (blk_below BK20.out hb);have GBK28:=Aside0.mk (show gb28 = w72.heap.size ∧ gb28 < w79.heap.size from ⟨hg,blk_lt hbox⟩);have GW28:=Aside0.mk (show w.heap.size ≤ gb28 by have q_:=below_size HB.out;rw [hg];exact q_);have BK28:=Aside0.mk hbox;replace HB:=Aside0.mk (below_step HB.out hb);replace HL:=Aside0.mk (And.intro HL.out (below_size hb));clear hb hbox hg;clear hcz73 hfz74 hcz75 hfz76 hcz77 hfz78;have hcz80 : w79.cell? ⟨gb1,0,none⟩ = some (.slice A0_0 l0_0.length c0_0):=(blk_cell BK1.out 0).trans rfl;have hfz81:=blk_frozen BK1.out 0;have hcz82 : w79.cell? ⟨gb16,0,none⟩ = some (.slice A15 t13.length c15):=(blk_cell BK16.out 0).trans rfl;have hfz83:=blk_frozen BK16.out 0;have hcz84 : w79.cell? ⟨gb20,0,none⟩ = some (.slice A19 t18.length c19):=(blk_cell BK20.out 0).trans rfl;have hfz85:=blk_frozen BK20.out 0;have hcz86 : w79.cell? ⟨gb28,0,none⟩ = some (.slice none 0 0):=(blk_cell BK28.out 0).trans rfl;have hfz87:=blk_frozen BK28.out 0) | ((with_reducible refine gate_store (t:=59) (p:=10) rfl ?_);refine store_event (t:=59) (p:=10) (v:=?vo89_) (w1:=(w79.setCell ⟨gb28,0,none⟩ (.slice A27 t25.length c27))) ?hg ?ho ?hn ?hr ?_;(case ho=>rfl);(case hg=>rfl);(case hn=>rfl);(case hr=>first | (go_simp;done) | (go_simp;rfl));intro w88 hw;have hk : Kept w79 w88 (fun k_=>k_ = gb28):=(by rw [hw];exact (Kept.setCell (Kept.refl w79 (fun k_=>k_ = gb28)) (p:=⟨gb28,0,none⟩) (.inl rfl) (.slice A27 t25.length c27)));have g0_:=GBK28.out;replace HZ8:=Aside0.mk (Kd.S_kept HZ8.out hk (fun k_ (hk_ : (w22.heap.size ≤ k_ ∧ k_ < w25.heap.size)) (hs_ : k_ = gb28)=>by have q_:=HL.out;omega));replace HZ11:=Aside0.mk (Kd.R_kept HZ11.out hk (fun k_ (hk_ : (w25.heap.size ≤ k_ ∧ k_ < w28.heap.size)) (hs_ : k_ = gb28)=>by have q_:=HL.out;omega));replace HZ15:=Aside0.mk (Kd.S_kept HZ15.out hk (fun k_ (hk_ : (w28.heap.size ≤ k_ ∧ k_ < w31.heap.size)) (hs_ : k_ = gb28)=>by have q_:=HL.out;omega));replace HZ19:=Aside0.mk (Kd.S_kept HZ19.out hk (fun k_ (hk_ : (w39.heap.size ≤ k_ ∧ k_ < w45.heap.size)) (hs_ : k_ = gb28)=>by have q_:=HL.out;omega));replace HZ23:=Aside0.mk (Kd.R_kept HZ23.out hk (fun k_ (hk_ : (w57.heap.size ≤ k_ ∧ k_ < w65.heap.size)) (hs_ : k_ = gb28)=>by have q_:=HL.out;omega));replace HZ27:=Aside0.mk (Kd.S_kept HZ27.out hk (fun k_ (hk_ : (w65.heap.size ≤ k_ ∧ k_ < w72.heap.size)) (hs_ : k_ = gb28)=>by have q_:=HL.out;omega));replace BK1:=Aside0.mk (blk_kept BK1.out hk (fun hs_=>by have q_:=HL.out;have g_:=GBK1.out;have hs2_ : gb1 = gb28:=hs_;omega));replace BK16:=Aside0.mk (blk_kept BK16.out hk (fun hs_=>by have q_:=HL.out;have g_:=GBK16.out;have hs2_ : gb16 = gb28:=hs_;omega));replace BK20:=Aside0.mk (blk_kept BK20.out hk (fun hs_=>by have q_:=HL.out;have g_:=GBK20.out;have hs2_ : gb20 = gb28:=hs_;omega));clear g0_;replace BK28:=Aside0.mk (show w88.heap[gb28]? = some (.cells #[.slice A27 t25.length c27] 59 (0,0)) from (by rw [hw];exact (blk_put (cs:=#[.slice none 0 0]) (cs':=#[.slice A27 t25.length c27]) BK28.out 0 _ rfl)));replace HB:=Aside0.mk (show Below w.heap.size w w88 from (by rw [hw];exact (below_set HB.out GW28.out)));replace HL:=Aside0.mk (And.intro HL.out hk.1);clear hk hw;clear hcz80 hfz81 hcz82 hfz83 hcz84 hfz85 hcz86 hfz87;have hcz90 : w88.cell? ⟨gb1,0,none⟩ = some (.slice A0_0 l0_0.length c0_0):=(blk_cell BK1.out 0).trans rfl;have hfz91:=blk_frozen BK1.out 0;have hcz92 : w88.cell? ⟨gb16,0,none⟩ = some (.slice A15 t13.length c15):=(blk_cell BK16.out 0).trans rfl;have hfz93:=blk_frozen BK16.out 0;have hcz94 : w88.cell? ⟨gb20,0,none⟩ = some (.slice A19 t18.length c19):=(blk_cell BK20.out 0).trans rfl;have hfz95:=blk_frozen BK20.out 0;have hcz96 : w88.cell? ⟨gb28,0,none⟩ = some (.slice A27 t25.length c27):=(blk_cell BK28.out 0).trans rfl;have hfz97:=blk_frozen BK28.out 0) | ((with_reducible refine gate_callee (f:=35) rfl ?_);refine goesL_ (some 47) rfl rfl Try.func35 (by kernel_rfl) rfl #[.agg #[.slice A27 t25.length c27],.agg #[.slice A15 t13.length c15]] rfl (by (try simp only [List.map_toArray,List.map_cons,List.map_nil]);first | done | rfl | (simp only [List.length_drop,List.length_take];rfl)) ?_;(with_reducible refine (laws_eqFlash.calls k _ _ t25 _ _ t13 true _ ?side1 ?side2 ?side3 ?side4 Fa10.out).mono ?_);(case side1=>exact (Kd.S_reads' HZ27.out).2.2);(case side2=>exact (Kd.S_reads' HZ27.out).2.1);(case side3=>exact (Kd.S_reads' HZ15.out).2.2);(case side4=>exact (Kd.S_reads' HZ15.out).2.1);rintro e w98 ⟨rfl,hb⟩;refine ⟨_,rfl,?_⟩;replace HZ8:=Aside0.mk (Kd.S_below HZ8.out hb);replace HZ11:=Aside0.mk (Kd.R_below HZ11.out hb);replace HZ15:=Aside0.mk (Kd.S_below HZ15.out hb);replace HZ19:=Aside0.mk (Kd.S_below HZ19.out hb);replace HZ23:=Aside0.mk (Kd.R_below HZ23.out hb);replace HZ27:=Aside0.mk (Kd.S_below HZ27.out hb);replace BK1:=Aside0.mk (blk_below BK1.out hb);replace BK16:=Aside0.mk (blk_below BK16.out hb);replace BK20:=Aside0.mk (blk_below BK20.out hb);replace BK28:=Aside0.mk (blk_below BK28.out hb);replace HB:=Aside0.mk (below_step HB.out hb);replace HL:=Aside0.mk (And.intro HL.out (below_size hb));clear hb;clear hcz90 hfz91 hcz92 hfz93 hcz94 hfz95 hcz96 hfz97;have hcz99 : w98.cell? ⟨gb1,0,none⟩ = some (.slice A0_0 l0_0.length c0_0):=(blk_cell BK1.out 0).trans rfl;have hfz100:=blk_frozen BK1.out 0;have hcz101 : w98.cell? ⟨gb16,0,none⟩ = some (.slice A15 t13.length c15):=(blk_cell BK16.out 0).trans rfl;have hfz102:=blk_frozen BK16.out 0;have hcz103 : w98.cell? ⟨gb20,0,none⟩ = some (.slice A19 t18.length c19):=(blk_cell BK20.out 0).trans rfl;have hfz104:=blk_frozen BK20.out 0;have hcz105 : w98.cell? ⟨gb28,0,none⟩ = some (.slice A27 t25.length c27):=(blk_cell BK28.out 0).trans rfl;have hfz106:=blk_frozen BK28.out 0))
 replace HZ8:=Aside0.mk (Kd.S_drew HZ8.out);replace HZ11:=Aside0.mk (Kd.R_drew HZ11.out);replace HZ15:=Aside0.mk (Kd.S_drew HZ15.out);replace HZ19:=Aside0.mk (Kd.S_drew HZ19.out);replace HZ23:=Aside0.mk (Kd.R_drew HZ23.out);replace HZ27:=Aside0.mk (Kd.S_drew HZ27.out);replace BK1:=Aside0.mk (blk_drew BK1.out);replace BK16:=Aside0.mk (blk_drew BK16.out);replace BK20:=Aside0.mk (blk_drew BK20.out);replace BK28:=Aside0.mk (blk_drew BK28.out);replace HB:=Aside0.mk (below_drew1 HB.out);replace HL:=Aside0.mk (And.intro HL.out (show w98.heap.size ≤ w98.drew.heap.size from Nat.le_refl _));clear hcz99 hfz100 hcz101 hfz102 hcz103 hfz104 hcz105 hfz106;refine start_ (n:=5) (S:=fun w'=>w'.cell? ⟨gb20,0,none⟩ = some (.slice A19 t18.length c19) ∧ w'.cell? ⟨gb1,0,none⟩ = some (.slice A0_0 l0_0.length c0_0)) (ds:=[]) #[false,false,false,false,false] (by kernel_rfl) rfl rfl ⟨(blk_cell BK20.out 0).trans rfl,(blk_cell BK1.out 0).trans rfl⟩ (fun hHeld=>?_);generalize w98.drew = w107 at HZ8 HZ11 HZ15 HZ19 HZ23 HZ27 BK1 BK16 BK20 BK28 HB HL hHeld ⊢;refine take_ (i:=0) (N:=some 54) (v:=?_) (a':=?_) #[true,false,false,false,false] rfl rfl (by kernel_rfl) (fun _ _ _ h=>h) (Or.inl ⟨by rfl,?_⟩) hHeld ?_ ?_;rotate_left
 ·rintro w' ⟨s0,s1⟩;go_simp;with_reducible rfl
 rotate_left
 ·simp only [Act.put,List.setIfInBounds_toArray,List.set_cons_zero,List.set_cons_succ,i64_w,i32_w];rfl
 refine take_ (i:=1) (N:=some 55) (v:=?_) (a':=?_) #[true,true,false,false,false] rfl rfl (by kernel_rfl) (fun _ _ _ h=>h) (Or.inl ⟨by rfl,?_⟩) hHeld ?_ ?_;rotate_left
 ·rintro w' ⟨s0,s1⟩;go_simp;with_reducible rfl
 rotate_left
 ·simp only [Act.put,List.setIfInBounds_toArray,List.set_cons_zero,List.set_cons_succ,i64_w,i32_w];rfl
 refine one_ (i:=2) (N:=some 56) #[true,true,true,false,false] rfl rfl (by kernel_rfl) (by decide) (fun K hK=>?_);refine goes_ Try.func33 (by kernel_rfl) rfl #[.agg #[.slice A0_0 l0_0.length c0_0]] (by rfl) rfl rfl (by (try simp only [List.map_toArray,List.map_cons,List.map_nil]);first | done | rfl | (simp only [List.length_drop,List.length_take];rfl)) ?_
 (with_reducible refine (laws_toFlash.calls k _ _ l0_0 t32 _ ?side1 ?side2 Fa13.out).mono ?_)
 (case side1=>exact Kd.C_below HR0_0.out HB.out)
 (case side2=>exact HC0_0.out)
 rintro e w108 ⟨v33,rfl,ho0,hb⟩;refine ⟨_,rfl,?_⟩;have HZ33:=Aside0.mk (Kd.S_lower (Kd.S_mono (ok':=fun k_=>(w107.heap.size ≤ k_ ∧ k_ < w108.heap.size)) (Kd.S_bound ho0) (fun k_ hk_=>⟨hk_.2.1,hk_.2.2.1⟩)) (below_size HB.out));clear ho0;replace HZ8:=Aside0.mk (Kd.S_below HZ8.out hb);replace HZ11:=Aside0.mk (Kd.R_below HZ11.out hb);replace HZ15:=Aside0.mk (Kd.S_below HZ15.out hb);replace HZ19:=Aside0.mk (Kd.S_below HZ19.out hb);replace HZ23:=Aside0.mk (Kd.R_below HZ23.out hb);replace HZ27:=Aside0.mk (Kd.S_below HZ27.out hb);replace BK1:=Aside0.mk (blk_below BK1.out hb);replace BK16:=Aside0.mk (blk_below BK16.out hb);replace BK20:=Aside0.mk (blk_below BK20.out hb);replace BK28:=Aside0.mk (blk_below BK28.out hb);replace HB:=Aside0.mk (below_step HB.out hb);replace HL:=Aside0.mk (And.intro HL.out (below_size hb));clear hb;obtain ⟨A33,c33,e33⟩:=Kd.S_slice HZ33.out;subst e33;refine hK.out _ _ ⟨(blk_cell BK20.out 0).trans rfl,(blk_cell BK1.out 0).trans rfl⟩ (fun hHeld=>?_);clear hK K;refine norm_ (a':=?_) ?_ ?_;rotate_left
 ·show Act.put _ (some 56) _ = _;simp only [Act.put,List.setIfInBounds_toArray,List.set_cons_zero,List.set_cons_succ,i64_w,i32_w];rfl
 refine one_ (i:=3) (N:=some 57) #[true,true,true,true,false] rfl rfl (by kernel_rfl) (by decide) (fun K hK=>?_);refine goes_ Try.func35 (by kernel_rfl) rfl #[.agg #[.slice A19 t18.length c19],.agg #[.slice A33 t32.length c33]] (by rfl) rfl rfl (by (try simp only [List.map_toArray,List.map_cons,List.map_nil]);first | done | rfl | (simp only [List.length_drop,List.length_take];rfl)) ?_
 (with_reducible refine (laws_eqFlash.calls k _ _ t18 _ _ t32 true _ ?side1 ?side2 ?side3 ?side4 Fa14.out).mono ?_)
 (case side1=>exact (Kd.S_reads' HZ19.out).2.2)
 (case side2=>exact (Kd.S_reads' HZ19.out).2.1)
 (case side3=>exact (Kd.S_reads' HZ33.out).2.2)
 (case side4=>exact (Kd.S_reads' HZ33.out).2.1)
 rintro e w109 ⟨rfl,hb⟩;refine ⟨_,rfl,?_⟩;replace HZ8:=Aside0.mk (Kd.S_below HZ8.out hb);replace HZ11:=Aside0.mk (Kd.R_below HZ11.out hb);replace HZ15:=Aside0.mk (Kd.S_below HZ15.out hb);replace HZ19:=Aside0.mk (Kd.S_below HZ19.out hb);replace HZ23:=Aside0.mk (Kd.R_below HZ23.out hb);replace HZ27:=Aside0.mk (Kd.S_below HZ27.out hb);replace HZ33:=Aside0.mk (Kd.S_below HZ33.out hb);replace BK1:=Aside0.mk (blk_below BK1.out hb);replace BK16:=Aside0.mk (blk_below BK16.out hb);replace BK20:=Aside0.mk (blk_below BK20.out hb);replace BK28:=Aside0.mk (blk_below BK28.out hb);replace HB:=Aside0.mk (below_step HB.out hb);replace HL:=Aside0.mk (And.intro HL.out (below_size hb));clear hb;refine hK.out _ _ ⟨(blk_cell BK20.out 0).trans rfl,(blk_cell BK1.out 0).trans rfl⟩ (fun hHeld=>?_);clear hK K;refine norm_ (a':=?_) ?_ ?_;rotate_left
 ·show Act.put _ (some 57) _ = _;simp only [Act.put,List.setIfInBounds_toArray,List.set_cons_zero,List.set_cons_succ,i64_w,i32_w];rfl
 refine pure_ (i:=4) (N:=some 58) (v:=?_) (a':=?_) #[true,true,true,true,true] rfl rfl (by kernel_rfl) (fun _ _ _ h=>h) (Or.inl ⟨by rfl,?_⟩) ?_ ?_;rotate_left
 ·intro w';go_simp;with_reducible rfl
 rotate_left
 ·simp only [Act.put,List.setIfInBounds_toArray,List.set_cons_zero,List.set_cons_succ,i64_w,i32_w];rfl
 refine done_ (by kernel_rfl) ?_;have hcz110 : w109.cell? ⟨gb1,0,none⟩ = some (.slice A0_0 l0_0.length c0_0):=(blk_cell BK1.out 0).trans rfl;have hfz111:=blk_frozen BK1.out 0;have hcz112 : w109.cell? ⟨gb16,0,none⟩ = some (.slice A15 t13.length c15):=(blk_cell BK16.out 0).trans rfl;have hfz113:=blk_frozen BK16.out 0;have hcz114 : w109.cell? ⟨gb20,0,none⟩ = some (.slice A19 t18.length c19):=(blk_cell BK20.out 0).trans rfl;have hfz115:=blk_frozen BK20.out 0;have hcz116 : w109.cell? ⟨gb28,0,none⟩ = some (.slice A27 t25.length c27):=(blk_cell BK28.out 0).trans rfl;have hfz117:=blk_frozen BK28.out 0;go_wp2_with (first | ((with_reducible refine gate_callee (f:=51) rfl ?_);refine goesL_ (some 61) rfl rfl Try.func51 (by kernel_rfl) rfl #[.slice A1 l1.length c1] rfl (by (try simp only [List.map_toArray,List.map_cons,List.map_nil]);first | done | rfl | (simp only [List.length_drop,List.length_take];rfl)) ?_;(with_reducible refine (laws_toStepS.calls k _ _ l1 t37 _ ?side1 ?side2 Fa16.out).mono ?_);(case side1=>exact Kd.C_below HR1.out HB.out);(case side2=>exact HC1.out);rintro e w118 ⟨v38,rfl,ho0,hb⟩;refine ⟨_,rfl,?_⟩;have HZ38:=Aside0.mk (Kd.R_lower (Kd.R_mono (ok':=fun k_=>(w109.heap.size ≤ k_ ∧ k_ < w118.heap.size)) (Kd.R_bound ho0) (fun k_ hk_=>⟨hk_.2.1,hk_.2.2.1⟩)) (below_size HB.out));clear ho0;replace HZ8:=Aside0.mk (Kd.S_below HZ8.out hb);replace HZ11:=Aside0.mk (Kd.R_below HZ11.out hb);replace HZ15:=Aside0.mk (Kd.S_below HZ15.out hb);replace HZ19:=Aside0.mk (Kd.S_below HZ19.out hb);replace HZ23:=Aside0.mk (Kd.R_below HZ23.out hb);replace HZ27:=Aside0.mk (Kd.S_below HZ27.out hb);replace HZ33:=Aside0.mk (Kd.S_below HZ33.out hb);replace BK1:=Aside0.mk (blk_below BK1.out hb);replace BK16:=Aside0.mk (blk_below BK16.out hb);replace BK20:=Aside0.mk (blk_below BK20.out hb);replace BK28:=Aside0.mk (blk_below BK28.out hb);replace HB:=Aside0.mk (below_step HB.out hb);replace HL:=Aside0.mk (And.intro HL.out (below_size hb));clear hb;obtain ⟨A38,c38,e38⟩:=Kd.R_slice HZ38.out;subst e38;clear hcz110 hfz111 hcz112 hfz113 hcz114 hfz115 hcz116 hfz117;have hcz119 : w118.cell? ⟨gb1,0,none⟩ = some (.slice A0_0 l0_0.length c0_0):=(blk_cell BK1.out 0).trans rfl;have hfz120:=blk_frozen BK1.out 0;have hcz121 : w118.cell? ⟨gb16,0,none⟩ = some (.slice A15 t13.length c15):=(blk_cell BK16.out 0).trans rfl;have hfz122:=blk_frozen BK16.out 0;have hcz123 : w118.cell? ⟨gb20,0,none⟩ = some (.slice A19 t18.length c19):=(blk_cell BK20.out 0).trans rfl;have hfz124:=blk_frozen BK20.out 0;have hcz125 : w118.cell? ⟨gb28,0,none⟩ = some (.slice A27 t25.length c27):=(blk_cell BK28.out 0).trans rfl;have hfz126:=blk_frozen BK28.out 0) | ((with_reducible refine gate_callee (f:=53) rfl ?_);refine goesL_ (some 62) rfl rfl Try.func53 (by kernel_rfl) rfl #[.slice A23 t22.length c23,.slice A38 t37.length c38] rfl (by (try simp only [List.map_toArray,List.map_cons,List.map_nil]);first | done | rfl | (simp only [List.length_drop,List.length_take];rfl)) ?_;(with_reducible refine (laws_eqStepS.calls k _ _ t22 _ _ t37 true _ ?side1 ?side2 ?side3 ?side4 Fa17.out).mono ?_);(case side1=>exact (Kd.R_reads' HZ23.out).2.2);(case side2=>exact (Kd.R_reads' HZ23.out).2.1);(case side3=>exact (Kd.R_reads' HZ38.out).2.2);(case side4=>exact (Kd.R_reads' HZ38.out).2.1);rintro e w127 ⟨rfl,hb⟩;refine ⟨_,rfl,?_⟩;replace HZ8:=Aside0.mk (Kd.S_below HZ8.out hb);replace HZ11:=Aside0.mk (Kd.R_below HZ11.out hb);replace HZ15:=Aside0.mk (Kd.S_below HZ15.out hb);replace HZ19:=Aside0.mk (Kd.S_below HZ19.out hb);replace HZ23:=Aside0.mk (Kd.R_below HZ23.out hb);replace HZ27:=Aside0.mk (Kd.S_below HZ27.out hb);replace HZ33:=Aside0.mk (Kd.S_below HZ33.out hb);replace HZ38:=Aside0.mk (Kd.R_below HZ38.out hb);replace BK1:=Aside0.mk (blk_below BK1.out hb);replace BK16:=Aside0.mk (blk_below BK16.out hb);replace BK20:=Aside0.mk (blk_below BK20.out hb);replace BK28:=Aside0.mk (blk_below BK28.out hb);replace HB:=Aside0.mk (below_step HB.out hb);replace HL:=Aside0.mk (And.intro HL.out (below_size hb));clear hb;clear hcz119 hfz120 hcz121 hfz122 hcz123 hfz124 hcz125 hfz126;have hcz128 : w127.cell? ⟨gb1,0,none⟩ = some (.slice A0_0 l0_0.length c0_0):=(blk_cell BK1.out 0).trans rfl;have hfz129:=blk_frozen BK1.out 0;have hcz130 : w127.cell? ⟨gb16,0,none⟩ = some (.slice A15 t13.length c15):=(blk_cell BK16.out 0).trans rfl;have hfz131:=blk_frozen BK16.out 0;have hcz132 : w127.cell? ⟨gb20,0,none⟩ = some (.slice A19 t18.length c19):=(blk_cell BK20.out 0).trans rfl;have hfz133:=blk_frozen BK20.out 0;have hcz134 : w127.cell? ⟨gb28,0,none⟩ = some (.slice A27 t25.length c27):=(blk_cell BK28.out 0).trans rfl;have hfz135:=blk_frozen BK28.out 0) | ((with_reducible refine gate_callee (f:=36) rfl ?_);refine goesL_ (some 66) rfl rfl Try.func36 (by kernel_rfl) rfl #[.agg #[.slice A19 t18.length c19],.int .i64 1] rfl (by (try simp only [List.map_toArray,List.map_cons,List.map_nil]);first | done | rfl | (simp only [List.length_drop,List.length_take];rfl)) ?_;(with_reducible refine (laws_markFlash.calls k (fun k_=>(w39.heap.size ≤ k_ ∧ k_ < w45.heap.size)) _ t18 1 t42 t43 w _ HB.out HZ19.out Fa19.out).mono ?_);rintro e w136 ⟨rfl,hy0,hb0,hk⟩;refine ⟨_,rfl,?_⟩;have ny0_:=Aside0.mk (Kd.S_mono (ok':=fun k_=>((w39.heap.size ≤ k_ ∧ k_ < w45.heap.size) ∨ (w127.heap.size ≤ k_ ∧ k_ < w136.heap.size))) (Kd.S_bound hy0) (fun k_ hk_=>hk_.1.imp id (fun h_=>⟨h_,hk_.2.2.1⟩)));replace HZ8:=Aside0.mk (Kd.S_kept HZ8.out hk (fun k_ (hk_ : (w22.heap.size ≤ k_ ∧ k_ < w25.heap.size)) (hs_ : (w39.heap.size ≤ k_ ∧ k_ < w45.heap.size))=>by have q_:=HL.out;omega));replace HZ11:=Aside0.mk (Kd.R_kept HZ11.out hk (fun k_ (hk_ : (w25.heap.size ≤ k_ ∧ k_ < w28.heap.size)) (hs_ : (w39.heap.size ≤ k_ ∧ k_ < w45.heap.size))=>by have q_:=HL.out;omega));replace HZ15:=Aside0.mk (Kd.S_kept HZ15.out hk (fun k_ (hk_ : (w28.heap.size ≤ k_ ∧ k_ < w31.heap.size)) (hs_ : (w39.heap.size ≤ k_ ∧ k_ < w45.heap.size))=>by have q_:=HL.out;omega));replace HZ23:=Aside0.mk (Kd.R_kept HZ23.out hk (fun k_ (hk_ : (w57.heap.size ≤ k_ ∧ k_ < w65.heap.size)) (hs_ : (w39.heap.size ≤ k_ ∧ k_ < w45.heap.size))=>by have q_:=HL.out;omega));replace HZ27:=Aside0.mk (Kd.S_kept HZ27.out hk (fun k_ (hk_ : (w65.heap.size ≤ k_ ∧ k_ < w72.heap.size)) (hs_ : (w39.heap.size ≤ k_ ∧ k_ < w45.heap.size))=>by have q_:=HL.out;omega));replace HZ33:=Aside0.mk (Kd.S_kept HZ33.out hk (fun k_ (hk_ : (w107.heap.size ≤ k_ ∧ k_ < w108.heap.size)) (hs_ : (w39.heap.size ≤ k_ ∧ k_ < w45.heap.size))=>by have q_:=HL.out;omega));replace HZ38:=Aside0.mk (Kd.R_kept HZ38.out hk (fun k_ (hk_ : (w109.heap.size ≤ k_ ∧ k_ < w118.heap.size)) (hs_ : (w39.heap.size ≤ k_ ∧ k_ < w45.heap.size))=>by have q_:=HL.out;omega));replace BK1:=Aside0.mk (blk_kept BK1.out hk (fun hs_=>by have q_:=HL.out;have g_:=GBK1.out;have hs2_ : (w39.heap.size ≤ gb1 ∧ gb1 < w45.heap.size):=hs_;omega));replace BK16:=Aside0.mk (blk_kept BK16.out hk (fun hs_=>by have q_:=HL.out;have g_:=GBK16.out;have hs2_ : (w39.heap.size ≤ gb16 ∧ gb16 < w45.heap.size):=hs_;omega));replace BK20:=Aside0.mk (blk_kept BK20.out hk (fun hs_=>by have q_:=HL.out;have g_:=GBK20.out;have hs2_ : (w39.heap.size ≤ gb20 ∧ gb20 < w45.heap.size):=hs_;omega));replace BK28:=Aside0.mk (blk_kept BK28.out hk (fun hs_=>by have q_:=HL.out;have g_:=GBK28.out;have hs2_ : (w39.heap.size ≤ gb28 ∧ gb28 < w45.heap.size):=hs_;omega));replace HZ19:=ny0_;clear ny0_;replace HB:=Aside0.mk hb0;replace HL:=Aside0.mk (And.intro HL.out hk.1);clear hb0 hk hy0;clear hcz128 hfz129 hcz130 hfz131 hcz132 hfz133 hcz134 hfz135;have hcz137 : w136.cell? ⟨gb1,0,none⟩ = some (.slice A0_0 l0_0.length c0_0):=(blk_cell BK1.out 0).trans rfl;have hfz138:=blk_frozen BK1.out 0;have hcz139 : w136.cell? ⟨gb16,0,none⟩ = some (.slice A15 t13.length c15):=(blk_cell BK16.out 0).trans rfl;have hfz140:=blk_frozen BK16.out 0;have hcz141 : w136.cell? ⟨gb20,0,none⟩ = some (.slice A19 t18.length c19):=(blk_cell BK20.out 0).trans rfl;have hfz142:=blk_frozen BK20.out 0;have hcz143 : w136.cell? ⟨gb28,0,none⟩ = some (.slice A27 t25.length c27):=(blk_cell BK28.out 0).trans rfl;have hfz144:=blk_frozen BK28.out 0) | ((with_reducible refine gate_callee (f:=54) rfl ?_);refine goesL_ (some 69) rfl rfl Try.func54 (by kernel_rfl) rfl #[.slice A23 t22.length c23,.int .i64 t42] rfl (by (try simp only [List.map_toArray,List.map_cons,List.map_nil]);first | done | rfl | (simp only [List.length_drop,List.length_take];rfl)) ?_;(with_reducible refine (laws_markStepS.calls k (fun k_=>(w57.heap.size ≤ k_ ∧ k_ < w65.heap.size)) _ t22 t42 t45 t46 w _ HB.out HZ23.out Fa20.out).mono ?_);rintro e w145 ⟨rfl,hy0,hb0,hk⟩;refine ⟨_,rfl,?_⟩;have ny0_:=Aside0.mk (Kd.R_mono (ok':=fun k_=>((w57.heap.size ≤ k_ ∧ k_ < w65.heap.size) ∨ (w136.heap.size ≤ k_ ∧ k_ < w145.heap.size))) (Kd.R_bound hy0) (fun k_ hk_=>hk_.1.imp id (fun h_=>⟨h_,hk_.2.2.1⟩)));replace HZ8:=Aside0.mk (Kd.S_kept HZ8.out hk (fun k_ (hk_ : (w22.heap.size ≤ k_ ∧ k_ < w25.heap.size)) (hs_ : (w57.heap.size ≤ k_ ∧ k_ < w65.heap.size))=>by have q_:=HL.out;omega));replace HZ11:=Aside0.mk (Kd.R_kept HZ11.out hk (fun k_ (hk_ : (w25.heap.size ≤ k_ ∧ k_ < w28.heap.size)) (hs_ : (w57.heap.size ≤ k_ ∧ k_ < w65.heap.size))=>by have q_:=HL.out;omega));replace HZ15:=Aside0.mk (Kd.S_kept HZ15.out hk (fun k_ (hk_ : (w28.heap.size ≤ k_ ∧ k_ < w31.heap.size)) (hs_ : (w57.heap.size ≤ k_ ∧ k_ < w65.heap.size))=>by have q_:=HL.out;omega));replace HZ19:=Aside0.mk (Kd.S_kept HZ19.out hk (fun k_ (hk_ : ((w39.heap.size ≤ k_ ∧ k_ < w45.heap.size) ∨ (w127.heap.size ≤ k_ ∧ k_ < w136.heap.size))) (hs_ : (w57.heap.size ≤ k_ ∧ k_ < w65.heap.size))=>by have q_:=HL.out;omega));replace HZ27:=Aside0.mk (Kd.S_kept HZ27.out hk (fun k_ (hk_ : (w65.heap.size ≤ k_ ∧ k_ < w72.heap.size)) (hs_ : (w57.heap.size ≤ k_ ∧ k_ < w65.heap.size))=>by have q_:=HL.out;omega));replace HZ33:=Aside0.mk (Kd.S_kept HZ33.out hk (fun k_ (hk_ : (w107.heap.size ≤ k_ ∧ k_ < w108.heap.size)) (hs_ : (w57.heap.size ≤ k_ ∧ k_ < w65.heap.size))=>by have q_:=HL.out;omega));replace HZ38:=Aside0.mk (Kd.R_kept HZ38.out hk (fun k_ (hk_ : (w109.heap.size ≤ k_ ∧ k_ < w118.heap.size)) (hs_ : (w57.heap.size ≤ k_ ∧ k_ < w65.heap.size))=>by have q_:=HL.out;omega));replace BK1:=Aside0.mk (blk_kept BK1.out hk (fun hs_=>by have q_:=HL.out;have g_:=GBK1.out;have hs2_ : (w57.heap.size ≤ gb1 ∧ gb1 < w65.heap.size):=hs_;omega));replace BK16:=Aside0.mk (blk_kept BK16.out hk (fun hs_=>by have q_:=HL.out;have g_:=GBK16.out;have hs2_ : (w57.heap.size ≤ gb16 ∧ gb16 < w65.heap.size):=hs_;omega));replace BK20:=Aside0.mk (blk_kept BK20.out hk (fun hs_=>by have q_:=HL.out;have g_:=GBK20.out;have hs2_ : (w57.heap.size ≤ gb20 ∧ gb20 < w65.heap.size):=hs_;omega));replace BK28:=Aside0.mk (blk_kept BK28.out hk (fun hs_=>by have q_:=HL.out;have g_:=GBK28.out;have hs2_ : (w57.heap.size ≤ gb28 ∧ gb28 < w65.heap.size):=hs_;omega));replace HZ23:=ny0_;clear ny0_;replace HB:=Aside0.mk hb0;replace HL:=Aside0.mk (And.intro HL.out hk.1);clear hb0 hk hy0;clear hcz137 hfz138 hcz139 hfz140 hcz141 hfz142 hcz143 hfz144;have hcz146 : w145.cell? ⟨gb1,0,none⟩ = some (.slice A0_0 l0_0.length c0_0):=(blk_cell BK1.out 0).trans rfl;have hfz147:=blk_frozen BK1.out 0;have hcz148 : w145.cell? ⟨gb16,0,none⟩ = some (.slice A15 t13.length c15):=(blk_cell BK16.out 0).trans rfl;have hfz149:=blk_frozen BK16.out 0;have hcz150 : w145.cell? ⟨gb20,0,none⟩ = some (.slice A19 t18.length c19):=(blk_cell BK20.out 0).trans rfl;have hfz151:=blk_frozen BK20.out 0;have hcz152 : w145.cell? ⟨gb28,0,none⟩ = some (.slice A27 t25.length c27):=(blk_cell BK28.out 0).trans rfl;have hfz153:=blk_frozen BK28.out 0) | (go_at_call 35;(with_reducible show Calls _ _ _ w145 _);(with_reducible refine (laws_eqFlash.calls k _ _ t25 _ _ t13 true _ ?side1 ?side2 ?side3 ?side4 Fa21.out).mono ?_);(case side1=>exact (Kd.S_reads' HZ27.out).2.2);(case side2=>exact (Kd.S_reads' HZ27.out).2.1);(case side3=>exact (Kd.S_reads' HZ15.out).2.2);(case side4=>exact (Kd.S_reads' HZ15.out).2.1);rintro e w154 ⟨rfl,hb⟩;replace HZ8:=Aside0.mk (Kd.S_below HZ8.out hb);replace HZ11:=Aside0.mk (Kd.R_below HZ11.out hb);replace HZ15:=Aside0.mk (Kd.S_below HZ15.out hb);replace HZ19:=Aside0.mk (Kd.S_below HZ19.out hb);replace HZ23:=Aside0.mk (Kd.R_below HZ23.out hb);replace HZ27:=Aside0.mk (Kd.S_below HZ27.out hb);replace HZ33:=Aside0.mk (Kd.S_below HZ33.out hb);replace HZ38:=Aside0.mk (Kd.R_below HZ38.out hb);replace BK1:=Aside0.mk (blk_below BK1.out hb);replace BK16:=Aside0.mk (blk_below BK16.out hb);replace BK20:=Aside0.mk (blk_below BK20.out hb);replace BK28:=Aside0.mk (blk_below BK28.out hb);replace HB:=Aside0.mk (below_step HB.out hb);replace HL:=Aside0.mk (And.intro HL.out (below_size hb));clear hb;clear hcz146 hfz147 hcz148 hfz149 hcz150 hfz151 hcz152 hfz153;have hcz155 : w154.cell? ⟨gb1,0,none⟩ = some (.slice A0_0 l0_0.length c0_0):=(blk_cell BK1.out 0).trans rfl;have hfz156:=blk_frozen BK1.out 0;have hcz157 : w154.cell? ⟨gb16,0,none⟩ = some (.slice A15 t13.length c15):=(blk_cell BK16.out 0).trans rfl;have hfz158:=blk_frozen BK16.out 0;have hcz159 : w154.cell? ⟨gb20,0,none⟩ = some (.slice A19 t18.length c19):=(blk_cell BK20.out 0).trans rfl;have hfz160:=blk_frozen BK20.out 0;have hcz161 : w154.cell? ⟨gb28,0,none⟩ = some (.slice A27 t25.length c27):=(blk_cell BK28.out 0).trans rfl;have hfz162:=blk_frozen BK28.out 0) | ((with_reducible refine gate_callee (f:=36) rfl ?_);refine goesL_ (some 85) rfl rfl Try.func36 (by kernel_rfl) rfl #[.agg #[.slice A27 t25.length c27],.int .i64 1] rfl (by (try simp only [List.map_toArray,List.map_cons,List.map_nil]);first | done | rfl | (simp only [List.length_drop,List.length_take];rfl)) ?_;(with_reducible refine (laws_markFlash.calls k (fun k_=>(w65.heap.size ≤ k_ ∧ k_ < w72.heap.size)) _ t25 1 t50 t51 w _ HB.out HZ27.out Fa25.out).mono ?_);rintro e w163 ⟨rfl,hy0,hb0,hk⟩;refine ⟨_,rfl,?_⟩;have ny0_:=Aside0.mk (Kd.S_mono (ok':=fun k_=>((w65.heap.size ≤ k_ ∧ k_ < w72.heap.size) ∨ (w154.heap.size ≤ k_ ∧ k_ < w163.heap.size))) (Kd.S_bound hy0) (fun k_ hk_=>hk_.1.imp id (fun h_=>⟨h_,hk_.2.2.1⟩)));replace HZ8:=Aside0.mk (Kd.S_kept HZ8.out hk (fun k_ (hk_ : (w22.heap.size ≤ k_ ∧ k_ < w25.heap.size)) (hs_ : (w65.heap.size ≤ k_ ∧ k_ < w72.heap.size))=>by have q_:=HL.out;omega));replace HZ11:=Aside0.mk (Kd.R_kept HZ11.out hk (fun k_ (hk_ : (w25.heap.size ≤ k_ ∧ k_ < w28.heap.size)) (hs_ : (w65.heap.size ≤ k_ ∧ k_ < w72.heap.size))=>by have q_:=HL.out;omega));replace HZ15:=Aside0.mk (Kd.S_kept HZ15.out hk (fun k_ (hk_ : (w28.heap.size ≤ k_ ∧ k_ < w31.heap.size)) (hs_ : (w65.heap.size ≤ k_ ∧ k_ < w72.heap.size))=>by have q_:=HL.out;omega));replace HZ19:=Aside0.mk (Kd.S_kept HZ19.out hk (fun k_ (hk_ : ((w39.heap.size ≤ k_ ∧ k_ < w45.heap.size) ∨ (w127.heap.size ≤ k_ ∧ k_ < w136.heap.size))) (hs_ : (w65.heap.size ≤ k_ ∧ k_ < w72.heap.size))=>by have q_:=HL.out;omega));replace HZ23:=Aside0.mk (Kd.R_kept HZ23.out hk (fun k_ (hk_ : ((w57.heap.size ≤ k_ ∧ k_ < w65.heap.size) ∨ (w136.heap.size ≤ k_ ∧ k_ < w145.heap.size))) (hs_ : (w65.heap.size ≤ k_ ∧ k_ < w72.heap.size))=>by have q_:=HL.out;omega));replace HZ33:=Aside0.mk (Kd.S_kept HZ33.out hk (fun k_ (hk_ : (w107.heap.size ≤ k_ ∧ k_ < w108.heap.size)) (hs_ : (w65.heap.size ≤ k_ ∧ k_ < w72.heap.size))=>by have q_:=HL.out;omega));replace HZ38:=Aside0.mk (Kd.R_kept HZ38.out hk (fun k_ (hk_ : (w109.heap.size ≤ k_ ∧ k_ < w118.heap.size)) (hs_ : (w65.heap.size ≤ k_ ∧ k_ < w72.heap.size))=>by have q_:=HL.out;omega));replace BK1:=Aside0.mk (blk_kept BK1.out hk (fun hs_=>by have q_:=HL.out;have g_:=GBK1.out;have hs2_ : (w65.heap.size ≤ gb1 ∧ gb1 < w72.heap.size):=hs_;omega));replace BK16:=Aside0.mk (blk_kept BK16.out hk (fun hs_=>by have q_:=HL.out;have g_:=GBK16.out;have hs2_ : (w65.heap.size ≤ gb16 ∧ gb16 < w72.heap.size):=hs_;omega));replace BK20:=Aside0.mk (blk_kept BK20.out hk (fun hs_=>by have q_:=HL.out;have g_:=GBK20.out;have hs2_ : (w65.heap.size ≤ gb20 ∧ gb20 < w72.heap.size):=hs_;omega));replace BK28:=Aside0.mk (blk_kept BK28.out hk (fun hs_=>by have q_:=HL.out;have g_:=GBK28.out;have hs2_ : (w65.heap.size ≤ gb28 ∧ gb28 < w72.heap.size):=hs_;omega));replace HZ27:=ny0_;clear ny0_;replace HB:=Aside0.mk hb0;replace HL:=Aside0.mk (And.intro HL.out hk.1);clear hb0 hk hy0;clear hcz155 hfz156 hcz157 hfz158 hcz159 hfz160 hcz161 hfz162;have hcz164 : w163.cell? ⟨gb1,0,none⟩ = some (.slice A0_0 l0_0.length c0_0):=(blk_cell BK1.out 0).trans rfl;have hfz165:=blk_frozen BK1.out 0;have hcz166 : w163.cell? ⟨gb16,0,none⟩ = some (.slice A15 t13.length c15):=(blk_cell BK16.out 0).trans rfl;have hfz167:=blk_frozen BK16.out 0;have hcz168 : w163.cell? ⟨gb20,0,none⟩ = some (.slice A19 t18.length c19):=(blk_cell BK20.out 0).trans rfl;have hfz169:=blk_frozen BK20.out 0;have hcz170 : w163.cell? ⟨gb28,0,none⟩ = some (.slice A27 t25.length c27):=(blk_cell BK28.out 0).trans rfl;have hfz171:=blk_frozen BK28.out 0) | ((with_reducible refine gate_callee (f:=41) rfl ?_);refine goesL_ (some 88) rfl rfl Try.func41 (by kernel_rfl) rfl #[.agg #[.slice A27 t51.length c27],.int .i64 1] rfl (by (try simp only [List.map_toArray,List.map_cons,List.map_nil]);first | done | (rw [show t51.length = t25.length from (Kd.S_reads' HZ27.out).1.symm] <;> rfl) | rfl | (simp only [List.length_drop,List.length_take];rfl)) ?_;(with_reducible refine (laws_heldFlash.calls k _ _ t51 1 t53 _ ?side1 ?side2 Fa26.out).mono ?_);(case side1=>exact (Kd.S_reads' HZ27.out).2.2);(case side2=>have h1_:=(Kd.S_reads' HZ27.out).1;have h2_:=(Kd.S_reads' HZ27.out).2.1;omega);rintro e w172 ⟨rfl,hb⟩;refine ⟨_,rfl,?_⟩;replace HZ8:=Aside0.mk (Kd.S_below HZ8.out hb);replace HZ11:=Aside0.mk (Kd.R_below HZ11.out hb);replace HZ15:=Aside0.mk (Kd.S_below HZ15.out hb);replace HZ19:=Aside0.mk (Kd.S_below HZ19.out hb);replace HZ23:=Aside0.mk (Kd.R_below HZ23.out hb);replace HZ27:=Aside0.mk (Kd.S_below HZ27.out hb);replace HZ33:=Aside0.mk (Kd.S_below HZ33.out hb);replace HZ38:=Aside0.mk (Kd.R_below HZ38.out hb);replace BK1:=Aside0.mk (blk_below BK1.out hb);replace BK16:=Aside0.mk (blk_below BK16.out hb);replace BK20:=Aside0.mk (blk_below BK20.out hb);replace BK28:=Aside0.mk (blk_below BK28.out hb);replace HB:=Aside0.mk (below_step HB.out hb);replace HL:=Aside0.mk (And.intro HL.out (below_size hb));clear hb;clear hcz164 hfz165 hcz166 hfz167 hcz168 hfz169 hcz170 hfz171;have hcz173 : w172.cell? ⟨gb1,0,none⟩ = some (.slice A0_0 l0_0.length c0_0):=(blk_cell BK1.out 0).trans rfl;have hfz174:=blk_frozen BK1.out 0;have hcz175 : w172.cell? ⟨gb16,0,none⟩ = some (.slice A15 t13.length c15):=(blk_cell BK16.out 0).trans rfl;have hfz176:=blk_frozen BK16.out 0;have hcz177 : w172.cell? ⟨gb20,0,none⟩ = some (.slice A19 t18.length c19):=(blk_cell BK20.out 0).trans rfl;have hfz178:=blk_frozen BK20.out 0;have hcz179 : w172.cell? ⟨gb28,0,none⟩ = some (.slice A27 t25.length c27):=(blk_cell BK28.out 0).trans rfl;have hfz180:=blk_frozen BK28.out 0) | ((with_reducible refine gate_callee (f:=33) rfl ?_);refine goesL_ (some 96) rfl rfl Try.func33 (by kernel_rfl) rfl #[.agg #[.slice A0_0 l0_0.length c0_0]] rfl (by (try simp only [List.map_toArray,List.map_cons,List.map_nil]);first | done | rfl | (simp only [List.length_drop,List.length_take];rfl)) ?_;(with_reducible refine (laws_toFlash.calls k _ _ l0_0 t55 _ ?side1 ?side2 Fa29.out).mono ?_);(case side1=>exact Kd.C_below HR0_0.out HB.out);(case side2=>exact HC0_0.out);rintro e w181 ⟨v56,rfl,ho0,hb⟩;refine ⟨_,rfl,?_⟩;have HZ56:=Aside0.mk (Kd.S_lower (Kd.S_mono (ok':=fun k_=>(w172.heap.size ≤ k_ ∧ k_ < w181.heap.size)) (Kd.S_bound ho0) (fun k_ hk_=>⟨hk_.2.1,hk_.2.2.1⟩)) (below_size HB.out));clear ho0;replace HZ8:=Aside0.mk (Kd.S_below HZ8.out hb);replace HZ11:=Aside0.mk (Kd.R_below HZ11.out hb);replace HZ15:=Aside0.mk (Kd.S_below HZ15.out hb);replace HZ19:=Aside0.mk (Kd.S_below HZ19.out hb);replace HZ23:=Aside0.mk (Kd.R_below HZ23.out hb);replace HZ27:=Aside0.mk (Kd.S_below HZ27.out hb);replace HZ33:=Aside0.mk (Kd.S_below HZ33.out hb);replace HZ38:=Aside0.mk (Kd.R_below HZ38.out hb);replace BK1:=Aside0.mk (blk_below BK1.out hb);replace BK16:=Aside0.mk (blk_below BK16.out hb);replace BK20:=Aside0.mk (blk_below BK20.out hb);replace BK28:=Aside0.mk (blk_below BK28.out hb);replace HB:=Aside0.mk (below_step HB.out hb);replace HL:=Aside0.mk (And.intro HL.out (below_size hb));clear hb;obtain ⟨A56,c56,e56⟩:=Kd.S_slice HZ56.out;subst e56;clear hcz173 hfz174 hcz175 hfz176 hcz177 hfz178 hcz179 hfz180;have hcz182 : w181.cell? ⟨gb1,0,none⟩ = some (.slice A0_0 l0_0.length c0_0):=(blk_cell BK1.out 0).trans rfl;have hfz183:=blk_frozen BK1.out 0;have hcz184 : w181.cell? ⟨gb16,0,none⟩ = some (.slice A15 t13.length c15):=(blk_cell BK16.out 0).trans rfl;have hfz185:=blk_frozen BK16.out 0;have hcz186 : w181.cell? ⟨gb20,0,none⟩ = some (.slice A19 t18.length c19):=(blk_cell BK20.out 0).trans rfl;have hfz187:=blk_frozen BK20.out 0;have hcz188 : w181.cell? ⟨gb28,0,none⟩ = some (.slice A27 t25.length c27):=(blk_cell BK28.out 0).trans rfl;have hfz189:=blk_frozen BK28.out 0) | ((with_reducible refine gate_callee (f:=51) rfl ?_);refine goesL_ (some 98) rfl rfl Try.func51 (by kernel_rfl) rfl #[.slice A1 l1.length c1] rfl (by (try simp only [List.map_toArray,List.map_cons,List.map_nil]);first | done | rfl | (simp only [List.length_drop,List.length_take];rfl)) ?_;(with_reducible refine (laws_toStepS.calls k _ _ l1 t58 _ ?side1 ?side2 Fa30.out).mono ?_);(case side1=>exact Kd.C_below HR1.out HB.out);(case side2=>exact HC1.out);rintro e w190 ⟨v59,rfl,ho0,hb⟩;refine ⟨_,rfl,?_⟩;have HZ59:=Aside0.mk (Kd.R_lower (Kd.R_mono (ok':=fun k_=>(w181.heap.size ≤ k_ ∧ k_ < w190.heap.size)) (Kd.R_bound ho0) (fun k_ hk_=>⟨hk_.2.1,hk_.2.2.1⟩)) (below_size HB.out));clear ho0;replace HZ8:=Aside0.mk (Kd.S_below HZ8.out hb);replace HZ11:=Aside0.mk (Kd.R_below HZ11.out hb);replace HZ15:=Aside0.mk (Kd.S_below HZ15.out hb);replace HZ19:=Aside0.mk (Kd.S_below HZ19.out hb);replace HZ23:=Aside0.mk (Kd.R_below HZ23.out hb);replace HZ27:=Aside0.mk (Kd.S_below HZ27.out hb);replace HZ33:=Aside0.mk (Kd.S_below HZ33.out hb);replace HZ38:=Aside0.mk (Kd.R_below HZ38.out hb);replace HZ56:=Aside0.mk (Kd.S_below HZ56.out hb);replace BK1:=Aside0.mk (blk_below BK1.out hb);replace BK16:=Aside0.mk (blk_below BK16.out hb);replace BK20:=Aside0.mk (blk_below BK20.out hb);replace BK28:=Aside0.mk (blk_below BK28.out hb);replace HB:=Aside0.mk (below_step HB.out hb);replace HL:=Aside0.mk (And.intro HL.out (below_size hb));clear hb;obtain ⟨A59,c59,e59⟩:=Kd.R_slice HZ59.out;subst e59;clear hcz182 hfz183 hcz184 hfz185 hcz186 hfz187 hcz188 hfz189;have hcz191 : w190.cell? ⟨gb1,0,none⟩ = some (.slice A0_0 l0_0.length c0_0):=(blk_cell BK1.out 0).trans rfl;have hfz192:=blk_frozen BK1.out 0;have hcz193 : w190.cell? ⟨gb16,0,none⟩ = some (.slice A15 t13.length c15):=(blk_cell BK16.out 0).trans rfl;have hfz194:=blk_frozen BK16.out 0;have hcz195 : w190.cell? ⟨gb20,0,none⟩ = some (.slice A19 t18.length c19):=(blk_cell BK20.out 0).trans rfl;have hfz196:=blk_frozen BK20.out 0;have hcz197 : w190.cell? ⟨gb28,0,none⟩ = some (.slice A27 t25.length c27):=(blk_cell BK28.out 0).trans rfl;have hfz198:=blk_frozen BK28.out 0) | ((with_reducible refine gate_callee (f:=52) rfl ?_);refine goesL_ (some 99) rfl rfl Try.func52 (by kernel_rfl) rfl #[.agg #[.slice A56 t55.length c56],.slice A59 t58.length c59] rfl (by (try simp only [List.map_toArray,List.map_cons,List.map_nil]);first | done | rfl | (simp only [List.length_drop,List.length_take];rfl)) ?_;(with_reducible refine (impl_DoSteps.calls k _ _ t55 _ _ t58 t61 t62 _ ?side1 ?side2 ?side3 ?side4 Fa31.out).mono ?_);(case side1=>exact (Kd.S_reads' HZ56.out).2.2);(case side2=>exact (Kd.S_reads' HZ56.out).2.1);(case side3=>exact (Kd.R_reads' HZ59.out).2.2);(case side4=>exact (Kd.R_reads' HZ59.out).2.1);rintro e w199 ⟨v63,rfl,ho0,hb⟩;refine ⟨_,rfl,?_⟩;have HZ63:=Aside0.mk (Kd.S_lower (Kd.S_mono (ok':=fun k_=>(w190.heap.size ≤ k_ ∧ k_ < w199.heap.size)) (Kd.S_bound ho0) (fun k_ hk_=>⟨hk_.2.1,hk_.2.2.1⟩)) (below_size HB.out));clear ho0;replace HZ8:=Aside0.mk (Kd.S_below HZ8.out hb);replace HZ11:=Aside0.mk (Kd.R_below HZ11.out hb);replace HZ15:=Aside0.mk (Kd.S_below HZ15.out hb);replace HZ19:=Aside0.mk (Kd.S_below HZ19.out hb);replace HZ23:=Aside0.mk (Kd.R_below HZ23.out hb);replace HZ27:=Aside0.mk (Kd.S_below HZ27.out hb);replace HZ33:=Aside0.mk (Kd.S_below HZ33.out hb);replace HZ38:=Aside0.mk (Kd.R_below HZ38.out hb);replace HZ56:=Aside0.mk (Kd.S_below HZ56.out hb);replace HZ59:=Aside0.mk (Kd.R_below HZ59.out hb);replace BK1:=Aside0.mk (blk_below BK1.out hb);replace BK16:=Aside0.mk (blk_below BK16.out hb);replace BK20:=Aside0.mk (blk_below BK20.out hb);replace BK28:=Aside0.mk (blk_below BK28.out hb);replace HB:=Aside0.mk (below_step HB.out hb);replace HL:=Aside0.mk (And.intro HL.out (below_size hb));clear hb;obtain ⟨A63,c63,e63⟩:=Kd.S_slice HZ63.out;subst e63;clear hcz191 hfz192 hcz193 hfz194 hcz195 hfz196 hcz197 hfz198;have hcz200 : w199.cell? ⟨gb1,0,none⟩ = some (.slice A0_0 l0_0.length c0_0):=(blk_cell BK1.out 0).trans rfl;have hfz201:=blk_frozen BK1.out 0;have hcz202 : w199.cell? ⟨gb16,0,none⟩ = some (.slice A15 t13.length c15):=(blk_cell BK16.out 0).trans rfl;have hfz203:=blk_frozen BK16.out 0;have hcz204 : w199.cell? ⟨gb20,0,none⟩ = some (.slice A19 t18.length c19):=(blk_cell BK20.out 0).trans rfl;have hfz205:=blk_frozen BK20.out 0;have hcz206 : w199.cell? ⟨gb28,0,none⟩ = some (.slice A27 t25.length c27):=(blk_cell BK28.out 0).trans rfl;have hfz207:=blk_frozen BK28.out 0) | ((with_reducible refine gate_dst (N:=15) rfl ?_);refine box_event ?hg (N:=15) ?hd (cs:=#[.slice none 0 0]) (t:=59) ?hr ?_;(case hd=>rfl);(case hg=>rfl);(case hr=>first | (go_simp;done) | (go_simp;rfl));intro gb64 hg w208 hbox hb;replace HZ8:=Aside0.mk (Kd.S_below HZ8.out hb);replace HZ11:=Aside0.mk (Kd.R_below HZ11.out hb);replace HZ15:=Aside0.mk (Kd.S_below HZ15.out hb);replace HZ19:=Aside0.mk (Kd.S_below HZ19.out hb);replace HZ23:=Aside0.mk (Kd.R_below HZ23.out hb);replace HZ27:=Aside0.mk (Kd.S_below HZ27.out hb);replace HZ33:=Aside0.mk (Kd.S_below HZ33.out hb);replace HZ38:=Aside0.mk (Kd.R_below HZ38.out hb);replace HZ56:=Aside0.mk (Kd.S_below HZ56.out hb);replace HZ59:=Aside0.mk (Kd.R_below HZ59.out hb);replace HZ63:=Aside0.mk (Kd.S_below HZ63.out hb);replace BK1:=Aside0.mk (blk_below BK1.out hb);replace BK16:=Aside0.mk (blk_below BK16.out hb);replace BK20:=Aside0.mk (blk_below BK20.out hb);replace BK28:=Aside0.mk (blk_below BK28.out hb);have GBK64:=Aside0.mk (show gb64 = w199.heap.size ∧ gb64 < w208.heap.size from ⟨hg,blk_lt hbox⟩);have GW64:=Aside0.mk (show w.heap.size ≤ gb64 by have q_:=below_size HB.out;rw [hg];exact q_);have BK64:=Aside0.mk hbox;replace HB:=Aside0.mk (below_step HB.out hb);replace HL:=Aside0.mk (And.intro HL.out (below_size hb));clear hb hbox hg;clear hcz200 hfz201 hcz202 hfz203 hcz204 hfz205 hcz206 hfz207;have hcz209 : w208.cell? ⟨gb1,0,none⟩ = some (.slice A0_0 l0_0.length c0_0):=(blk_cell BK1.out 0).trans rfl;have hfz210:=blk_frozen BK1.out 0;have hcz211 : w208.cell? ⟨gb16,0,none⟩ = some (.slice A15 t13.length c15):=(blk_cell BK16.out 0).trans rfl;have hfz212:=blk_frozen BK16.out 0;have hcz213 : w208.cell? ⟨gb20,0,none⟩ = some (.slice A19 t18.length c19):=(blk_cell BK20.out 0).trans rfl;have hfz214:=blk_frozen BK20.out 0;have hcz215 : w208.cell? ⟨gb28,0,none⟩ = some (.slice A27 t25.length c27):=(blk_cell BK28.out 0).trans rfl;have hfz216:=blk_frozen BK28.out 0;have hcz217 : w208.cell? ⟨gb64,0,none⟩ = some (.slice none 0 0):=(blk_cell BK64.out 0).trans rfl;have hfz218:=blk_frozen BK64.out 0) | ((with_reducible refine gate_store (t:=59) (p:=15) rfl ?_);refine store_event (t:=59) (p:=15) (v:=?vo220_) (w1:=(w208.setCell ⟨gb64,0,none⟩ (.slice A63 t61.length c63))) ?hg ?ho ?hn ?hr ?_;(case ho=>rfl);(case hg=>rfl);(case hn=>rfl);(case hr=>first | (go_simp;done) | (go_simp;rfl));intro w219 hw;have hk : Kept w208 w219 (fun k_=>k_ = gb64):=(by rw [hw];exact (Kept.setCell (Kept.refl w208 (fun k_=>k_ = gb64)) (p:=⟨gb64,0,none⟩) (.inl rfl) (.slice A63 t61.length c63)));have g0_:=GBK64.out;replace HZ8:=Aside0.mk (Kd.S_kept HZ8.out hk (fun k_ (hk_ : (w22.heap.size ≤ k_ ∧ k_ < w25.heap.size)) (hs_ : k_ = gb64)=>by have q_:=HL.out;omega));replace HZ11:=Aside0.mk (Kd.R_kept HZ11.out hk (fun k_ (hk_ : (w25.heap.size ≤ k_ ∧ k_ < w28.heap.size)) (hs_ : k_ = gb64)=>by have q_:=HL.out;omega));replace HZ15:=Aside0.mk (Kd.S_kept HZ15.out hk (fun k_ (hk_ : (w28.heap.size ≤ k_ ∧ k_ < w31.heap.size)) (hs_ : k_ = gb64)=>by have q_:=HL.out;omega));replace HZ19:=Aside0.mk (Kd.S_kept HZ19.out hk (fun k_ (hk_ : ((w39.heap.size ≤ k_ ∧ k_ < w45.heap.size) ∨ (w127.heap.size ≤ k_ ∧ k_ < w136.heap.size))) (hs_ : k_ = gb64)=>by have q_:=HL.out;omega));replace HZ23:=Aside0.mk (Kd.R_kept HZ23.out hk (fun k_ (hk_ : ((w57.heap.size ≤ k_ ∧ k_ < w65.heap.size) ∨ (w136.heap.size ≤ k_ ∧ k_ < w145.heap.size))) (hs_ : k_ = gb64)=>by have q_:=HL.out;omega));replace HZ27:=Aside0.mk (Kd.S_kept HZ27.out hk (fun k_ (hk_ : ((w65.heap.size ≤ k_ ∧ k_ < w72.heap.size) ∨ (w154.heap.size ≤ k_ ∧ k_ < w163.heap.size))) (hs_ : k_ = gb64)=>by have q_:=HL.out;omega));replace HZ33:=Aside0.mk (Kd.S_kept HZ33.out hk (fun k_ (hk_ : (w107.heap.size ≤ k_ ∧ k_ < w108.heap.size)) (hs_ : k_ = gb64)=>by have q_:=HL.out;omega));replace HZ38:=Aside0.mk (Kd.R_kept HZ38.out hk (fun k_ (hk_ : (w109.heap.size ≤ k_ ∧ k_ < w118.heap.size)) (hs_ : k_ = gb64)=>by have q_:=HL.out;omega));replace HZ56:=Aside0.mk (Kd.S_kept HZ56.out hk (fun k_ (hk_ : (w172.heap.size ≤ k_ ∧ k_ < w181.heap.size)) (hs_ : k_ = gb64)=>by have q_:=HL.out;omega));replace HZ59:=Aside0.mk (Kd.R_kept HZ59.out hk (fun k_ (hk_ : (w181.heap.size ≤ k_ ∧ k_ < w190.heap.size)) (hs_ : k_ = gb64)=>by have q_:=HL.out;omega));replace HZ63:=Aside0.mk (Kd.S_kept HZ63.out hk (fun k_ (hk_ : (w190.heap.size ≤ k_ ∧ k_ < w199.heap.size)) (hs_ : k_ = gb64)=>by have q_:=HL.out;omega));replace BK1:=Aside0.mk (blk_kept BK1.out hk (fun hs_=>by have q_:=HL.out;have g_:=GBK1.out;have hs2_ : gb1 = gb64:=hs_;omega));replace BK16:=Aside0.mk (blk_kept BK16.out hk (fun hs_=>by have q_:=HL.out;have g_:=GBK16.out;have hs2_ : gb16 = gb64:=hs_;omega));replace BK20:=Aside0.mk (blk_kept BK20.out hk (fun hs_=>by have q_:=HL.out;have g_:=GBK20.out;have hs2_ : gb20 = gb64:=hs_;omega));replace BK28:=Aside0.mk (blk_kept BK28.out hk (fun hs_=>by have q_:=HL.out;have g_:=GBK28.out;have hs2_ : gb28 = gb64:=hs_;omega));clear g0_;replace BK64:=Aside0.mk (show w219.heap[gb64]? = some (.cells #[.slice A63 t61.length c63] 59 (0,0)) from (by rw [hw];exact (blk_put (cs:=#[.slice none 0 0]) (cs':=#[.slice A63 t61.length c63]) BK64.out 0 _ rfl)));replace HB:=Aside0.mk (show Below w.heap.size w w219 from (by rw [hw];exact (below_set HB.out GW64.out)));replace HL:=Aside0.mk (And.intro HL.out hk.1);clear hk hw;clear hcz209 hfz210 hcz211 hfz212 hcz213 hfz214 hcz215 hfz216 hcz217 hfz218;have hcz221 : w219.cell? ⟨gb1,0,none⟩ = some (.slice A0_0 l0_0.length c0_0):=(blk_cell BK1.out 0).trans rfl;have hfz222:=blk_frozen BK1.out 0;have hcz223 : w219.cell? ⟨gb16,0,none⟩ = some (.slice A15 t13.length c15):=(blk_cell BK16.out 0).trans rfl;have hfz224:=blk_frozen BK16.out 0;have hcz225 : w219.cell? ⟨gb20,0,none⟩ = some (.slice A19 t18.length c19):=(blk_cell BK20.out 0).trans rfl;have hfz226:=blk_frozen BK20.out 0;have hcz227 : w219.cell? ⟨gb28,0,none⟩ = some (.slice A27 t25.length c27):=(blk_cell BK28.out 0).trans rfl;have hfz228:=blk_frozen BK28.out 0;have hcz229 : w219.cell? ⟨gb64,0,none⟩ = some (.slice A63 t61.length c63):=(blk_cell BK64.out 0).trans rfl;have hfz230:=blk_frozen BK64.out 0) | ((with_reducible refine gate_callee (f:=35) rfl ?_);refine goesL_ (some 104) rfl rfl Try.func35 (by kernel_rfl) rfl #[.agg #[.slice A63 t61.length c63],.agg #[.slice A15 t13.length c15]] rfl (by (try simp only [List.map_toArray,List.map_cons,List.map_nil]);first | done | rfl | (simp only [List.length_drop,List.length_take];rfl)) ?_;(with_reducible refine (laws_eqFlash.calls k _ _ t61 _ _ t13 true _ ?side1 ?side2 ?side3 ?side4 Fa32.out).mono ?_);(case side1=>exact (Kd.S_reads' HZ63.out).2.2);(case side2=>exact (Kd.S_reads' HZ63.out).2.1);(case side3=>exact (Kd.S_reads' HZ15.out).2.2);(case side4=>exact (Kd.S_reads' HZ15.out).2.1);rintro e w231 ⟨rfl,hb⟩;refine ⟨_,rfl,?_⟩;replace HZ8:=Aside0.mk (Kd.S_below HZ8.out hb);replace HZ11:=Aside0.mk (Kd.R_below HZ11.out hb);replace HZ15:=Aside0.mk (Kd.S_below HZ15.out hb);replace HZ19:=Aside0.mk (Kd.S_below HZ19.out hb);replace HZ23:=Aside0.mk (Kd.R_below HZ23.out hb);replace HZ27:=Aside0.mk (Kd.S_below HZ27.out hb);replace HZ33:=Aside0.mk (Kd.S_below HZ33.out hb);replace HZ38:=Aside0.mk (Kd.R_below HZ38.out hb);replace HZ56:=Aside0.mk (Kd.S_below HZ56.out hb);replace HZ59:=Aside0.mk (Kd.R_below HZ59.out hb);replace HZ63:=Aside0.mk (Kd.S_below HZ63.out hb);replace BK1:=Aside0.mk (blk_below BK1.out hb);replace BK16:=Aside0.mk (blk_below BK16.out hb);replace BK20:=Aside0.mk (blk_below BK20.out hb);replace BK28:=Aside0.mk (blk_below BK28.out hb);replace BK64:=Aside0.mk (blk_below BK64.out hb);replace HB:=Aside0.mk (below_step HB.out hb);replace HL:=Aside0.mk (And.intro HL.out (below_size hb));clear hb;clear hcz221 hfz222 hcz223 hfz224 hcz225 hfz226 hcz227 hfz228 hcz229 hfz230;have hcz232 : w231.cell? ⟨gb1,0,none⟩ = some (.slice A0_0 l0_0.length c0_0):=(blk_cell BK1.out 0).trans rfl;have hfz233:=blk_frozen BK1.out 0;have hcz234 : w231.cell? ⟨gb16,0,none⟩ = some (.slice A15 t13.length c15):=(blk_cell BK16.out 0).trans rfl;have hfz235:=blk_frozen BK16.out 0;have hcz236 : w231.cell? ⟨gb20,0,none⟩ = some (.slice A19 t18.length c19):=(blk_cell BK20.out 0).trans rfl;have hfz237:=blk_frozen BK20.out 0;have hcz238 : w231.cell? ⟨gb28,0,none⟩ = some (.slice A27 t25.length c27):=(blk_cell BK28.out 0).trans rfl;have hfz239:=blk_frozen BK28.out 0;have hcz240 : w231.cell? ⟨gb64,0,none⟩ = some (.slice A63 t61.length c63):=(blk_cell BK64.out 0).trans rfl;have hfz241:=blk_frozen BK64.out 0) | ((with_reducible refine gate_callee (f:=41) rfl ?_);refine goesL_ (some 113) rfl rfl Try.func41 (by kernel_rfl) rfl #[.agg #[.slice A27 t51.length c27],.int .i64 1] rfl (by (try simp only [List.map_toArray,List.map_cons,List.map_nil]);first | done | (rw [show t51.length = t25.length from (Kd.S_reads' HZ27.out).1.symm] <;> rfl) | rfl | (simp only [List.length_drop,List.length_take];rfl)) ?_;(with_reducible refine (laws_heldFlash.calls k _ _ t51 1 t68 _ ?side1 ?side2 Fa35.out).mono ?_);(case side1=>exact (Kd.S_reads' HZ27.out).2.2);(case side2=>have h1_:=(Kd.S_reads' HZ27.out).1;have h2_:=(Kd.S_reads' HZ27.out).2.1;omega);rintro e w242 ⟨rfl,hb⟩;refine ⟨_,rfl,?_⟩;replace HZ8:=Aside0.mk (Kd.S_below HZ8.out hb);replace HZ11:=Aside0.mk (Kd.R_below HZ11.out hb);replace HZ15:=Aside0.mk (Kd.S_below HZ15.out hb);replace HZ19:=Aside0.mk (Kd.S_below HZ19.out hb);replace HZ23:=Aside0.mk (Kd.R_below HZ23.out hb);replace HZ27:=Aside0.mk (Kd.S_below HZ27.out hb);replace HZ33:=Aside0.mk (Kd.S_below HZ33.out hb);replace HZ38:=Aside0.mk (Kd.R_below HZ38.out hb);replace HZ56:=Aside0.mk (Kd.S_below HZ56.out hb);replace HZ59:=Aside0.mk (Kd.R_below HZ59.out hb);replace HZ63:=Aside0.mk (Kd.S_below HZ63.out hb);replace BK1:=Aside0.mk (blk_below BK1.out hb);replace BK16:=Aside0.mk (blk_below BK16.out hb);replace BK20:=Aside0.mk (blk_below BK20.out hb);replace BK28:=Aside0.mk (blk_below BK28.out hb);replace BK64:=Aside0.mk (blk_below BK64.out hb);replace HB:=Aside0.mk (below_step HB.out hb);replace HL:=Aside0.mk (And.intro HL.out (below_size hb));clear hb;clear hcz232 hfz233 hcz234 hfz235 hcz236 hfz237 hcz238 hfz239 hcz240 hfz241;have hcz243 : w242.cell? ⟨gb1,0,none⟩ = some (.slice A0_0 l0_0.length c0_0):=(blk_cell BK1.out 0).trans rfl;have hfz244:=blk_frozen BK1.out 0;have hcz245 : w242.cell? ⟨gb16,0,none⟩ = some (.slice A15 t13.length c15):=(blk_cell BK16.out 0).trans rfl;have hfz246:=blk_frozen BK16.out 0;have hcz247 : w242.cell? ⟨gb20,0,none⟩ = some (.slice A19 t18.length c19):=(blk_cell BK20.out 0).trans rfl;have hfz248:=blk_frozen BK20.out 0;have hcz249 : w242.cell? ⟨gb28,0,none⟩ = some (.slice A27 t25.length c27):=(blk_cell BK28.out 0).trans rfl;have hfz250:=blk_frozen BK28.out 0;have hcz251 : w242.cell? ⟨gb64,0,none⟩ = some (.slice A63 t61.length c63):=(blk_cell BK64.out 0).trans rfl;have hfz252:=blk_frozen BK64.out 0))
 go_ret
 exact ⟨rfl,HB.out⟩
end Go.Proofs.Ytijbejiajaiciaa.PC

/- What a law's arguments, read as data, are as the print's kinds. -/
namespace Go.Proofs.Ytijbejiajaiciaa.Open
open Go.RowKit Go.Proofs.YtijbejiajaiciaaW.PrintWords

/-- A datum that is read at type t is of kind d, and each such y meets wf. -/
def Opn {α : Type} (P : Program) (t : TypeId) (d : Kd α) (wf : α → Prop) : Prop :=
  ∀ (H : Type) (enc : TypeId × Value → H) (w : World) (base : Nat) (spare : Nat → Bool) (held : Bool) (fuel : Nat) (cs : List Value) (x : DataW H × List MemPlace),
    DataW.trod enc P w base spare held fuel t cs = some x → ∃ y : α, d.K w y cs ∧ wf y

theorem opn_int {P : Program} {t : TypeId} {k : IntKind} (hu : P.underlying t = some (.int k)) : Opn P t (Kd.int k) (fun n => (Lit.int k n).wf = true) := by
  intro H enc w base spare held fuel cs x h
  obtain ⟨n, rfl, _, hw⟩ := DataW.trod_int hu h
  exact ⟨n, rfl, hw⟩
theorem opn_bool {P : Program} {t : TypeId} (hu : P.underlying t = some .bool) : Opn P t Kd.bool (fun _ => True) := by
  intro H enc w base spare held fuel cs x h
  obtain ⟨n, rfl, _⟩ := DataW.trod_bool hu h
  exact ⟨n, rfl, trivial⟩
theorem opn_string {P : Program} {t : TypeId} (hu : P.underlying t = some .string) : Opn P t Kd.string (fun s => s.size ≤ maxLen) := by
  intro H enc w base spare held fuel cs x h
  obtain ⟨n, rfl, _, hw⟩ := DataW.trod_string hu h
  exact ⟨n, rfl, hw⟩
theorem choose_list {α : Type} {Q : Nat → α → Prop} : ∀ (n : Nat), (∀ i, i < n → ∃ y, Q i y) → ∃ ys : List α, ys.length = n ∧ ∀ i y, ys[i]? = some y → Q i y
  | 0, _ => ⟨[], rfl, fun i y h => by simp at h⟩
  | n + 1, h => by
    obtain ⟨ys, hl, hq⟩ := choose_list n (fun i hi => h i (by omega))
    obtain ⟨y, hy⟩ := h n (by omega)
    refine ⟨ys ++ [y], by simp [hl], fun i z hz => ?_⟩
    rcases Nat.lt_or_ge i ys.length with hi | hi
    · rw [List.getElem?_append_left hi] at hz
      exact hq i z hz
    · rw [List.getElem?_append_right hi] at hz
      have hi2 : i - ys.length = 0 := by
        have := (List.getElem?_eq_some_iff.1 hz).1
        simp at this
        omega
      rw [hi2] at hz
      have : i = n := by omega
      subst this
      simp at hz
      subst hz
      exact hy
theorem adds (a : Addr) (m n : Nat) : (a.add m).add n = a.add (m + n) := by
  unfold Addr.add
  by_cases h1 : m = 0 <;> by_cases h2 : n = 0 <;> simp_all [Nat.add_assoc]
theorem opn_slice {α : Type} {P : Program} {t e : TypeId} {d : Kd α} {wf : α → Prop} (hu : P.underlying t = some (.slice e)) (hc : P.cellsOf e = d.sz) (ho : Opn P e d wf) :
    Opn P t (Kd.slice e d) (fun xs => xs.length ≤ maxLen ∧ ∀ x ∈ xs, wf x) := by
  intro H enc w base spare held fuel cs x h
  rcases DataW.trod_slice hu h with ⟨rfl, _⟩ | ⟨a, len, cap, elems, rest, n, _, rfl, _, hb, hl, hm, hlen, hel, _, _⟩
  · refine ⟨[], ⟨none, 0, rfl, Nat.le_refl _, rfl, by simp, fun h0 => absurd h0 (by simp)⟩, by simp, fun x hx => absurd hx (by simp)⟩
  · have each : ∀ i, i < len → ∃ y : α, ∃ c : List Value, (c.length = d.sz ∧ d.K w y c ∧ ∀ j u, c[j]? = some u → w.cell? (a.add (i * d.sz + j)) = some u) ∧ wf y := by
      intro i hi
      have h1 := hel i hi
      rw [List.getElem?_eq_getElem (by omega), Option.bind_eq_some_iff, hc] at h1
      obtain ⟨c, h2, h3⟩ := h1
      obtain ⟨_, hcl, hcell⟩ := World.cells?_some h2
      obtain ⟨y, hk, hw⟩ := ho H enc w base spare held n c _ h3
      refine ⟨y, c, ⟨hcl, hk, fun j u hj => ?_⟩, hw⟩
      have hjl : j < c.length := (List.getElem?_eq_some_iff.1 hj).1
      rw [← adds, hcell j (by omega), hj]
    obtain ⟨ys, hyl, hys⟩ := choose_list len each
    have hml : len ≤ maxLen := Nat.le_trans hl hm
    refine ⟨ys, ⟨some a, cap, by rw [hyl], by rw [hyl]; exact hl, rfl, by rw [hyl]; simpa only [maxLen] using hml, fun _ => ⟨a, rfl, fun j p hj => ?_⟩⟩, by rw [hyl]; exact hml, fun y hy => ?_⟩
    · obtain ⟨c, hq, _⟩ := hys j p hj
      exact ⟨c, hq⟩
    · obtain ⟨j, hj, he⟩ := List.getElem_of_mem hy
      obtain ⟨_, _, hw⟩ := hys j y (by rw [List.getElem?_eq_getElem hj, he])
      exact hw

/-- The fields fs, read off the cells from off on, are of kind d. -/
def OpnF {α : Type} (P : Program) (fs : List Field) (off : Nat) (d : Kd α) (wf : α → Prop) : Prop :=
  ∀ (H : Type) (enc : TypeId × Value → H) (w : World) (base : Nat) (spare : Nat → Bool) (held : Bool) (fuel : Nat) (cs : List Value), cs.length = off + d.sz →
    (∀ f ∈ fs, ∃ x, DataW.trod enc P w base spare held fuel f.type ((cs.drop f.offset).take (P.cellsOf f.type)) = some x) → ∃ y : α, d.K w y (cs.drop off) ∧ wf y
theorem opnF_one {α : Type} {P : Program} {f : Field} {off : Nat} {d : Kd α} {wf : α → Prop} (hoff : f.offset = off) (hc : P.cellsOf f.type = d.sz) (ho : Opn P f.type d wf) : OpnF P [f] off d wf := by
  intro H enc w base spare held fuel cs hl h
  obtain ⟨x, hx⟩ := h f (by simp)
  obtain ⟨y, hk, hw⟩ := ho H enc w base spare held fuel _ x hx
  rw [hoff, hc, List.take_of_length_le (by rw [List.length_drop]; omega)] at hk
  exact ⟨y, hk, hw⟩
theorem opnF_cons {α β : Type} {P : Program} {f : Field} {fs : List Field} {off : Nat} {a : Kd α} {b : Kd β} {wa : α → Prop} {wb : β → Prop} (hoff : f.offset = off) (hc : P.cellsOf f.type = a.sz) (ho : Opn P f.type a wa) (hr : OpnF P fs (off + a.sz) b wb) :
    OpnF P (f :: fs) off (Kd.pair a b) (fun p => wa p.1 ∧ wb p.2) := by
  intro H enc w base spare held fuel cs hl h
  obtain ⟨x, hx⟩ := h f (by simp)
  obtain ⟨y, hk, hw⟩ := ho H enc w base spare held fuel _ x hx
  have hsz : (Kd.pair a b).sz = a.sz + b.sz := rfl
  obtain ⟨z, hk2, hw2⟩ := hr H enc w base spare held fuel cs (by omega) (fun g hg => h g (List.mem_cons_of_mem _ hg))
  rw [hoff, hc] at hk
  refine ⟨(y, z), ⟨(cs.drop off).take a.sz, cs.drop (off + a.sz), ?_, hk, hk2⟩, hw, hw2⟩
  rw [← List.drop_drop, List.take_append_drop]
theorem opn_tuple {α : Type} {P : Program} {t : TypeId} {fs : List Field} {d : Kd α} {wf : α → Prop} (hu : P.underlying t = some (.struct fs.toArray)) (hc : P.cellsOf t = d.sz) (ho : OpnF P fs 0 d wf) :
    Opn P t d wf := by
  intro H enc w base spare held fuel cs x h
  obtain ⟨xs, n, _, _, hl, hlen, hf⟩ := DataW.trod_struct hu h
  obtain ⟨y, hk, hw⟩ := ho H enc w base spare held n cs (by omega) (fun fl hfl => by
    obtain ⟨i, hi, he⟩ := List.getElem_of_mem hfl
    have h1 := hf i fl (by simpa using (List.getElem?_eq_getElem hi).trans (congrArg some he))
    have hlen2 : xs.length = fs.length := by simpa using hlen
    exact ⟨xs[i]'(by omega), by rw [h1, List.getElem?_eq_getElem]⟩)
  exact ⟨y, by simpa using hk, hw⟩
theorem opn_struct {α β : Type} {P : Program} {t : TypeId} {fs : List Field} {d : Kd α} {wf : α → Prop} (f : β → α) (g : α → β) (hfg : ∀ a, f (g a) = a) (hu : P.underlying t = some (.struct fs.toArray)) (hc : P.cellsOf t = d.sz) (ho : OpnF P fs 0 d wf) :
    Opn P t (Kd.iso d f) (fun y => wf (f y)) := by
  intro H enc w base spare held fuel cs x h
  obtain ⟨xs, n, _, _, hl, hlen, hf⟩ := DataW.trod_struct hu h
  obtain ⟨y, hk, hw⟩ := ho H enc w base spare held n cs (by omega) (fun fl hfl => by
    obtain ⟨i, hi, he⟩ := List.getElem_of_mem hfl
    have h1 := hf i fl (by simpa using (List.getElem?_eq_getElem hi).trans (congrArg some he))
    have hlen2 : xs.length = fs.length := by simpa using hlen
    exact ⟨xs[i]'(by omega), by rw [h1, List.getElem?_eq_getElem]⟩)
  exact ⟨g y, by show d.K w (f (g y)) cs; rw [hfg]; simpa using hk, by show wf (f (g y)); rw [hfg]; exact hw⟩
end Go.Proofs.Ytijbejiajaiciaa.Open

/- Plain facts on rounds, lists and whole numbers, for the pure statements. -/
namespace Go.Proofs.Ytijbejiajaiciaa.Pu
set_option linter.unusedVariables false
set_option linter.unusedSimpArgs false
open Go.RowKit Go.Proofs.YtijbejiajaiciaaW.PrintWords

theorem w64 {x : Int} (h1 : -9223372036854775808 ≤ x) (h2 : x ≤ 9223372036854775807) : wrap64 x = x := by
  unfold wrap64; omega
theorem wsucc {i n : Nat} (h : i < n) (hn : n ≤ 9223372036854775807) : wrap64 ((i : Int) + 1) = ((i + 1 : Nat) : Int) := by
  rw [w64 (by omega) (by omega)]; rfl
theorem wf_i64 {n : Int} (h : (Lit.int .i64 n).wf = true) : -9223372036854775808 ≤ n ∧ n ≤ 9223372036854775807 := by
  simp only [Lit.wf, Bool.and_eq_true, decide_eq_true_eq] at h
  have h1 : IntKind.min .i64 = -9223372036854775808 := by decide
  have h2 : IntKind.max .i64 = 9223372036854775807 := by decide
  omega

/-- Rounds: what is told, a step on. -/
theorem ev_some {α : Type} {g : Nat → Option α} {r : α} (h : ∀ k, g (k + 1) = some r) : Ev g r := Ev.step h (Ev.now r)
theorem ev_const {α : Type} {o : Option α} {r : α} (h : o = some r) : Ev (fun _ => o) r := ⟨0, fun _ _ => h⟩
theorem ev_bind {α β : Type} {g : Nat → Option α} {f : Nat → α → Option β} {a : α} {r : β} (h : Ev g a) (k : Ev (fun n => f n a) r) : Ev (fun n => (g n).bind (f n)) r := Ev.bind h k
theorem ev_uniq {α : Type} {g : Nat → Option α} {a b : α} (h : Ev g a) (k : Ev g b) : a = b := by
  obtain ⟨K, hK⟩ := h
  obtain ⟨M, hM⟩ := k
  have h1 := hK (max K M) (Nat.le_max_left _ _)
  rw [hM (max K M) (Nat.le_max_right _ _)] at h1
  injection h1 with h1
  exact h1.symm
theorem ev_ext {α : Type} {g f : Nat → Option α} {r : α} (h : ∀ k, g k = f k) (k : Ev f r) : Ev g r := Ev.congr h k

/-- A row that is made and filled, place by place. -/
theorem ev_fill {β : Type} {L : Nat → List β → Int → Option (List β)} {E : Nat → Int → Option β} {n : Nat} {e : Nat → β} (hn : n ≤ 9223372036854775807)
    (hs : ∀ k xs i, L (k + 1) xs i = if i < (n : Int) then (if 0 ≤ i then ((E k i).bind fun b => if i < (xs.length : Int) then L k (xs.set i.toNat b) (wrap64 (i + 1)) else none) else none) else some xs)
    (hE : ∀ i, i < n → Ev (fun k => E k (i : Int)) (e i)) :
    ∀ (d i : Nat) (xs : List β), xs.length = n → i + d = n → Ev (fun k => L k xs (i : Int)) (xs.take i ++ (List.range' i d).map e) := by
  intro d
  induction d with
  | zero =>
    intro i xs hl hi
    refine ev_some fun k => ?_
    rw [hs, if_neg (by omega)]
    simp [List.take_of_length_le (show xs.length ≤ i by omega)]
  | succ d ih =>
    intro i xs hl hi
    refine Ev.step (f := fun k => (E k (i : Int)).bind fun b => L k (xs.set i b) ((i + 1 : Nat) : Int)) (fun k => ?_) ?_
    · rw [hs, if_pos (by omega), if_pos (by omega), wsucc (n := n) (by omega) hn]
      congr 1
      funext b
      rw [if_pos (by omega)]
      rfl
    · refine ev_bind (hE i (by omega)) ?_
      have h := ih (i + 1) (xs.set i (e i)) (by rw [List.length_set]; exact hl) (by omega)
      have e1 : (xs.set i (e i)).take (i + 1) ++ (List.range' (i + 1) d).map e = xs.take i ++ (List.range' i (d + 1)).map e := by
        rw [List.range'_succ, List.map_cons, List.take_succ_eq_append_getElem (by rw [List.length_set]; omega), List.getElem_set_self, List.take_set_of_le (Nat.le_refl _)]
        simp
      rw [e1] at h
      exact h
theorem map_range {α β : Type} (l : List α) (z : α) (g : α → β) : (List.range' 0 l.length).map (fun i => g (l.getD i z)) = l.map g := by
  apply List.ext_getElem
  · simp
  · intro i h1 h2
    simp only [List.length_map] at h2
    simp [List.getD_eq_getElem?_getD, List.getElem?_eq_getElem h2]
theorem ev_fill_all {α β : Type} {L : Nat → List β → Int → Option (List β)} {E : Nat → Int → Option β} {l : List α} {z : α} {g : α → β} {xs : List β} (hn : l.length ≤ 9223372036854775807)
    (hs : ∀ k xs i, L (k + 1) xs i = if i < (l.length : Int) then (if 0 ≤ i then ((E k i).bind fun b => if i < (xs.length : Int) then L k (xs.set i.toNat b) (wrap64 (i + 1)) else none) else none) else some xs)
    (hE : ∀ i, i < l.length → Ev (fun k => E k (i : Int)) (g (l.getD i z))) (hx : xs.length = l.length) : Ev (fun k => L k xs 0) (l.map g) := by
  have h := ev_fill (e := fun i => g (l.getD i z)) hn hs hE l.length 0 xs hx (by omega)
  rw [map_range] at h
  simpa using h

/-- Every place meets a test, tried place by place. -/
theorem ev_all {L E : Nat → Int → Option Bool} {n m : Nat} (hn : n ≤ 9223372036854775807) (hnm : n ≤ m)
    (hs : ∀ k i, L (k + 1) i = if i < (n : Int) then (if 0 ≤ i then (if i < (m : Int) then ((E k i).bind fun b => if b = true then L k (wrap64 (i + 1)) else some false) else none) else none) else some true)
    (hE : ∀ i, i < n → Ev (fun k => E k (i : Int)) true) : ∀ (d i : Nat), i + d = n → Ev (fun k => L k (i : Int)) true := by
  intro d
  induction d with
  | zero => intro i hi; exact ev_some fun k => by rw [hs, if_neg (by omega)]
  | succ d ih =>
    intro i hi
    refine Ev.step (f := fun k => (E k (i : Int)).bind fun b => if b = true then L k ((i + 1 : Nat) : Int) else some false) (fun k => ?_) (ev_bind (hE i (by omega)) (by simpa using ih (i + 1) (by omega)))
    rw [hs, if_pos (by omega), if_pos (by omega), if_pos (by omega), wsucc (n := n) (by omega) hn]

/-- What is left of a number, place by place, as long as it is not below 0. -/
theorem ev_size {L E : Nat → Int → Int → Option Int} {n : Nat} {P : Nat → Prop} (hn : n ≤ 9223372036854775807)
    (hs : ∀ k a i, L (k + 1) a i = if i < (n : Int) then (if 0 ≤ i then ((E k i a).bind fun t => if t < 0 then some (-1) else L k t (wrap64 (i + 1))) else none) else some a)
    (hE : ∀ i a, i < n → 0 ≤ a → a ≤ 1048576 → ∃ t, Ev (fun k => E k (i : Int) a) t ∧ t ≤ a ∧ (0 ≤ t → P i)) :
    ∀ (d i : Nat) (a : Int), i + d = n → 0 ≤ a → a ≤ 1048576 → ∃ r, Ev (fun k => L k a (i : Int)) r ∧ r ≤ a ∧ (0 ≤ r → ∀ m, i ≤ m → m < n → P m) := by
  intro d
  induction d with
  | zero => intro i a hi h0 h1; exact ⟨a, ev_some fun k => by rw [hs, if_neg (by omega)], Int.le_refl _, fun _ m h2 h3 => by omega⟩
  | succ d ih =>
    intro i a hi h0 h1
    obtain ⟨t, ht, hta, hp⟩ := hE i a (by omega) h0 h1
    have hst : ∀ k, L (k + 1) a (i : Int) = (E k (i : Int) a).bind fun t => if t < 0 then some (-1) else L k t ((i + 1 : Nat) : Int) := fun k => by
      rw [hs, if_pos (by omega), if_pos (by omega), wsucc (n := n) (by omega) hn]
    by_cases hneg : t < 0
    · exact ⟨-1, Ev.step hst (ev_bind ht (by simp only [if_pos hneg]; exact Ev.now _)), by omega, fun h => by omega⟩
    · obtain ⟨r, hr, hra, hq⟩ := ih (i + 1) t (by omega) (by omega) (by omega)
      refine ⟨r, Ev.step hst (ev_bind ht (by simp only [if_neg hneg]; exact hr)), by omega, fun h0r m h2 h3 => ?_⟩
      by_cases e : m = i
      · subst e; exact hp (by omega)
      · exact hq h0r m (by omega) h3
end Go.Proofs.Ytijbejiajaiciaa.Pu

/- More plain facts on rounds: tests in a row, folds, searches. -/
namespace Go.Proofs.Ytijbejiajaiciaa.Pu
set_option linter.unusedVariables false
set_option linter.unusedSimpArgs false
open Go.RowKit Go.Proofs.YtijbejiajaiciaaW.PrintWords

/-- Tests in a row, one a round; then what comes. -/
theorem ev_scan {L : Nat → Int → Option Bool} {g : Nat → Option Bool} {n : Nat} {T : Nat → Bool} {r : Bool}
    (hs : ∀ k i, i < n → L (k + 1) (i : Int) = if T i = true then L k ((i + 1 : Nat) : Int) else some false) (he : ∀ k, L (k + 1) (n : Int) = g k) (hr : Ev g r) :
    ∀ (d i : Nat), i + d = n → Ev (fun k => L k (i : Int)) ((List.range' i d).all T && r) := by
  intro d
  induction d with
  | zero =>
    intro i hi
    obtain rfl : i = n := by omega
    exact Ev.step he hr
  | succ d ih =>
    intro i hi
    rw [List.range'_succ, List.all_cons]
    by_cases h : T i = true
    · rw [h, Bool.true_and]
      exact Ev.step (fun k => by rw [hs k i (by omega), if_pos h]) (ih (i + 1) (by omega))
    · rw [Bool.eq_false_iff.mpr h, Bool.false_and, Bool.false_and]
      exact ev_some fun k => by rw [hs k i (by omega), if_neg h]
/-- Tests in a row, each of many rounds; then what comes. -/
theorem ev_outer {L : Nat → Int → Option Bool} {n : Nat} {T : Nat → Bool} {r0 : Bool}
    (hs : ∀ i r, i < n → Ev (fun k => L k ((i + 1 : Nat) : Int)) r → Ev (fun k => L k (i : Int)) (T i && r)) (he : Ev (fun k => L k (n : Int)) r0) :
    ∀ (d i : Nat), i + d = n → Ev (fun k => L k (i : Int)) ((List.range' i d).all T && r0) := by
  intro d
  induction d with
  | zero =>
    intro i hi
    obtain rfl : i = n := by omega
    exact he
  | succ d ih =>
    intro i hi
    rw [List.range'_succ, List.all_cons, Bool.and_assoc]
    exact hs i _ (by omega) (ih (i + 1) (by omega))
/-- A state that is carried along; then what comes. -/
theorem ev_fold {σ ρ : Type} {L : Nat → σ → Int → Option ρ} {n : Nat} {F : σ → Nat → σ} {fin : σ → ρ} (Inv : Nat → σ → Prop)
    (hs : ∀ s i, i < n → Inv i s → ∀ r, Ev (fun k => L k (F s i) ((i + 1 : Nat) : Int)) r → Ev (fun k => L k s (i : Int)) r) (hi : ∀ s i, i < n → Inv i s → Inv (i + 1) (F s i))
    (he : ∀ s, Inv n s → Ev (fun k => L k s (n : Int)) (fin s)) : ∀ (d i : Nat) (s : σ), i + d = n → Inv i s → Ev (fun k => L k s (i : Int)) (fin ((List.range' i d).foldl F s)) := by
  intro d
  induction d with
  | zero =>
    intro i s h hv
    obtain rfl : i = n := by omega
    exact he s hv
  | succ d ih =>
    intro i s h hv
    rw [List.range'_succ, List.foldl_cons]
    exact hs s i (by omega) hv _ (ih (i + 1) (F s i) (by omega) (hi s i (by omega) hv))
/-- The first place that meets a test, -1 without one. -/
def findI (T : Nat → Bool) : Nat → Nat → Int
  | _, 0 => -1
  | i, d + 1 => if T i = true then (i : Int) else findI T (i + 1) d
theorem ev_find {L : Nat → Int → Option Int} {n : Nat} {T : Nat → Bool}
    (hy : ∀ i, i < n → T i = true → Ev (fun k => L k (i : Int)) (i : Int)) (hn : ∀ i, i < n → T i = false → ∀ r, Ev (fun k => L k ((i + 1 : Nat) : Int)) r → Ev (fun k => L k (i : Int)) r)
    (he : Ev (fun k => L k (n : Int)) (-1)) : ∀ (d i : Nat), i + d = n → Ev (fun k => L k (i : Int)) (findI T i d) := by
  intro d
  induction d with
  | zero =>
    intro i hi
    obtain rfl : i = n := by omega
    exact he
  | succ d ih =>
    intro i hi
    unfold findI
    by_cases h : T i = true
    · rw [if_pos h]; exact hy i (by omega) h
    · rw [if_neg h]; exact hn i (by omega) (Bool.eq_false_iff.mpr h) _ (ih (i + 1) (by omega))
theorem findI_range {T : Nat → Bool} : ∀ (d i : Nat), findI T i d = -1 ∨ ∃ j, i ≤ j ∧ j < i + d ∧ findI T i d = (j : Int) ∧ T j = true
  | 0, i => .inl rfl
  | d + 1, i => by
    unfold findI
    by_cases h : T i = true
    · rw [if_pos h]; exact .inr ⟨i, Nat.le_refl _, by omega, rfl, h⟩
    · rw [if_neg h]
      rcases findI_range d (i + 1) with h1 | ⟨j, h1, h2, h3, h4⟩
      · exact .inl h1
      · exact .inr ⟨j, by omega, by omega, h3, h4⟩
theorem bytes_empty (a : ByteArray) : (a.toList == ([] : List UInt8)) = decide ((a.size : Int) ≤ 0) := by
  rw [ByteArray.toList_eq]
  have h : a.data.toList.length = a.size := by rw [Array.length_toList]; rfl
  cases e : a.data.toList with
  | nil =>
    have h1 : a.size = 0 := by rw [← h, e]; rfl
    rw [decide_eq_true (by omega)]; rfl
  | cons x l =>
    have h1 : a.size = l.length + 1 := by rw [← h, e]; rfl
    rw [decide_eq_false (by omega)]; rfl
theorem getD_mem' {α : Type} {l : List α} {i : Nat} {z : α} (hi : i < l.length) : l.getD i z ∈ l := by
  rw [List.getD_eq_getElem?_getD, List.getElem?_eq_getElem hi]; exact List.getElem_mem hi
end Go.Proofs.Ytijbejiajaiciaa.Pu

/- What the functions on flashes answer: sizes, copies, comparison. -/
namespace Go.Proofs.Ytijbejiajaiciaa.Pu
set_option linter.unusedVariables false
set_option linter.unusedSimpArgs false
open Go.RowKit Go.Proofs.Ytijbejiajaiciaa.PC Go.Proofs.YtijbejiajaiciaaW.PrintWords

theorem rdLB_nat (l : List S144) (i : Nat) : rd_T144 l (i : Int) = l.getD i z144 := rfl
theorem rdIB_nat (l : List S112) (i : Nat) : rd_T112 l (i : Int) = l.getD i z112 := rfl
theorem rdLL_nat (l : List S163) (i : Nat) : rd_T163 l (i : Int) = l.getD i z163 := rfl
theorem rdIL_nat (l : List S114) (i : Nat) : rd_T114 l (i : Int) = l.getD i z114 := rfl

def toLf (x : S163) : S114 := ⟨x.f0, x.f1⟩
def toBk (x : S144) : S112 := ⟨x.f0, x.f1, x.f2.map toLf⟩
def toFl (l : List S144) : List S112 := l.map toBk

theorem toLeafS_ev (l : List S163) (h : l.length ≤ 1048576) : Ev (fun k => laws_toLeafS.f k l) (l.map toLf) := by
  have h1 := ev_fill_all (E := fun _ i => (laws_toLeaf.f (rd_T163 l i).f0 (rd_T163 l i).f1).bind fun bt => some (⟨bt.1, bt.2⟩ : S114)) (l := l) (z := z163) (g := toLf) (xs := List.replicate l.length z114) (L := fun k xs i => laws_toLeafS.l0 k l xs i) (by omega) (fun k xs i => by
    simp only [laws_toLeafS.l0, Option.bind_assoc, Option.bind_some]) (fun i hi => by rw [rdLL_nat]; exact Ev.now _) (by simp)
  refine ev_ext (fun k => ?_) h1
  unfold laws_toLeafS.f
  rw [if_pos (by omega), if_pos (by simp; omega)]
  simp
theorem toBlock_ev (b : Bool) (n : Int) (l : List S163) (h : l.length ≤ 1048576) : Ev (fun k => laws_toBlock.f k b n l) (b, n, l.map toLf) := by
  unfold laws_toBlock.f
  exact ev_bind (toLeafS_ev l h) (Ev.now _)
theorem toFlash_ev (l : List S144) (h : l.length ≤ 1048576) (hk : ∀ x ∈ l, x.f2.length ≤ 1048576) : Ev (fun k => laws_toFlash.f k l) (toFl l) := by
  have h1 := ev_fill_all (E := fun k i => (laws_toBlock.f k (rd_T144 l i).f0 (rd_T144 l i).f1 (rd_T144 l i).f2).bind fun bt => some (⟨bt.1, bt.2.1, bt.2.2⟩ : S112)) (l := l) (z := z144) (g := toBk) (xs := List.replicate l.length z112) (L := fun k xs i => laws_toBlockS.l0 k l xs i) (by omega) (fun k xs i => by
    simp only [laws_toBlockS.l0, Option.bind_assoc, Option.bind_some]) (fun i hi => by
      rw [rdLB_nat]
      exact ev_bind (toBlock_ev _ _ _ (hk _ (getD_mem' hi))) (Ev.now _)) (by simp)
  unfold laws_toFlash.f
  refine ev_bind (ev_ext (fun k => ?_) h1) (Ev.now _)
  unfold laws_toBlockS.f
  rw [if_pos (by omega), if_pos (by simp; omega)]
  simp

theorem eqLeafS_ev (l : List S114) (hn : l.length ≤ 1048576) : Ev (fun k => laws_eqLeafS.f k l l) true := by
  have h1 := ev_all (n := l.length) (m := l.length) (L := fun k i => laws_eqLeafS.l0 k l l i) (E := fun _ i => laws_eqLeaf.f (rd_T114 l i).f0 (rd_T114 l i).f1 (rd_T114 l i).f0 (rd_T114 l i).f1) (by omega) (Nat.le_refl _) (fun k i => by simp only [laws_eqLeafS.l0])
    (fun i _ => ev_const (by simp [laws_eqLeaf.f])) l.length 0 (by omega)
  refine ev_ext (fun k => ?_) h1
  unfold laws_eqLeafS.f
  rw [if_pos rfl]; rfl
theorem eqFlash_ev (l : List S112) (hn : l.length ≤ 1048576) (hk : ∀ x ∈ l, x.f2.length ≤ 1048576) : Ev (fun k => laws_eqFlash.f k l l) true := by
  have h1 := ev_all (n := l.length) (m := l.length) (L := fun k i => laws_eqBlockS.l0 k l l i) (E := fun k i => laws_eqBlock.f k (rd_T112 l i).f0 (rd_T112 l i).f1 (rd_T112 l i).f2 (rd_T112 l i).f0 (rd_T112 l i).f1 (rd_T112 l i).f2) (by omega) (Nat.le_refl _) (fun k i => by simp only [laws_eqBlockS.l0])
    (fun i hi => by
      rw [rdIB_nat]
      unfold laws_eqBlock.f
      simp only [bne_self_eq_false, Bool.false_eq_true, if_false, if_true]
      exact ev_bind (eqLeafS_ev _ (hk _ (getD_mem' hi))) (by simp only [if_true]; exact Ev.now _)) l.length 0 (by omega)
  unfold laws_eqFlash.f
  refine ev_bind (ev_ext (fun k => ?_) h1) (by simp only [if_true]; exact Ev.now _)
  unfold laws_eqBlockS.f
  rw [if_pos rfl]; rfl

theorem szLeafS_ev (l : List S163) (a : Int) (h0 : 0 ≤ a) (h1 : a ≤ 1048576) (hn : l.length ≤ 9223372036854775807) (hk : ∀ x ∈ l, x.f1.size ≤ 9223372036854775807) :
    ∃ r, Ev (fun k => laws_szLeafS.f k l a) r ∧ r ≤ a ∧ (0 ≤ r → (l.length : Int) ≤ a ∧ ∀ x ∈ l, (x.f1.size : Int) ≤ 1048576) := by
  by_cases h : a - (l.length : Int) < 0
  · refine ⟨-1, ⟨0, fun k _ => ?_⟩, by omega, fun h2 => by omega⟩
    show laws_szLeafS.f k l a = _
    unfold laws_szLeafS.f
    rw [w64 (by omega) (by omega), if_pos h]
  · obtain ⟨r, hr, hra, hq⟩ := ev_size (n := l.length) (L := fun k a i => laws_szLeafS.l0 k l a i) (E := fun _ i a => laws_szLeaf.f (rd_T163 l i).f0 (rd_T163 l i).f1 a) (P := fun i => ((l.getD i z163).f1.size : Int) ≤ 1048576) hn (fun k a i => by simp only [laws_szLeafS.l0])
      (fun i a hi h2 h3 => by
        have hb := hk _ (getD_mem' (z := z163) hi)
        rw [rdLL_nat]
        unfold laws_szLeaf.f
        rw [w64 (by omega) (by omega)]
        by_cases h4 : a - ((l.getD i z163).f1.size : Int) < 0
        · exact ⟨-1, ev_const (by rw [if_pos h4]), by omega, fun h5 => by omega⟩
        · exact ⟨_, ev_const (by rw [if_neg h4]), by omega, fun _ => by omega⟩) l.length 0 (a - (l.length : Int)) (by omega) (by omega) (by omega)
    refine ⟨r, ev_ext (fun k => ?_) hr, by omega, fun h2 => ⟨by omega, fun x hx => ?_⟩⟩
    · unfold laws_szLeafS.f
      rw [w64 (by omega) (by omega), if_neg h]; rfl
    · obtain ⟨i, hi, rfl⟩ := List.getElem_of_mem hx
      have := hq h2 i (by omega) hi
      rwa [List.getD_eq_getElem?_getD, List.getElem?_eq_getElem hi] at this
theorem szFlash_ev (l : List S144) (a : Int) (h0 : 0 ≤ a) (h1 : a ≤ 1048576) (hn : l.length ≤ 9223372036854775807) (hk : ∀ x ∈ l, x.f2.length ≤ 9223372036854775807 ∧ ∀ y ∈ x.f2, y.f1.size ≤ 9223372036854775807) :
    ∃ r, Ev (fun k => laws_szFlash.f k l a) r ∧ r ≤ a ∧ (0 ≤ r → (l.length : Int) ≤ a ∧ ∀ x ∈ l, (x.f2.length : Int) ≤ 1048576 ∧ ∀ y ∈ x.f2, (y.f1.size : Int) ≤ 1048576) := by
  by_cases h : a - (l.length : Int) < 0
  · refine ⟨-1, ⟨0, fun k _ => ?_⟩, by omega, fun h2 => by omega⟩
    show laws_szFlash.f k l a = _
    unfold laws_szFlash.f laws_szBlockS.f
    rw [w64 (by omega) (by omega), if_pos h]
    rfl
  · obtain ⟨r, hr, hra, hq⟩ := ev_size (n := l.length) (L := fun k a i => laws_szBlockS.l0 k l a i) (E := fun k i a => laws_szBlock.f k (rd_T144 l i).f0 (rd_T144 l i).f1 (rd_T144 l i).f2 a) (P := fun i => ((l.getD i z144).f2.length : Int) ≤ 1048576 ∧ ∀ y ∈ (l.getD i z144).f2, (y.f1.size : Int) ≤ 1048576) hn (fun k a i => by simp only [laws_szBlockS.l0])
      (fun i a hi h2 h3 => by
        have hb := hk _ (getD_mem' (z := z144) hi)
        rw [rdLB_nat]
        obtain ⟨t, ht, hta, hp⟩ := szLeafS_ev (l.getD i z144).f2 a h2 h3 hb.1 hb.2
        unfold laws_szBlock.f
        by_cases h4 : t < 0
        · exact ⟨-1, ev_bind ht (by simp only [if_pos h4]; exact Ev.now _), by omega, fun h5 => by omega⟩
        · exact ⟨t, ev_bind ht (by simp only [if_neg h4]; exact Ev.now _), hta, fun h5 => ⟨by have := (hp h5).1; omega, (hp h5).2⟩⟩) l.length 0 (a - (l.length : Int)) (by omega) (by omega) (by omega)
    have hr2 : Ev (fun k => laws_szBlockS.f k l a) r := by
      refine ev_ext (fun k => ?_) hr
      unfold laws_szBlockS.f
      rw [w64 (by omega) (by omega), if_neg h]; rfl
    have hp : 0 ≤ r → (l.length : Int) ≤ a ∧ ∀ x ∈ l, (x.f2.length : Int) ≤ 1048576 ∧ ∀ y ∈ x.f2, (y.f1.size : Int) ≤ 1048576 := fun h2 => ⟨by omega, fun x hx => by
      obtain ⟨i, hi, rfl⟩ := List.getElem_of_mem hx
      have := hq h2 i (by omega) hi
      rwa [List.getD_eq_getElem?_getD, List.getElem?_eq_getElem hi] at this⟩
    unfold laws_szFlash.f
    by_cases h4 : r < 0
    · exact ⟨-1, ev_bind hr2 (by simp only [if_pos h4]; exact Ev.now _), by omega, fun h5 => by omega⟩
    · exact ⟨r, ev_bind hr2 (by simp only [if_neg h4]; exact Ev.now _), by omega, hp⟩
/-- What a law on a flash begins with. -/
theorem flash_start {l : List S144} (hl : l.length ≤ maxLen) (hx : ∀ x ∈ l, x.f2.length ≤ maxLen ∧ ∀ y ∈ x.f2, y.f1.size ≤ maxLen) :
    ∃ r, Ev (fun k => laws_szFlash.f k l 1048576) r ∧ (0 ≤ r → Ev (fun k => laws_toFlash.f k l) (toFl l) ∧ Ev (fun k => laws_eqFlash.f k (toFl l) (toFl l)) true ∧ (toFl l).length ≤ 1048576 ∧ ∀ x ∈ toFl l, x.f2.length ≤ 1048576 ∧ ∀ y ∈ x.f2, y.f1.size ≤ 1048576) := by
  unfold maxLen at hl hx
  obtain ⟨r, hr, _, hq⟩ := szFlash_ev l 1048576 (by omega) (by omega) (by omega) (fun x h => ⟨by have := (hx x h).1; omega, fun y hy => by have := (hx x h).2 y hy; omega⟩)
  refine ⟨r, hr, fun h0 => ?_⟩
  obtain ⟨h1, h2⟩ := hq h0
  have hlen : (toFl l).length = l.length := by unfold toFl; exact List.length_map _
  have hm : ∀ x ∈ toFl l, x.f2.length ≤ 1048576 ∧ ∀ y ∈ x.f2, y.f1.size ≤ 1048576 := by
    intro x h
    unfold toFl at h
    obtain ⟨y, hy, rfl⟩ := List.mem_map.1 h
    obtain ⟨a1, a2⟩ := h2 y hy
    refine ⟨by show (y.f2.map toLf).length ≤ _; rw [List.length_map]; omega, fun z hz => ?_⟩
    obtain ⟨q, hq2, rfl⟩ := List.mem_map.1 (show z ∈ y.f2.map toLf from hz)
    have := a2 q hq2
    show q.f1.size ≤ _
    omega
  exact ⟨toFlash_ev l (by omega) (fun x h => by have := (h2 x h).1; omega), eqFlash_ev _ (by omega) (fun x h => (hm x h).1), by omega, hm⟩
end Go.Proofs.Ytijbejiajaiciaa.Pu

/- When a flash is right, as one test; the program's and the reference's FlashOk answer it. -/
namespace Go.Proofs.Ytijbejiajaiciaa.Pu
set_option linter.unusedVariables false
set_option linter.unusedSimpArgs false
open Go.RowKit Go.Proofs.Ytijbejiajaiciaa.PC Go.Proofs.YtijbejiajaiciaaW.PrintWords

theorem inF_eq (a l h : Int) : impl_in.f a l h = some (decide (l ≤ a ∧ a ≤ h)) := by
  unfold impl_in.f
  by_cases h1 : a ≥ l
  · rw [if_pos h1]; congr 1; simp; omega
  · rw [if_neg h1]; congr 1; simp; omega
theorem l01InF_eq (a l h : Int) : spec_l01In.f a l h = some (decide (l ≤ a ∧ a ≤ h)) := by
  unfold spec_l01In.f
  by_cases h1 : a ≥ l
  · rw [if_pos h1]; congr 1; simp; omega
  · rw [if_neg h1]; congr 1; simp; omega

def leafB (x : S114) : Bool := if x.f0 = 0 then decide ((x.f1.size : Int) ≤ 0) else if x.f0 = 1 then decide (1 ≤ (x.f1.size : Int) ∧ (x.f1.size : Int) ≤ 120) else if x.f0 = 2 then decide ((x.f1.size : Int) ≤ 120) else false
/-- The leaf at place i of a block, and the one ahead of it. -/
def stepB (ls : List S114) (i : Nat) : Bool := leafB (ls.getD i z114) && (decide (i = 0) || !decide ((ls.getD (i - 1) z114).f0 = 0) || decide ((ls.getD i z114).f0 = 0))
def blockB (b : S112) : Bool := decide (b.f2.length = 4) && (decide (0 ≤ b.f1 ∧ b.f1 ≤ 1000000000) && (List.range' 0 b.f2.length).all (stepB b.f2))
def flashB (f : List S112) : Bool := (List.range' 0 f.length).all (fun i => blockB (f.getD i z112)) && decide (3 ≤ (f.length : Int) ∧ (f.length : Int) ≤ 10)

theorem sLeaf_eq (x : S114) : spec_l05Leaf.f x.f0 x.f1 = some (leafB x) := by
  unfold spec_l05Leaf.f leafB
  simp only [l01InF_eq, Option.bind_some, bytes_empty]
  repeat' split
  all_goals rfl
theorem iLeaf_eq (x : S114) : impl_leafOk.f x.f0 x.f1 = some (leafB x) := by
  unfold impl_leafOk.f leafB
  simp only [inF_eq, Option.bind_some, bytes_empty]
  repeat' split
  all_goals rfl
theorem sFlash_step (k : Nat) (a : Int) (f : List S112) (b : Bool) (n : Int) (ls : List S114) (i : Nat) (hi : i < ls.length) (hn : ls.length ≤ 1048576) :
    spec_FlashOk.l1 (k + 1) a (i : Int) f b n ls = if stepB ls i = true then spec_FlashOk.l1 k a ((i + 1 : Nat) : Int) f b n ls else some false := by
  simp only [spec_FlashOk.l1]
  rw [if_pos (by omega), if_pos (by omega), rdIL_nat, sLeaf_eq, wsucc (n := ls.length) hi (by omega), w64 (x := (i : Int) - 1) (by omega) (by omega)]
  simp only [Option.bind_some]
  unfold stepB
  by_cases h : leafB (ls.getD i z114) = true
  · rw [if_pos h, h, Bool.true_and]
    by_cases h0 : i = 0
    · subst h0
      simp
    · obtain ⟨j, rfl⟩ : ∃ j, i = j + 1 := ⟨i - 1, by omega⟩
      rw [if_pos (by omega), if_pos (by omega), if_pos (by omega), show ((j + 1 : Nat) : Int) - 1 = (j : Int) by omega, rdIL_nat, show j + 1 - 1 = j by omega]
      generalize (ls.getD j z114).f0 = u
      generalize (ls.getD (j + 1) z114).f0 = v
      by_cases h1 : u = 0 <;> by_cases h2 : v = 0 <;> simp [h1, h2]
  · rw [if_neg h, Bool.eq_false_iff.mpr h, Bool.false_and]
    rfl
theorem iFlash_step (k : Nat) (f : List S112) (a c : Int) (f2 : List S112) (b : Bool) (n : Int) (ls : List S114) (i : Nat) (hi : i < ls.length) (hn : ls.length ≤ 1048576) :
    impl_FlashOk.l1 (k + 1) f a c ls (ls.length : Int) (i : Int) f2 b n ls = if stepB ls i = true then impl_FlashOk.l1 k f a c ls (ls.length : Int) ((i + 1 : Nat) : Int) f2 b n ls else some false := by
  simp only [impl_FlashOk.l1]
  rw [if_pos (by omega), if_pos (by omega), if_pos (by omega), rdIL_nat, iLeaf_eq, wsucc (n := ls.length) hi (by omega), w64 (x := (i : Int) - 1) (by omega) (by omega)]
  simp only [Option.bind_some]
  unfold stepB
  by_cases h : leafB (ls.getD i z114) = true
  · rw [if_pos h, h, Bool.true_and]
    by_cases h0 : i = 0
    · subst h0
      simp
    · obtain ⟨j, rfl⟩ : ∃ j, i = j + 1 := ⟨i - 1, by omega⟩
      rw [if_pos (by omega), if_pos (by omega), if_pos (by omega), show ((j + 1 : Nat) : Int) - 1 = (j : Int) by omega, rdIL_nat, show j + 1 - 1 = j by omega]
      generalize (ls.getD j z114).f0 = u
      generalize (ls.getD (j + 1) z114).f0 = v
      by_cases h1 : u = 0 <;> by_cases h2 : v = 0 <;> simp [h1, h2]
  · rw [if_neg h, Bool.eq_false_iff.mpr h, Bool.false_and]
    rfl
theorem sFlashOk_ev (f : List S112) (hn : f.length ≤ 1048576) (hk : ∀ x ∈ f, x.f2.length ≤ 1048576) : Ev (fun k => spec_FlashOk.f k f) (flashB f) := by
  refine ev_outer (L := fun k i => spec_FlashOk.l0 k i f) (n := f.length) (T := fun i => blockB (f.getD i z112)) (fun i r hi hr => ?_) (ev_some fun k => by simp only [spec_FlashOk.l0]; rw [if_neg (by omega), l01InF_eq]; rfl) f.length 0 (by omega)
  have hb := hk _ (getD_mem' (z := z112) hi)
  unfold blockB
  by_cases h4 : (f.getD i z112).f2.length = 4
  · rw [decide_eq_true h4, Bool.true_and]
    by_cases hw : 0 ≤ (f.getD i z112).f1 ∧ (f.getD i z112).f1 ≤ 1000000000
    · rw [decide_eq_true hw, Bool.true_and]
      have h := ev_scan (L := fun k j => spec_FlashOk.l1 k i j f (f.getD i z112).f0 (f.getD i z112).f1 (f.getD i z112).f2) (n := (f.getD i z112).f2.length) (T := stepB (f.getD i z112).f2) (fun k j hj => sFlash_step k i f _ _ _ j hj hb)
        (g := fun k => spec_FlashOk.l0 k ((i + 1 : Nat) : Int) f) (fun k => by simp only [spec_FlashOk.l1]; rw [if_neg (by omega), wsucc (n := f.length) hi (by omega)]) hr _ 0 (Nat.zero_add _)
      refine Ev.step (f := fun k => spec_FlashOk.j1 k i false f (f.getD i z112).f0 (f.getD i z112).f1 (f.getD i z112).f2) (fun k => ?_) (Ev.step (fun k => ?_) h)
      · simp only [spec_FlashOk.l0]
        rw [if_pos (by omega), if_pos (by omega), rdIB_nat, if_pos (by omega), l01InF_eq, decide_eq_true hw]
        rfl
      · simp only [spec_FlashOk.j1]
        rfl
    · rw [decide_eq_false hw, Bool.false_and, Bool.false_and]
      refine Ev.step (f := fun k => spec_FlashOk.j1 k i true f (f.getD i z112).f0 (f.getD i z112).f1 (f.getD i z112).f2) (fun k => ?_) (ev_some fun k => by simp [spec_FlashOk.j1])
      simp only [spec_FlashOk.l0]
      rw [if_pos (by omega), if_pos (by omega), rdIB_nat, if_pos (by omega), l01InF_eq, decide_eq_false hw]
      rfl
  · rw [decide_eq_false h4, Bool.false_and, Bool.false_and]
    refine Ev.step (f := fun k => spec_FlashOk.j1 k i true f (f.getD i z112).f0 (f.getD i z112).f1 (f.getD i z112).f2) (fun k => ?_) (ev_some fun k => by simp [spec_FlashOk.j1])
    simp only [spec_FlashOk.l0]
    rw [if_pos (by omega), if_pos (by omega), rdIB_nat, if_neg (by omega)]
theorem iFlashOk_ev (f : List S112) (hn : f.length ≤ 1048576) (hk : ∀ x ∈ f, x.f2.length ≤ 1048576) : Ev (fun k => impl_FlashOk.f k f) (flashB f) := by
  refine ev_outer (L := fun k i => impl_FlashOk.l0 k f (f.length : Int) i f) (n := f.length) (T := fun i => blockB (f.getD i z112)) (fun i r hi hr => ?_) (ev_some fun k => by simp only [impl_FlashOk.l0]; rw [if_neg (by omega), inF_eq]; rfl) f.length 0 (by omega)
  have hb := hk _ (getD_mem' (z := z112) hi)
  unfold blockB
  by_cases h4 : (f.getD i z112).f2.length = 4
  · rw [decide_eq_true h4, Bool.true_and]
    by_cases hw : 0 ≤ (f.getD i z112).f1 ∧ (f.getD i z112).f1 ≤ 1000000000
    · rw [decide_eq_true hw, Bool.true_and]
      have h := ev_scan (L := fun k j => impl_FlashOk.l1 k f (f.length : Int) i (f.getD i z112).f2 ((f.getD i z112).f2.length : Int) j f (f.getD i z112).f0 (f.getD i z112).f1 (f.getD i z112).f2) (n := (f.getD i z112).f2.length) (T := stepB (f.getD i z112).f2) (fun k j hj => iFlash_step k f _ _ f _ _ _ j hj hb)
        (g := fun k => impl_FlashOk.l0 k f (f.length : Int) ((i + 1 : Nat) : Int) f) (fun k => by simp only [impl_FlashOk.l1]; rw [if_neg (by omega), wsucc (n := f.length) hi (by omega)]) hr _ 0 (Nat.zero_add _)
      refine Ev.step (f := fun k => impl_FlashOk.j1 k f (f.length : Int) i false f (f.getD i z112).f0 (f.getD i z112).f1 (f.getD i z112).f2) (fun k => ?_) (Ev.step (fun k => ?_) h)
      · simp only [impl_FlashOk.l0]
        rw [if_pos (by omega), if_pos (by omega), if_pos (by omega), rdIB_nat, if_pos (by omega), inF_eq, decide_eq_true hw]
        rfl
      · simp only [impl_FlashOk.j1]
        rfl
    · rw [decide_eq_false hw, Bool.false_and, Bool.false_and]
      refine Ev.step (f := fun k => impl_FlashOk.j1 k f (f.length : Int) i true f (f.getD i z112).f0 (f.getD i z112).f1 (f.getD i z112).f2) (fun k => ?_) (ev_some fun k => by simp [impl_FlashOk.j1])
      simp only [impl_FlashOk.l0]
      rw [if_pos (by omega), if_pos (by omega), if_pos (by omega), rdIB_nat, if_pos (by omega), inF_eq, decide_eq_false hw]
      rfl
  · rw [decide_eq_false h4, Bool.false_and, Bool.false_and]
    refine Ev.step (f := fun k => impl_FlashOk.j1 k f (f.length : Int) i true f (f.getD i z112).f0 (f.getD i z112).f1 (f.getD i z112).f2) (fun k => ?_) (ev_some fun k => by simp [impl_FlashOk.j1])
    simp only [impl_FlashOk.l0]
    rw [if_pos (by omega), if_pos (by omega), if_pos (by omega), rdIB_nat, if_neg (by omega)]
end Go.Proofs.Ytijbejiajaiciaa.Pu

/- The next blank leaf of a block; the program's and the reference's NextBlank tell it. -/
namespace Go.Proofs.Ytijbejiajaiciaa.Pu
set_option linter.unusedVariables false
set_option linter.unusedSimpArgs false
open Go.RowKit Go.Proofs.Ytijbejiajaiciaa.PC Go.Proofs.YtijbejiajaiciaaW.PrintWords

def blankL (x : S114) : Bool := decide (x.f0 = 0)
def nextB (ls : List S114) : Int := let r := findI (fun i => blankL (ls.getD i z114)) 0 ls.length; if r = -1 then 4 else r
theorem iNext_ev (b : Bool) (n : Int) (ls : List S114) (hn : ls.length ≤ 1048576) : Ev (fun k => impl_NextBlank.f k b n ls) (nextB ls) := by
  have main : ∀ (d i : Nat), i + d = ls.length → Ev (fun k => impl_NextBlank.l0 k ls (ls.length : Int) (i : Int)) (if findI (fun i => blankL (ls.getD i z114)) i d = -1 then 4 else findI (fun i => blankL (ls.getD i z114)) i d) := by
    intro d
    induction d with
    | zero => intro i hi; exact ev_some fun k => by simp only [impl_NextBlank.l0]; rw [if_neg (by omega)]; rfl
    | succ d ih =>
      intro i hi
      unfold findI
      by_cases h : (ls.getD i z114).f0 = 0
      · rw [if_pos (show blankL (ls.getD i z114) = true from decide_eq_true h), if_neg (by omega)]
        refine ev_some fun k => ?_
        simp only [impl_NextBlank.l0]
        rw [if_pos (by omega), if_pos (by omega), if_pos (by omega), rdIL_nat, if_pos h]
      · rw [if_neg (show ¬ blankL (ls.getD i z114) = true by unfold blankL; rw [decide_eq_false h]; decide)]
        refine Ev.step (fun k => ?_) (ih (i + 1) (by omega))
        simp only [impl_NextBlank.l0]
        rw [if_pos (by omega), if_pos (by omega), if_pos (by omega), rdIL_nat, if_neg h, wsucc (n := ls.length) (by omega) (by omega)]
  exact main ls.length 0 (by omega)
theorem sNext_ev (b : Bool) (n : Int) (ls : List S114) (hn : ls.length ≤ 1048576) : Ev (fun k => spec_NextBlank.f k b n ls) (nextB ls) := by
  have main : ∀ (d i : Nat), i + d = ls.length → Ev (fun k => spec_NextBlank.l0 k (i : Int) b n ls) (if findI (fun i => blankL (ls.getD i z114)) i d = -1 then 4 else findI (fun i => blankL (ls.getD i z114)) i d) := by
    intro d
    induction d with
    | zero => intro i hi; exact ev_some fun k => by simp only [spec_NextBlank.l0]; rw [if_neg (by omega)]; rfl
    | succ d ih =>
      intro i hi
      unfold findI
      by_cases h : (ls.getD i z114).f0 = 0
      · rw [if_pos (show blankL (ls.getD i z114) = true from decide_eq_true h), if_neg (by omega)]
        refine ev_some fun k => ?_
        simp only [spec_NextBlank.l0]
        rw [if_pos (by omega), if_pos (by omega), rdIL_nat, if_pos h]
      · rw [if_neg (show ¬ blankL (ls.getD i z114) = true by unfold blankL; rw [decide_eq_false h]; decide)]
        refine Ev.step (fun k => ?_) (ih (i + 1) (by omega))
        simp only [spec_NextBlank.l0]
        rw [if_pos (by omega), if_pos (by omega), rdIL_nat, if_neg h, wsucc (n := ls.length) (by omega) (by omega)]
  exact main ls.length 0 (by omega)
end Go.Proofs.Ytijbejiajaiciaa.Pu

namespace Go.Proofs.Ytijbejiajaiciaa.PC
open Go.RowKit Go.Proofs.YtijbejiajaiciaaW.PrintWords Go.Proofs.YtijbejiajaiciaaW.PrintLast Go.Proofs.YtijbejiajaiciaaW.PrintMore
attribute [local go_sem] max2_int min2_int max_two min_two max_three min_three max_four min_four   -- for this text's walks alone
set_option linter.unusedVariables false
set_option linter.unusedSimpArgs false
def laws_markIntS.l0 : Nat → List Int → Int → Int → Option (Int × List Int)
 | 0,_,_,_=>none
 | k + 1,x0,x1,x5=>if x5 < (x0.length : Int) then (if 0 ≤ x5 then (laws_markIntS.l0 k (x0.set (x5 : Int).toNat x1) (wrap64 (x1 + 1)) (wrap64 (x5 + 1))) else (none)) else (some (x1,x0))
def laws_markIntS.f (k : Nat) (l0 : List Int) (a1 : Int) : Option (Int × List Int):=laws_markIntS.l0 k l0 a1 0
theorem laws_markIntS.mono_l : ∀ k,(∀ y0 y1 y2,LeO (laws_markIntS.l0 k y0 y1 y2) (laws_markIntS.l0 (k + 1) y0 y1 y2))
 | 0=>fun _ _ _ r h=>by simp [laws_markIntS.l0] at h
 | k + 1=>by
  have ih0:=laws_markIntS.mono_l k;intro y0 y1 y2;unfold laws_markIntS.l0
  repeat' first
  | (with_reducible exact ih0 _ _ _)
  | (with_reducible exact LeO.refl _)
  | (with_reducible exact LeO.none _)
  | (with_reducible refine LeO.ite ?_ ?_)
  | (with_reducible refine LeO.bind ?_ (fun _=>?_))
  | exact ih0 _ _ _
  | exact LeO.none _
  | refine LeO.ite ?_ ?_
  | refine LeO.bind ?_ (fun _=>?_)
theorem laws_markIntS.mono : ∀ a0 a1 k,LeO (laws_markIntS.f k a0 a1) (laws_markIntS.f (k + 1) a0 a1):=by
 intro a0 a1 k;have ih0:=laws_markIntS.mono_l k;unfold laws_markIntS.f
 repeat' first
   | (with_reducible exact ih0 _ _ _)
   | (with_reducible exact LeO.refl _)
   | (with_reducible exact LeO.none _)
   | (with_reducible refine LeO.ite ?_ ?_)
   | (with_reducible refine LeO.bind ?_ (fun _=>?_))
   | exact ih0 _ _ _
   | exact LeO.none _
   | refine LeO.ite ?_ ?_
   | refine LeO.bind ?_ (fun _=>?_)
set_option maxHeartbeats 8000000 in
set_option maxRecDepth 100000 in
theorem laws_markIntS.calls (k : Nat) (P0_ : Nat → Prop) (u9000_ : Value) (l0 : List Int) (a1 : Int) (r1 : Int) (r2 : List Int) (w0 w : World) (hB : Below w0.heap.size w0 w) (ho0 : Kd.R (Kd.int .i64) 3 w w0.heap.size P0_ u9000_ l0) (h : laws_markIntS.f k l0 a1 = some (r1,r2)) :
  Calls Try.prog 29 #[u9000_,.int .i64 a1] w fun e w'=>e = .returned (.int .i64 r1) ∧ Kd.R (Kd.int .i64) 3 w' w0.heap.size (fun k_=>(P0_ k_ ∨ w.heap.size ≤ k_)) u9000_ r2 ∧ Below w0.heap.size w0 w' ∧ Kept w w' (fun k_=>P0_ k_):=by
 have HO0:=Aside0.mk (show Kd.R (Kd.int .i64) 3 w w0.heap.size (fun k_=>(P0_ k_ ∨ w.heap.size ≤ k_)) u9000_ l0 from Kd.R_mono ho0 (fun k_ hk=>(.inl hk)));have HK:=Aside0.mk (Kept.refl w (fun k_=>P0_ k_));have HW0:=Aside0.mk hB.size;have HB:=Aside0.mk hB;clear hB;have H : (laws_markIntS.l0 k l0 a1 0) = some (r1,r2):=h;clear h;have H':=Aside0.mk H;clear H
 go_enter Try.func29,Try.ntmps29
 go_wp2
 go_loopg [1,5] k (fun kq v1 v5 w'=>∃ (x0_1 : List Int) (x1_1 : Int) (x5_1 : Int),v1 = .int .i64 x1_1 ∧ v5 = .int .i64 x5_1 ∧ Aside0 (laws_markIntS.l0 kq x0_1 x1_1 x5_1 = some (r1,r2)) ∧ Aside0 (kq ≤ k) ∧ Aside0 (Kd.R (Kd.int .i64) 3 w' w0.heap.size (fun k_=>(P0_ k_ ∨ w.heap.size ≤ k_)) u9000_ x0_1) ∧ Aside0 (Kept w w' (fun k_=>P0_ k_)) ∧ Aside0 (Below w0.heap.size w0 w'));case atStart=>exact ⟨(l0),(a1),(0),(by first | rfl | (simp;done) | (simp [*];done)),(by first | rfl | (simp;done) | (simp [*];done)),H',⟨Nat.le_refl _⟩,⟨rs HO0⟩,⟨by repeat (first | (with_reducible first | exact HK.out | apply Kept.alloc | apply Kept.drewN | apply Kept.drew) | exact HK.out)⟩,⟨hs HB⟩⟩
 case round =>
  clear H'
  try clear c2
  try clear p2
  obtain ⟨x0_1,x1_1,x5_1,rfl,rfl,HA,HK1,HO_0,HK,HB⟩:=hrel;cases gk with
  | zero=>exact absurd HA.out (by simp [laws_markIntS.l0])
  | succ k1 =>
   have H:=HA.out;clear HA;simp only [laws_markIntS.l0] at H
   by_cases c3 : x5_1 < (x0_1.length : Int)
   ·rw [if_pos c3] at H;have c3b0 : decide (x5_1 < (x0_1.length : Int)) = true:=decide_eq_true c3;clear c3
    by_cases c4 : 0 ≤ x5_1
    ·rw [if_pos c4] at H;have c4b0 : decide (0 ≤ x5_1) = true:=decide_eq_true c4;clear c4;obtain ⟨y123,hy123⟩ : ∃ y_ : List Int,y_ = (x0_1.set (x5_1 : Int).toNat x1_1):=⟨_,rfl⟩;replace H : (laws_markIntS.l0 k1 y123 (wrap64 (x1_1 + 1)) (wrap64 (x5_1 + 1))) = some (r1,r2):=by first | (rw [hy123];with_reducible exact H) | (have H2_:=(Option.bind_some _ _).symm.trans H;rw [hy123];with_reducible exact H2_) | (have H2_:=(Option.bind_some _ _).symm.trans H;with_reducible exact H2_) | with_reducible exact H | (rw [hy123];exact H) | exact H
     have Ny123:=Aside0.mk hy123;clear hy123;have H':=Aside0.mk H;clear H;obtain ⟨Ao6,co6,eo6⟩:=Kd.R_slice HO_0.out;subst eo6;have p5 : 0 ≤ (x5_1 : Int):=of_decide_eq_true (by first | (with_reducible assumption) | assumption);have q5 : (x5_1 : Int) < ((x0_1.length : Int) : Int):=of_decide_eq_true (by first | (with_reducible assumption) | assumption);obtain ⟨go5,co5,eo5,gb5,gl5,cl5,HG5⟩:=Kd.R_form HO_0.out (by omega)
     (first | cases eo5 | (injection eo5 with ea_ en_ ec_;(first | subst ea_ | (injection ea_ with ea_;subst ea_));subst ec_;clear en_))
     have GB5:=Aside0.mk gb5;have GG5:=Aside0.mk HG5;clear gb5 gl5 HG5;have HMgo5:=Aside0.mk (show (P0_ go5 ∨ w.heap.size ≤ go5) from (HO_0.out.1 _ rfl));obtain ⟨hx5_0,hf5_0⟩:=Kd.R_celln 0 HO_0.out (x5_1 : Int) p5 q5;replace p5:=eq_true p5;replace q5:=eq_true q5;have HP7:=Kd.R_putg HO_0.out (x5_1 : Int) x1_1;go_wp2_with (first | ((with_reducible refine gate_store (t:=3) (p:=15) rfl ?_);refine store_event (t:=3) (p:=15) (v:=?vo_w8) (w1:=(wr.setCell ⟨go5,(x5_1 : Int).toNat,none⟩ (.int .i64 x1_1))) ?hg ?ho ?hn ?hr ?_;(case ho=>rfl);(case hg=>rfl);(case hn=>rfl);(case hr=>first | (go_simp;done) | (go_simp;rfl));intro w8 hw;have hg : wr.grownBy w8 (some go5):=(by rw [hw];exact HP7.2);have hp_ : Kd.R (Kd.int .i64) 3 w8 w0.heap.size (fun k_=>(P0_ k_ ∨ w.heap.size ≤ k_)) (.slice (some ⟨go5,0,none⟩) x0_1.length co6) y123:=(by rw [hw,Ny123.out];exact HP7.1);clear HP7;have n0_:=Aside0.mk (hp_);have n1_:=Aside0.mk ((by rw [hw];exact below_set (HB.out) GB5.out : Below w0.heap.size w0 w8));have n2_:=Aside0.mk (Kept.of_grown (S:=(fun k_=>P0_ k_)) hg (by repeat (first | (with_reducible first | exact HK.out | apply Kept.alloc | apply Kept.drewN | apply Kept.drew) | exact HK.out)) (fun k_ e_=>(HO_0.out.1 k_ e_)));clear HO_0;clear HB;clear HK;have HO_0:=n0_;have HB:=n1_;have HK:=n2_;clear n0_ n1_ n2_;clear hg hw hp_));go_roundg k1;case measure=>have:=HK1.out;omega
     case rel=>exact ⟨(y123),(wrap64 (x1_1 + 1)),(wrap64 (x5_1 + 1)),(by first | rfl | (simp;done) | (simp [*];done)),(by first | rfl | (simp;done) | (simp [*];done)),H',⟨by have:=HK1.out;omega⟩,⟨rs HO_0⟩,⟨by repeat (first | (with_reducible first | exact HK.out | apply Kept.alloc | apply Kept.drewN | apply Kept.drew) | exact HK.out)⟩,⟨hs HB⟩⟩
    rw [if_neg c4] at H;exact absurd H (by simp)
   rw [if_neg c3] at H;have c3b0 : decide (x5_1 < (x0_1.length : Int)) = false:=decide_eq_false c3;clear c3;simp only [Option.some.injEq,Prod.mk.injEq] at H;obtain ⟨rfl,rfl⟩:=H;obtain ⟨Ao9,co9,eo9⟩:=Kd.R_slice HO_0.out;subst eo9
   go_wp2
   go_ret
   exact ⟨by first | rfl | (simp [errW_none,errW_some] <;> rfl) | (simp [*,errW_none,errW_some] <;> rfl),rs HO_0,hs HB,by repeat (first | (with_reducible first | exact HK.out | apply Kept.alloc | apply Kept.drewN | apply Kept.drew) | exact HK.out)⟩
end Go.Proofs.Ytijbejiajaiciaa.PC

namespace Go.Proofs.Ytijbejiajaiciaa.PC
open Go.RowKit Go.Proofs.YtijbejiajaiciaaW.PrintWords Go.Proofs.YtijbejiajaiciaaW.PrintLast Go.Proofs.YtijbejiajaiciaaW.PrintMore
attribute [local go_sem] max2_int min2_int max_two min_two max_three min_three max_four min_four   -- for this text's walks alone
set_option linter.unusedVariables false
set_option linter.unusedSimpArgs false
def laws_heldIntS.l0 : Nat → List Int → Int → Int → Option (Int)
 | 0,_,_,_=>none
 | k + 1,x0,x1,x5=>if x5 < (x0.length : Int) then (if 0 ≤ x5 then (if (rd x0 x5) = x1 then (laws_heldIntS.l0 k x0 (wrap64 (x1 + 1)) (wrap64 (x5 + 1))) else (some (-1))) else (none)) else (some x1)
def laws_heldIntS.f (k : Nat) (l0 : List Int) (a1 : Int) : Option (Int):=laws_heldIntS.l0 k l0 a1 0
theorem laws_heldIntS.mono_l : ∀ k,(∀ y0 y1 y2,LeO (laws_heldIntS.l0 k y0 y1 y2) (laws_heldIntS.l0 (k + 1) y0 y1 y2))
 | 0=>fun _ _ _ r h=>by simp [laws_heldIntS.l0] at h
 | k + 1=>by
  have ih0:=laws_heldIntS.mono_l k;intro y0 y1 y2;unfold laws_heldIntS.l0
  repeat' first
  | (with_reducible exact ih0 _ _ _)
  | (with_reducible exact LeO.refl _)
  | (with_reducible exact LeO.none _)
  | (with_reducible refine LeO.ite ?_ ?_)
  | (with_reducible refine LeO.bind ?_ (fun _=>?_))
  | exact ih0 _ _ _
  | exact LeO.none _
  | refine LeO.ite ?_ ?_
  | refine LeO.bind ?_ (fun _=>?_)
theorem laws_heldIntS.mono : ∀ a0 a1 k,LeO (laws_heldIntS.f k a0 a1) (laws_heldIntS.f (k + 1) a0 a1):=by
 intro a0 a1 k;have ih0:=laws_heldIntS.mono_l k;unfold laws_heldIntS.f
 repeat' first
   | (with_reducible exact ih0 _ _ _)
   | (with_reducible exact LeO.refl _)
   | (with_reducible exact LeO.none _)
   | (with_reducible refine LeO.ite ?_ ?_)
   | (with_reducible refine LeO.bind ?_ (fun _=>?_))
   | exact ih0 _ _ _
   | exact LeO.none _
   | refine LeO.ite ?_ ?_
   | refine LeO.bind ?_ (fun _=>?_)
set_option maxHeartbeats 8000000 in
set_option maxRecDepth 100000 in
theorem laws_heldIntS.calls (k : Nat) (A0 : Option Addr) (c0 : Nat) (l0 : List Int) (a1 : Int) (r : Int) (w : World) (hr0 : Kd.C (Kd.int .i64) w A0 l0.length l0) (hc0 : l0.length ≤ c0) (h : laws_heldIntS.f k l0 a1 = some r) :
  Calls Try.prog 30 #[.slice A0 l0.length c0,.int .i64 a1] w fun e w'=>e = .returned (.int .i64 r) ∧ Drawn0 w w':=by
 have HR0:=Aside0.mk hr0;have HC0:=Aside0.mk hc0;clear hr0 hc0;have H : (laws_heldIntS.l0 k l0 a1 0) = some r:=h;clear h;have H':=Aside0.mk H;clear H
 go_enter Try.func30,Try.ntmps30
 go_wp2
 go_loopg [1,5] k (fun kq v1 v5 w'=>∃ (x1_1 : Int) (x5_1 : Int),v1 = .int .i64 x1_1 ∧ v5 = .int .i64 x5_1 ∧ Aside0 (laws_heldIntS.l0 kq l0 x1_1 x5_1 = some r) ∧ Aside0 (kq ≤ k) ∧ Drawn0 w w');case atStart=>exact ⟨(a1),(0),(by first | rfl | (simp;done) | (simp [*];done)),(by first | rfl | (simp;done) | (simp [*];done)),H',⟨Nat.le_refl _⟩,by repeat (first | exact Drawn0.refl _ | apply Drawn0.step)⟩
 case round =>
  clear H'
  try clear p2
  obtain ⟨x1_1,x5_1,rfl,rfl,HA,HK1,⟨m1,rfl⟩⟩:=hrel;cases gk with
  | zero=>exact absurd HA.out (by simp [laws_heldIntS.l0])
  | succ k1 =>
   have H:=HA.out;clear HA;simp only [laws_heldIntS.l0] at H
   by_cases c3 : x5_1 < (l0.length : Int)
   ·rw [if_pos c3] at H;have c3b0 : decide (x5_1 < (l0.length : Int)) = true:=decide_eq_true c3;clear c3
    by_cases c4 : 0 ≤ x5_1
    ·rw [if_pos c4] at H;have c4b0 : decide (0 ≤ x5_1) = true:=decide_eq_true c4;clear c4
     by_cases c5 : (rd l0 x5_1) = x1_1
     ·rw [if_pos c5] at H;have c5b0 : ((rd l0 x5_1) == x1_1) = true:=beq_iff_eq.mpr c5;have c5b1 : ((rd l0 x5_1) != x1_1) = false:=bne_eq_false_iff_eq.mpr c5;clear c5;have H':=Aside0.mk H;clear H;have p134 : 0 ≤ (x5_1 : Int):=of_decide_eq_true (by first | (with_reducible assumption) | assumption);have q134 : x5_1 < (l0.length : Int):=of_decide_eq_true (by first | (with_reducible assumption) | assumption);obtain ⟨ad134,e134,hx134_0⟩:=Kd.at_int HR0.out x5_1 p134 q134;cases e134;replace p134:=eq_true p134;replace q134:=eq_true q134
      go_wp2
      go_roundg k1;case measure=>have:=HK1.out;omega
      case rel=>exact ⟨(wrap64 (x1_1 + 1)),(wrap64 (x5_1 + 1)),(by first | rfl | (simp;done) | (simp [*];done)),(by first | rfl | (simp;done) | (simp [*];done)),H',⟨by have:=HK1.out;omega⟩,by repeat (first | exact Drawn0.refl _ | apply Drawn0.step)⟩
     rw [if_neg c5] at H;have c5b0 : ((rd l0 x5_1) == x1_1) = false:=beq_eq_false_iff_ne.mpr c5;have c5b1 : ((rd l0 x5_1) != x1_1) = true:=bne_iff_ne.mpr c5;obtain rfl:=Option.some.inj H;have p134 : 0 ≤ (x5_1 : Int):=of_decide_eq_true (by first | (with_reducible assumption) | assumption);have q134 : x5_1 < (l0.length : Int):=of_decide_eq_true (by first | (with_reducible assumption) | assumption);obtain ⟨ad134,e134,hx134_0⟩:=Kd.at_int HR0.out x5_1 p134 q134;cases e134;replace p134:=eq_true p134;replace q134:=eq_true q134
     go_wp2
     go_ret
     exact ⟨by first | rfl | (simp;done) | (simp [*];done),by repeat (first | exact Drawn0.refl _ | apply Drawn0.step)⟩
    rw [if_neg c4] at H;exact absurd H (by simp)
   rw [if_neg c3] at H;have c3b0 : decide (x5_1 < (l0.length : Int)) = false:=decide_eq_false c3;clear c3;obtain rfl:=Option.some.inj H
   go_wp2
   go_ret
   exact ⟨by first | rfl | (simp;done) | (simp [*];done),by repeat (first | exact Drawn0.refl _ | apply Drawn0.step)⟩
end Go.Proofs.Ytijbejiajaiciaa.PC

/- Marks: what a row's places are marked with is held there again, and the count goes on alike. -/
namespace Go.Proofs.Ytijbejiajaiciaa.Pu
set_option linter.unusedVariables false
set_option linter.unusedSimpArgs false
open Go.RowKit Go.Proofs.Ytijbejiajaiciaa.PC Go.Proofs.YtijbejiajaiciaaW.PrintWords

theorem getD_set_self {α : Type} {xs : List α} {i : Nat} {x z : α} (h : i < xs.length) : (xs.set i x).getD i z = x := by
  rw [List.getD_eq_getElem?_getD, List.getElem?_set_self h]; rfl
theorem getD_set_ne {α : Type} {xs : List α} {i j : Nat} {x z : α} (h : i ≠ j) : (xs.set i x).getD j z = xs.getD j z := by
  rw [List.getD_eq_getElem?_getD, List.getD_eq_getElem?_getD, List.getElem?_set_ne h]
/-- A row that is marked place by place, and held so. -/
theorem ev_mark {α : Type} (z : α) {L : Nat → List α → Int → Int → Option (Int × List α)} {Hd : Nat → List α → Int → Int → Option Int} (E : Nat → α → Int → Option (Int × α)) (G : Nat → α → Int → Option Int) (c : Int) (P : α → Prop)
    (hL : ∀ k (xs : List α) (a : Int) (i : Nat), i < xs.length → 0 ≤ a → a + c ≤ 4611686018427387904 → L (k + 1) xs a (i : Int) = (E k (xs.getD i z) a).bind fun b => L k (xs.set i b.2) b.1 (wrap64 ((i : Int) + 1)))
    (hL0 : ∀ k (xs : List α) (a : Int) (i : Nat), xs.length ≤ i → L (k + 1) xs a (i : Int) = some (a, xs))
    (hH : ∀ k (xs : List α) (a : Int) (i : Nat), i < xs.length → 0 ≤ a → a + c ≤ 4611686018427387904 → Hd (k + 1) xs a (i : Int) = (G k (xs.getD i z) a).bind fun t => if t < 0 then some (-1) else Hd k xs t (wrap64 ((i : Int) + 1)))
    (hH0 : ∀ k (xs : List α) (a : Int) (i : Nat), xs.length ≤ i → Hd (k + 1) xs a (i : Int) = some a)
    (hc : 0 ≤ c)
    (hE : ∀ x a, P x → 0 ≤ a → a + c ≤ 4611686018427387904 → ∃ a' x', Ev (fun k => E k x a) (a', x') ∧ Ev (fun k => G k x' a) a' ∧ a ≤ a' ∧ a' ≤ a + c) :
    ∀ (d i : Nat) (xs : List α) (a : Int), i + d = xs.length → xs.length ≤ 9223372036854775807 → (∀ j, i ≤ j → j < xs.length → P (xs.getD j z)) → 0 ≤ a → a + d * c ≤ 4611686018427387904 →
      ∃ a' xs', xs'.length = xs.length ∧ (∀ j, j < i → xs'.getD j z = xs.getD j z) ∧ Ev (fun k => L k xs a (i : Int)) (a', xs') ∧ Ev (fun k => Hd k xs' a (i : Int)) a' ∧ a ≤ a' ∧ a' ≤ a + d * c := by
  intro d
  induction d with
  | zero =>
    intro i xs a hi hn hP ha hM
    exact ⟨a, xs, rfl, fun _ _ => rfl, ev_some fun k => hL0 k xs a i (by omega), ev_some fun k => hH0 k xs a i (by omega), Int.le_refl _, by simp⟩
  | succ d ih =>
    intro i xs a hi hn hP ha hM
    have hdc : 0 ≤ (d : Int) * c := Int.mul_nonneg (by omega) hc
    have hds : ((d + 1 : Nat) : Int) * c = (d : Int) * c + c := by rw [Int.natCast_add, Int.add_mul]; simp
    rw [hds] at hM
    obtain ⟨a1, x1, hE1, hG1, h1, h2⟩ := hE (xs.getD i z) a (hP i (Nat.le_refl _) (by omega)) ha (by omega)
    have hlen : (xs.set i x1).length = xs.length := List.length_set
    obtain ⟨a', xs', hl', hb', hL', hH', h3, h4⟩ := ih (i + 1) (xs.set i x1) a1 (by rw [hlen]; omega) (by rw [hlen]; exact hn) (fun j hj hj2 => by
      rw [hlen] at hj2
      rw [getD_set_ne (by omega)]
      exact hP j (by omega) hj2) (by omega) (by omega)
    have hxi : xs'.getD i z = x1 := by rw [hb' i (by omega), getD_set_self (by omega)]
    refine ⟨a', xs', by rw [hl', hlen], fun j hj => by rw [hb' j (by omega), getD_set_ne (by omega)], ?_, ?_, by omega, by rw [hds]; omega⟩
    · refine Ev.step (fun k => hL k xs a i (by omega) ha (by omega)) (ev_bind hE1 ?_)
      simp only [wsucc (n := xs.length) (i := i) (by omega) hn]
      exact hL'
    · refine Ev.step (fun k => hH k xs' a i (by rw [hl', hlen]; omega) ha (by omega)) ?_
      rw [hxi]
      refine ev_bind hG1 ?_
      simp only [if_neg (show ¬ a1 < 0 by omega), wsucc (n := xs.length) (i := i) (by omega) hn]
      exact hH'

/-- A row that is marked place by place. -/
theorem ev_mark1 {α : Type} (z : α) {L : Nat → List α → Int → Int → Option (Int × List α)} (E : Nat → α → Int → Option (Int × α)) (c : Int)
    (hL : ∀ k (xs : List α) (a : Int) (i : Nat), i < xs.length → 0 ≤ a → a + c ≤ 4611686018427387904 → L (k + 1) xs a (i : Int) = (E k (xs.getD i z) a).bind fun b => L k (xs.set i b.2) b.1 (wrap64 ((i : Int) + 1)))
    (hL0 : ∀ k (xs : List α) (a : Int) (i : Nat), xs.length ≤ i → L (k + 1) xs a (i : Int) = some (a, xs)) (hc : 0 ≤ c)
    (hE : ∀ x a, 0 ≤ a → a + c ≤ 4611686018427387904 → ∃ a' x', Ev (fun k => E k x a) (a', x') ∧ a ≤ a' ∧ a' ≤ a + c) :
    ∀ (d i : Nat) (xs : List α) (a : Int), i + d = xs.length → xs.length ≤ 9223372036854775807 → 0 ≤ a → a + d * c ≤ 4611686018427387904 →
      ∃ a' xs', Ev (fun k => L k xs a (i : Int)) (a', xs') ∧ a ≤ a' ∧ a' ≤ a + d * c := by
  intro d
  induction d with
  | zero =>
    intro i xs a hi hn ha hM
    exact ⟨a, xs, ev_some fun k => hL0 k xs a i (by omega), Int.le_refl _, by simp⟩
  | succ d ih =>
    intro i xs a hi hn ha hM
    have hdc : 0 ≤ (d : Int) * c := Int.mul_nonneg (by omega) hc
    have hds : ((d + 1 : Nat) : Int) * c = (d : Int) * c + c := by rw [Int.natCast_add, Int.add_mul]; simp
    rw [hds] at hM
    obtain ⟨a1, x1, hE1, h1, h2⟩ := hE (xs.getD i z) a ha (by omega)
    have hlen : (xs.set i x1).length = xs.length := List.length_set
    obtain ⟨a', xs', hL', h3, h4⟩ := ih (i + 1) (xs.set i x1) a1 (by rw [hlen]; omega) (by rw [hlen]; exact hn) (by omega) (by omega)
    refine ⟨a', xs', ?_, by omega, by rw [hds]; omega⟩
    refine Ev.step (fun k => hL k xs a i (by omega) ha (by omega)) (ev_bind hE1 ?_)
    simp only [wsucc (n := xs.length) (i := i) (by omega) hn]
    exact hL'

/-- Whole numbers. -/
theorem mark_int (l : List Int) (a : Int) (hn : (l.length : Int) ≤ 1099511627776) (ha : 0 ≤ a) (hM : a + l.length ≤ 4611686018427387904) :
    ∃ a' l', l'.length = l.length ∧ Ev (fun k => laws_markIntS.f k l a) (a', l') ∧ Ev (fun k => laws_heldIntS.f k l' a) a' ∧ a ≤ a' ∧ a' ≤ a + l.length := by
  obtain ⟨a', l', h1, _, h2, h3, h4, h5⟩ := ev_mark (0 : Int) (L := fun k xs a i => laws_markIntS.l0 k xs a i) (Hd := fun k xs a i => laws_heldIntS.l0 k xs a i)
    (fun _ _ a => some (wrap64 (a + 1), a)) (fun _ x a => if x = a then some (wrap64 (a + 1)) else some (-1)) 1 (fun _ => True)
    (fun k xs a i hi _ _ => by
      simp only [laws_markIntS.l0]
      rw [if_pos (by omega), if_pos (by omega)]
      rfl)
    (fun k xs a i hi => by
      simp only [laws_markIntS.l0]
      rw [if_neg (by omega)])
    (fun k xs a i hi h0 h1 => by
      simp only [laws_heldIntS.l0]
      rw [if_pos (by omega), if_pos (by omega)]
      show (if xs.getD i 0 = a then _ else _) = _
      by_cases h : xs.getD i 0 = a
      · rw [if_pos h, if_pos h, w64 (by omega) (by omega)]
        simp only [Option.bind_some]
        rw [if_neg (by omega)]
      · rw [if_neg h, if_neg h]
        rfl)
    (fun k xs a i hi => by
      simp only [laws_heldIntS.l0]
      rw [if_neg (by omega)])
    (by omega)
    (fun x a _ h0 h1 => ⟨a + 1, a, ev_const (by rw [w64 (by omega) (by omega)]), ev_const (by rw [if_pos rfl, w64 (by omega) (by omega)]), by omega, by omega⟩)
    l.length 0 l a (by omega) (by omega) (fun _ _ _ => trivial) ha (by omega)
  exact ⟨a', l', h1, h2, h3, h4, by omega⟩
end Go.Proofs.Ytijbejiajaiciaa.Pu

/- Steps on a flash: a leaf programmed, a block wiped; the program's and the reference's DoStep and DoSteps do them. -/
namespace Go.Proofs.Ytijbejiajaiciaa.Pu
set_option linter.unusedVariables false
set_option linter.unusedSimpArgs false
open Go.RowKit Go.Proofs.Ytijbejiajaiciaa.PC Go.Proofs.YtijbejiajaiciaaW.PrintWords

theorem dropS {α : Type} {l : List α} {i : Nat} (z : α) (h : i < l.length) : l.drop i = l.getD i z :: l.drop (i + 1) := by
  rw [List.drop_eq_getElem_cons h, List.getD_eq_getElem?_getD, List.getElem?_eq_getElem h]; rfl
theorem iCopyF_ev (f : List S112) (hn : f.length ≤ 1048576) (hk : ∀ x ∈ f, x.f2.length ≤ 1048576) : Ev (fun k => impl_copyFlash.f k f) f := by
  have main : ∀ (d i : Nat) (acc : List S112), i + d = f.length → acc.length = i → Ev (fun k => impl_copyFlash.l0 k f (f.length : Int) (i : Int) acc) (acc ++ f.drop i) := by
    intro d
    induction d with
    | zero => intro i acc hi hl; exact ev_some fun k => by simp only [impl_copyFlash.l0]; rw [if_neg (by omega), List.drop_eq_nil_of_le (by omega), List.append_nil]
    | succ d ih =>
      intro i acc hi hl
      have hm := hk _ (getD_mem' (z := z112) (show i < f.length by omega))
      have h := ih (i + 1) (acc ++ [f.getD i z112]) (by omega) (by rw [List.length_append, hl]; rfl)
      rw [List.append_assoc, List.singleton_append] at h
      rw [dropS z112 (by omega)]
      refine Ev.step (fun k => ?_) h
      simp only [impl_copyFlash.l0]
      rw [if_pos (by omega), if_pos (by omega), if_pos (by omega), rdIB_nat, if_pos (by simp only [List.length_nil]; omega), if_pos (by omega), wsucc (n := f.length) (by omega) (by omega), List.nil_append]
  exact main f.length 0 [] (by omega) rfl
theorem sCopyF_ev (f : List S112) (hn : f.length ≤ 1048576) (hk : ∀ x ∈ f, x.f2.length ≤ 1048576) : Ev (fun k => spec_l05Copy.f k f) f := by
  have main : ∀ (d i : Nat) (acc : List S112), i + d = f.length → acc.length = i → Ev (fun k => spec_l05Copy.l0 k (i : Int) f acc) (acc ++ f.drop i) := by
    intro d
    induction d with
    | zero => intro i acc hi hl; exact ev_some fun k => by simp only [spec_l05Copy.l0]; rw [if_neg (by omega), List.drop_eq_nil_of_le (by omega), List.append_nil]
    | succ d ih =>
      intro i acc hi hl
      have hm := hk _ (getD_mem' (z := z112) (show i < f.length by omega))
      have h := ih (i + 1) (acc ++ [f.getD i z112]) (by omega) (by rw [List.length_append, hl]; rfl)
      rw [List.append_assoc, List.singleton_append] at h
      rw [dropS z112 (by omega)]
      refine Ev.step (fun k => ?_) h
      simp only [spec_l05Copy.l0]
      rw [if_pos (by omega), if_pos (by omega), rdIB_nat]
      simp only [Option.bind_some]
      rw [if_pos (by simp only [List.length_nil]; omega), if_pos (by omega), wsucc (n := f.length) (by omega) (by omega), List.nil_append]
  exact main f.length 0 [] (by omega) rfl
def useB (f : List S112) (b : Int) : Bool := flashB f && (decide (0 ≤ b ∧ b ≤ (f.length : Int) - 1) && !(f.getD b.toNat z112).f0)
theorem rdB_toNat (f : List S112) (b : Int) : rd_T112 f b = f.getD b.toNat z112 := rfl
theorem iUse_ev (f : List S112) (b : Int) (hn : f.length ≤ 1048576) (hk : ∀ x ∈ f, x.f2.length ≤ 1048576) : Ev (fun k => impl_usable.f k f b) (useB f b) := by
  unfold impl_usable.f useB
  refine ev_bind (iFlashOk_ev f hn hk) ?_
  by_cases h : flashB f = true
  · simp only [if_pos h, inF_eq, Option.bind_some, w64 (x := (f.length : Int) - 1) (by omega) (by omega), h, Bool.true_and]
    by_cases h2 : 0 ≤ b ∧ b ≤ (f.length : Int) - 1
    · simp only [decide_eq_true h2, if_true, if_pos h2.1, if_pos (show b < (f.length : Int) by omega), Bool.true_and, rdB_toNat]
      exact Ev.now _
    · simp only [decide_eq_false h2, Bool.false_eq_true, if_false, Bool.false_and]
      exact Ev.now _
  · simp only [if_neg h, Bool.eq_false_iff.mpr h, Bool.false_and]
    exact Ev.now _
def progOk (f : List S112) (b a : Int) (t : ByteArray) : Bool := useB f b && (decide (0 ≤ a ∧ a ≤ 3) && (decide (a = nextB (f.getD b.toNat z112).f2) && decide (1 ≤ (t.size : Int) ∧ (t.size : Int) ≤ 120)))
def progB (f : List S112) (b a : Int) (t : ByteArray) : List S112 := f.set b.toNat ⟨(f.getD b.toNat z112).f0, (f.getD b.toNat z112).f1, (f.getD b.toNat z112).f2.set a.toNat ⟨1, t⟩⟩
def programB (f : List S112) (b a : Int) (t : ByteArray) : List S112 × Bool := if progOk f b a t = true then (progB f b a t, true) else (f, false)
def wipeOk (f : List S112) (b : Int) : Bool := useB f b && !decide ((f.getD b.toNat z112).f1 = 1000000000)
def wipedB (f : List S112) (b : Int) : List S112 := f.set b.toNat ⟨false, wrap64 ((f.getD b.toNat z112).f1 + 1), List.replicate 4 z114⟩
def wipeB (f : List S112) (b : Int) : List S112 × Bool := if wipeOk f b = true then (wipedB f b, true) else (f, false)
theorem use_of {f : List S112} {b : Int} (h : useB f b = true) : flashB f = true ∧ 0 ≤ b ∧ b.toNat < f.length ∧ b < (f.length : Int) ∧ (f.getD b.toNat z112).f0 = false := by
  unfold useB at h
  simp only [Bool.and_eq_true, decide_eq_true_eq, Bool.not_eq_true'] at h
  exact ⟨h.1, h.2.1.1, by omega, by omega, h.2.2⟩
theorem four_of {f : List S112} (h : flashB f = true) {i : Nat} (hi : i < f.length) : (f.getD i z112).f2.length = 4 := by
  unfold flashB at h
  simp only [Bool.and_eq_true, List.all_eq_true] at h
  have := h.1 i (by simp; omega)
  unfold blockB at this
  simp only [Bool.and_eq_true, decide_eq_true_eq] at this
  exact this.1
theorem nextB_range (ls : List S114) : 0 ≤ nextB ls := by
  unfold nextB
  rcases findI_range (T := fun i => blankL (ls.getD i z114)) ls.length 0 with h | ⟨j, _, _, h, _⟩
  · simp only [h]; decide
  · simp only [h]
    rw [if_neg (by omega)]
    omega
theorem iProgram_ev (f : List S112) (b a : Int) (t : ByteArray) (hn : f.length ≤ 1048576) (hk : ∀ x ∈ f, x.f2.length ≤ 1048576) : Ev (fun k => impl_Program.f k f b a t) (programB f b a t) := by
  unfold impl_Program.f programB progOk progB
  refine ev_bind (iCopyF_ev f hn hk) (ev_bind (iUse_ev f b hn hk) ?_)
  by_cases hu : useB f b = true
  · obtain ⟨u1, u2, u3, u4, u5⟩ := use_of hu
    have h4 := four_of u1 u3
    simp only [hu, if_true, inF_eq, Option.bind_some, Bool.true_and]
    by_cases ha : 0 ≤ a ∧ a ≤ 3
    · simp only [decide_eq_true ha, if_true, if_pos u2, if_pos u4, Bool.true_and, rdB_toNat]
      refine ev_bind (iNext_ev _ _ _ (by omega)) ?_
      by_cases hx : a = nextB (f.getD b.toNat z112).f2
      · simp only [if_pos hx, decide_eq_true hx, Bool.true_and]
        by_cases ht : 1 ≤ (t.size : Int) ∧ (t.size : Int) ≤ 120
        · have hlt : a < ((f.getD b.toNat z112).f2.length : Int) := by omega
          simp only [decide_eq_true ht, if_true, if_pos ha.1]
          exact ⟨0, fun k _ => if_pos hlt⟩
        · simp only [decide_eq_false ht, Bool.false_eq_true, if_false]
          exact Ev.now _
      · simp only [if_neg hx, decide_eq_false hx, Bool.false_and, Bool.false_eq_true, if_false]
        exact Ev.now _
    · simp only [decide_eq_false ha, Bool.false_and, Bool.false_eq_true, if_false]
      exact Ev.now _
  · simp only [Bool.eq_false_iff.mpr hu, Bool.false_and, Bool.false_eq_true, if_false]
    exact Ev.now _
theorem sProgram_ev (f : List S112) (b a : Int) (t : ByteArray) (hn : f.length ≤ 1048576) (hk : ∀ x ∈ f, x.f2.length ≤ 1048576) : Ev (fun k => spec_Program.f k f b a t) (programB f b a t) := by
  unfold spec_Program.f programB progOk useB progB
  refine ev_bind (sCopyF_ev f hn hk) (ev_bind (sFlashOk_ev f hn hk) ?_)
  by_cases h : flashB f = true
  · simp only [h, if_true, Bool.true_and]
    unfold spec_l05May.f
    simp only [l01InF_eq, Option.bind_some, w64 (x := (f.length : Int) - 1) (by omega) (by omega), Option.bind_assoc]
    by_cases h2 : 0 ≤ b ∧ b ≤ (f.length : Int) - 1
    · have u3 : b.toNat < f.length := by omega
      have h4 := four_of h u3
      simp only [decide_eq_true h2, if_true, if_pos h2.1, if_pos (show b < (f.length : Int) by omega), Bool.true_and, rdB_toNat]
      by_cases hb : (f.getD b.toNat z112).f0 = true
      · simp only [hb, if_true, Option.bind_some, Bool.false_eq_true, if_false, Bool.not_true, Bool.false_and]
        exact Ev.now _
      · simp only [Bool.eq_false_iff.mpr hb, Bool.false_eq_true, if_false, Bool.not_false, Bool.true_and]
        by_cases ha : a < 4
        · simp only [if_pos ha, Option.bind_assoc]
          refine ev_bind (sNext_ev _ _ _ (by omega)) ?_
          by_cases hx : a = nextB (f.getD b.toNat z112).f2
          · have h0 : 0 ≤ a := by rw [hx]; exact nextB_range _
            simp only [if_pos hx, decide_eq_true hx, decide_eq_true (show 0 ≤ a ∧ a ≤ 3 from ⟨h0, by omega⟩), Bool.true_and, Option.bind_some]
            by_cases ht : 1 ≤ (t.size : Int) ∧ (t.size : Int) ≤ 120
            · simp only [decide_eq_true ht, if_true, if_pos h0, if_pos (show a < ((f.getD b.toNat z112).f2.length : Int) by omega)]
              exact Ev.now _
            · simp only [decide_eq_false ht, Bool.false_eq_true, if_false]
              exact Ev.now _
          · simp only [if_neg hx, decide_eq_false hx, Bool.false_and, Bool.and_false, Bool.false_eq_true, if_false, Option.bind_some]
            exact Ev.now _
        · simp only [if_neg ha, decide_eq_false (show ¬ (0 ≤ a ∧ a ≤ 3) by omega), Bool.false_and, Bool.false_eq_true, if_false, Option.bind_some]
          exact Ev.now _
    · simp only [decide_eq_false h2, Bool.false_and, Bool.false_eq_true, if_false, Option.bind_some]
      exact Ev.now _
  · simp only [Bool.eq_false_iff.mpr h, Bool.false_and, Bool.false_eq_true, if_false]
    exact Ev.now _
theorem blank_eq : impl_blankLeaves.f = some (List.replicate 4 z114) := by unfold impl_blankLeaves.f; rw [if_pos (by omega)]
theorem iWipe_ev (f : List S112) (b : Int) (hn : f.length ≤ 1048576) (hk : ∀ x ∈ f, x.f2.length ≤ 1048576) : Ev (fun k => impl_Wipe.f k f b) (wipeB f b) := by
  unfold impl_Wipe.f wipeB wipeOk wipedB
  refine ev_bind (iCopyF_ev f hn hk) (ev_bind (iUse_ev f b hn hk) ?_)
  by_cases hu : useB f b = true
  · obtain ⟨u1, u2, u3, u4, u5⟩ := use_of hu
    have e1 : ∀ v, rd_T112 (f.set b.toNat v) b = v := fun v => getD_set_self u3
    simp only [hu, if_true, Bool.true_and, if_pos u2, if_pos u4, rdB_toNat]
    by_cases hw : (f.getD b.toNat z112).f1 = 1000000000
    · simp only [if_pos hw, decide_eq_true hw, Bool.not_true, Bool.false_eq_true, if_false]
      exact Ev.now _
    · simp only [if_neg hw, decide_eq_false hw, Bool.not_false, if_true, blank_eq, Option.bind_some]
      simp only [← rdB_toNat, e1, List.set_set]
      rw [rdB_toNat, u5]
      exact Ev.now _
  · simp only [Bool.eq_false_iff.mpr hu, Bool.false_and, Bool.false_eq_true, if_false]
    exact Ev.now _
theorem sWipe_ev (f : List S112) (b : Int) (hn : f.length ≤ 1048576) (hk : ∀ x ∈ f, x.f2.length ≤ 1048576) : Ev (fun k => spec_Wipe.f k f b) (wipeB f b) := by
  unfold spec_Wipe.f wipeB wipeOk wipedB useB
  refine ev_bind (sCopyF_ev f hn hk) (ev_bind (sFlashOk_ev f hn hk) ?_)
  by_cases h : flashB f = true
  · simp only [h, if_true, Bool.true_and, l01InF_eq, Option.bind_some, w64 (x := (f.length : Int) - 1) (by omega) (by omega)]
    by_cases h2 : 0 ≤ b ∧ b ≤ (f.length : Int) - 1
    · simp only [decide_eq_true h2, if_true, if_pos h2.1, if_pos (show b < (f.length : Int) by omega), Bool.true_and, rdB_toNat, if_pos (show 4 ≤ 11728124029610 by omega)]
      by_cases hb : (f.getD b.toNat z112).f0 = true
      · simp only [hb, if_true, Bool.not_true, Bool.false_and, Bool.false_eq_true, if_false]
        exact Ev.now _
      · simp only [Bool.eq_false_iff.mpr hb, Bool.false_eq_true, if_false, Bool.not_false, Bool.true_and]
        by_cases hw : (f.getD b.toNat z112).f1 = 1000000000
        · simp only [if_pos hw, decide_eq_true hw, Bool.not_true, Bool.false_eq_true, if_false]
          exact Ev.now _
        · simp only [if_neg hw, decide_eq_false hw, Bool.not_false, if_true]
          exact Ev.now _
    · simp only [decide_eq_false h2, Bool.false_and, Bool.false_eq_true, if_false]
      exact Ev.now _
  · simp only [Bool.eq_false_iff.mpr h, Bool.false_and, Bool.false_eq_true, if_false]
    exact Ev.now _
/-- A step. -/
def doB (f : List S112) (kd b a : Int) (t : ByteArray) : List S112 × Bool := if kd = 1 then programB f b a t else if kd = 2 then wipeB f b else (f, false)
theorem iDo_ev (f : List S112) (kd b a : Int) (t : ByteArray) (hn : f.length ≤ 1048576) (hk : ∀ x ∈ f, x.f2.length ≤ 1048576) : Ev (fun k => impl_DoStep.f k f kd b a t) (doB f kd b a t) := by
  unfold impl_DoStep.f doB
  by_cases h1 : kd = 1
  · simp only [if_pos h1]
    exact ev_bind (iProgram_ev f b a t hn hk) (Ev.now _)
  · simp only [if_neg h1]
    by_cases h2 : kd = 2
    · simp only [if_pos h2]
      exact ev_bind (iWipe_ev f b hn hk) (Ev.now _)
    · simp only [if_neg h2]
      exact ev_bind (iCopyF_ev f hn hk) (Ev.now _)
theorem sDo_ev (f : List S112) (kd b a : Int) (t : ByteArray) (hn : f.length ≤ 1048576) (hk : ∀ x ∈ f, x.f2.length ≤ 1048576) : Ev (fun k => spec_DoStep.f k f kd b a t) (doB f kd b a t) := by
  unfold spec_DoStep.f doB
  by_cases h1 : kd = 1
  · simp only [if_pos h1]
    exact ev_bind (sProgram_ev f b a t hn hk) (Ev.now _)
  · simp only [if_neg h1]
    by_cases h2 : kd = 2
    · simp only [if_pos h2]
      exact ev_bind (sWipe_ev f b hn hk) (Ev.now _)
    · simp only [if_neg h2]
      exact ev_bind (sCopyF_ev f hn hk) (Ev.now _)
theorem doB_le {f : List S112} (kd b a : Int) (t : ByteArray) (hn : f.length ≤ 1048576) (hk : ∀ x ∈ f, x.f2.length ≤ 1048576) : (doB f kd b a t).1.length ≤ 1048576 ∧ ∀ x ∈ (doB f kd b a t).1, x.f2.length ≤ 1048576 := by
  have hset : ∀ (i : Nat) (x : S112), x.f2.length ≤ 1048576 → (f.set i x).length ≤ 1048576 ∧ ∀ y ∈ f.set i x, y.f2.length ≤ 1048576 := fun i x hx => ⟨by rw [List.length_set]; exact hn, fun y hy => by
    rcases List.mem_or_eq_of_mem_set hy with h | h
    · exact hk y h
    · rw [h]; exact hx⟩
  have hz : ∀ i, (f.getD i z112).f2.length ≤ 1048576 := fun i => by
    by_cases hi : i < f.length
    · exact hk _ (getD_mem' hi)
    · rw [List.getD_eq_getElem?_getD, List.getElem?_eq_none (by omega)]; exact Nat.zero_le _
  unfold doB programB wipeB progB wipedB
  split
  · split
    · exact hset _ _ (by rw [List.length_set]; exact hz _)
    · exact ⟨hn, hk⟩
  · split
    · split
      · exact hset _ _ (by simp)
      · exact ⟨hn, hk⟩
    · exact ⟨hn, hk⟩
theorem rdS_nat (l : List S69) (i : Nat) : rd_T69 l (i : Int) = l.getD i z69 := rfl
/-- Steps, as long as they are done. -/
def runB (L : List S69) : Nat → Nat → List S112 → List S112 × Int
  | 0, _, f => (f, (L.length : Int))
  | d + 1, i, f => if (doB f (L.getD i z69).f0 (L.getD i z69).f1 (L.getD i z69).f2 (L.getD i z69).f3).2 = true then runB L d (i + 1) (doB f (L.getD i z69).f0 (L.getD i z69).f1 (L.getD i z69).f2 (L.getD i z69).f3).1 else (f, (i : Int))
theorem runB_le (L : List S69) : ∀ (d i : Nat) (f : List S112), f.length ≤ 1048576 → (∀ x ∈ f, x.f2.length ≤ 1048576) → (runB L d i f).1.length ≤ 1048576 ∧ ∀ x ∈ (runB L d i f).1, x.f2.length ≤ 1048576
  | 0, _, f, h, hk => ⟨h, hk⟩
  | d + 1, i, f, h, hk => by
    unfold runB
    split
    · have hb := doB_le (L.getD i z69).f0 (L.getD i z69).f1 (L.getD i z69).f2 (L.getD i z69).f3 h hk
      exact runB_le L d (i + 1) _ hb.1 hb.2
    · exact ⟨h, hk⟩
theorem iSteps_ev (f : List S112) (L : List S69) (hn : f.length ≤ 1048576) (hk : ∀ x ∈ f, x.f2.length ≤ 1048576) (hL : L.length ≤ 1048576) : Ev (fun k => impl_DoSteps.f k f L) (runB L L.length 0 f) := by
  have main : ∀ (d i : Nat) (f : List S112), i + d = L.length → f.length ≤ 1048576 → (∀ x ∈ f, x.f2.length ≤ 1048576) → Ev (fun k => impl_DoSteps.l0 k L L (L.length : Int) (i : Int) f) (runB L d i f) := by
    intro d
    induction d with
    | zero => intro i f hi _ _; exact ev_some fun k => by simp only [impl_DoSteps.l0]; rw [if_neg (by omega)]; rfl
    | succ d ih =>
      intro i f hi h hk
      unfold runB
      refine Ev.step (f := fun k => (impl_DoStep.f k f (L.getD i z69).f0 (L.getD i z69).f1 (L.getD i z69).f2 (L.getD i z69).f3).bind fun bt => if bt.2 = true then impl_DoSteps.l0 k L L (L.length : Int) ((i + 1 : Nat) : Int) bt.1 else some (f, (i : Int))) (fun k => ?_) (ev_bind (iDo_ev f _ _ _ _ h hk) ?_)
      · simp only [impl_DoSteps.l0]
        rw [if_pos (by omega), if_pos (by omega), if_pos (by omega), rdS_nat, wsucc (n := L.length) (by omega) (by omega)]
      · have hb := doB_le (L.getD i z69).f0 (L.getD i z69).f1 (L.getD i z69).f2 (L.getD i z69).f3 h hk
        by_cases hd : (doB f (L.getD i z69).f0 (L.getD i z69).f1 (L.getD i z69).f2 (L.getD i z69).f3).2 = true
        · simp only [if_pos hd]
          exact ih (i + 1) _ (by omega) hb.1 hb.2
        · simp only [if_neg hd]
          exact Ev.now _
  unfold impl_DoSteps.f
  exact ev_bind (iCopyF_ev f hn hk) (main L.length 0 f (by omega) hn hk)
theorem sSteps_ev (f : List S112) (L : List S69) (hn : f.length ≤ 1048576) (hk : ∀ x ∈ f, x.f2.length ≤ 1048576) (hL : L.length ≤ 1048576) : Ev (fun k => spec_DoSteps.f k f L) (runB L L.length 0 f) := by
  have main : ∀ (d i : Nat) (f : List S112), i + d = L.length → f.length ≤ 1048576 → (∀ x ∈ f, x.f2.length ≤ 1048576) → Ev (fun k => spec_DoSteps.l0 k L (i : Int) f) (runB L d i f) := by
    intro d
    induction d with
    | zero => intro i f hi _ _; exact ev_some fun k => by simp only [spec_DoSteps.l0]; rw [if_neg (by omega)]; rfl
    | succ d ih =>
      intro i f hi h hk
      unfold runB
      refine Ev.step (f := fun k => (spec_DoStep.f k f (L.getD i z69).f0 (L.getD i z69).f1 (L.getD i z69).f2 (L.getD i z69).f3).bind fun bt => if bt.2 = true then spec_DoSteps.l0 k L ((i + 1 : Nat) : Int) bt.1 else some (f, (i : Int))) (fun k => ?_) (ev_bind (sDo_ev f _ _ _ _ h hk) ?_)
      · simp only [spec_DoSteps.l0]
        rw [if_pos (by omega), if_pos (by omega), rdS_nat, wsucc (n := L.length) (by omega) (by omega)]
      · have hb := doB_le (L.getD i z69).f0 (L.getD i z69).f1 (L.getD i z69).f2 (L.getD i z69).f3 h hk
        by_cases hd : (doB f (L.getD i z69).f0 (L.getD i z69).f1 (L.getD i z69).f2 (L.getD i z69).f3).2 = true
        · simp only [if_pos hd]
          exact ih (i + 1) _ (by omega) hb.1 hb.2
        · simp only [if_neg hd]
          exact Ev.now _
  unfold spec_DoSteps.f
  exact ev_bind (sCopyF_ev f hn hk) (main L.length 0 f (by omega) hn hk)
end Go.Proofs.Ytijbejiajaiciaa.Pu

/- A mark's text. -/
namespace Go.Proofs.Ytijbejiajaiciaa.Pu
set_option linter.unusedVariables false
set_option linter.unusedSimpArgs false
open Go.RowKit Go.Proofs.Ytijbejiajaiciaa.PC Go.Proofs.YtijbejiajaiciaaW.PrintWords

theorem strOne (n : Int) : (strOfNums [n]).size = 1 := by simp [strOfNums, ByteArray.size]
/-- A mark's text is there. -/
theorem markText_ev (n : Int) (h1 : n ≤ 4611686018427387904) : ∃ t, Ev (fun k => laws_markText.f k n) t := by
  by_cases h : n ≤ 0
  · exact ⟨⟨#[109, 48]⟩, by unfold laws_markText.f; simp only [if_pos h]; exact Ev.now _⟩
  · have main : ∀ (d : Nat) (x : Int) (s : ByteArray), 0 ≤ x → x ≤ d → x ≤ 4611686018427387904 → s.size + d ≤ 4611686018427387905 → ∃ t, Ev (fun k => laws_markText.l0 k x s) t := by
      intro d
      induction d using Nat.strongRecOn with
      | _ d ih =>
        intro x s hx hd hx2 hs
        by_cases hz : x > 0
        · have hq : Int.tdiv x 10 = x / 10 := Int.tdiv_eq_ediv_of_nonneg hx
          obtain ⟨t, ht⟩ := ih (d - 1) (by omega) (x / 10) ((strOfNums [(wrap64 (48 + (Int.tmod x 10))) % 256]) ++ s) (by omega) (by omega) (by omega) (by rw [ByteArray.size_append, strOne]; omega)
          refine ⟨t, Ev.step (fun k => ?_) ht⟩
          simp only [laws_markText.l0]
          rw [if_pos hz]
          simp only [Option.bind_some]
          rw [if_pos (by rw [strOne]; omega), hq, w64 (by omega) (by omega)]
        · exact ⟨_, ev_some fun k => by
            simp only [laws_markText.l0]
            rw [if_neg hz, if_pos (by omega)]⟩
    obtain ⟨t, ht⟩ := main n.toNat n ⟨#[]⟩ (by omega) (by omega) h1 (by show 0 + _ ≤ _; omega)
    exact ⟨t, by unfold laws_markText.f; simp only [if_neg h]; exact ht⟩
end Go.Proofs.Ytijbejiajaiciaa.Pu

/- A row of steps as data: what a law on it begins with; its marks. -/
namespace Go.Proofs.Ytijbejiajaiciaa.Pu
set_option linter.unusedVariables false
set_option linter.unusedSimpArgs false
open Go.RowKit Go.Proofs.Ytijbejiajaiciaa.PC Go.Proofs.YtijbejiajaiciaaW.PrintWords

theorem rdLS_nat (l : List S65) (i : Nat) : rd_T65 l (i : Int) = l.getD i z65 := rfl
def toSt (x : S65) : S69 := ⟨x.f0, x.f1, x.f2, x.f3⟩
theorem toStepS_ev (l : List S65) (h : l.length ≤ 1048576) : Ev (fun k => laws_toStepS.f k l) (l.map toSt) := by
  have h1 := ev_fill_all (E := fun _ i => (laws_toStep.f (rd_T65 l i).f0 (rd_T65 l i).f1 (rd_T65 l i).f2 (rd_T65 l i).f3).bind fun bt => some (⟨bt.1, bt.2.1, bt.2.2.1, bt.2.2.2⟩ : S69)) (l := l) (z := z65) (g := toSt) (xs := List.replicate l.length z69) (L := fun k xs i => laws_toStepS.l0 k l xs i) (by omega) (fun k xs i => by
    simp only [laws_toStepS.l0, Option.bind_assoc, Option.bind_some]) (fun i hi => by rw [rdLS_nat]; exact Ev.now _) (by simp)
  refine ev_ext (fun k => ?_) h1
  unfold laws_toStepS.f
  rw [if_pos (by omega), if_pos (by simp; omega)]
  simp
theorem eqStepS_ev (l : List S69) (hn : l.length ≤ 9223372036854775807) : Ev (fun k => laws_eqStepS.f k l l) true := by
  have h1 := ev_all (n := l.length) (m := l.length) (L := fun k i => laws_eqStepS.l0 k l l i) (E := fun _ i => laws_eqStep.f (rd_T69 l i).f0 (rd_T69 l i).f1 (rd_T69 l i).f2 (rd_T69 l i).f3 (rd_T69 l i).f0 (rd_T69 l i).f1 (rd_T69 l i).f2 (rd_T69 l i).f3) hn (Nat.le_refl _) (fun k i => by simp only [laws_eqStepS.l0]) (fun i _ => ev_const (by unfold laws_eqStep.f; simp only [if_true])) l.length 0 (by omega)
  unfold laws_eqStepS.f
  simp only [if_true]
  exact h1
theorem szStep_eq (a b c : Int) (t : ByteArray) (n : Int) (h0 : 0 ≤ n) (h1 : n ≤ 1048576) (hn : t.size ≤ 9223372036854775807) : ∃ r, laws_szStep.f a b c t n = some r ∧ r ≤ n := by
  unfold laws_szStep.f
  rw [w64 (x := n - (t.size : Int)) (by omega) (by omega)]
  by_cases h : n - (t.size : Int) < 0
  · rw [if_pos h]; exact ⟨-1, rfl, by omega⟩
  · rw [if_neg h]; exact ⟨_, rfl, by omega⟩
theorem szStepS_ev (l : List S65) (a : Int) (h0 : 0 ≤ a) (h1 : a ≤ 1048576) (hn : l.length ≤ 9223372036854775807) (hk : ∀ x ∈ l, x.f3.size ≤ 9223372036854775807) :
    ∃ r, Ev (fun k => laws_szStepS.f k l a) r ∧ r ≤ a ∧ (0 ≤ r → (l.length : Int) ≤ a) := by
  by_cases h : a - (l.length : Int) < 0
  · refine ⟨-1, ⟨0, fun k _ => ?_⟩, by omega, fun h2 => by omega⟩
    show laws_szStepS.f k l a = _
    unfold laws_szStepS.f
    rw [w64 (by omega) (by omega), if_pos h]
  · obtain ⟨r, hr, hra, hq⟩ := ev_size (n := l.length) (L := fun k a i => laws_szStepS.l0 k l a i) (E := fun _ i a => laws_szStep.f (rd_T65 l i).f0 (rd_T65 l i).f1 (rd_T65 l i).f2 (rd_T65 l i).f3 a) (P := fun i => True) hn (fun k a i => by simp only [laws_szStepS.l0])
      (fun i a hi h2 h3 => by
        have hm : l.getD i z65 ∈ l := getD_mem' hi
        obtain ⟨t, ht, hta⟩ := szStep_eq (rd_T65 l i).f0 (rd_T65 l i).f1 (rd_T65 l i).f2 (rd_T65 l i).f3 a h2 h3 (by rw [rdLS_nat]; exact hk _ hm)
        exact ⟨t, ev_const ht, hta, fun _ => trivial⟩) l.length 0 (a - (l.length : Int)) (by omega) (by omega) (by omega)
    refine ⟨r, ev_ext (fun k => ?_) hr, by omega, fun h2 => by omega⟩
    unfold laws_szStepS.f
    rw [w64 (by omega) (by omega), if_neg h]; rfl
theorem mark_steps1 (l : List S69) (a : Int) (hn : l.length ≤ 1048576) (ha : 0 ≤ a) (hM : a ≤ 281474976710656) : ∃ a' l', Ev (fun k => laws_markStepS.f k l a) (a', l') ∧ a ≤ a' := by
  obtain ⟨a', l', h1, h2, h3⟩ := ev_mark1 z69 (L := fun k xs a i => laws_markStepS.l0 k xs a i)
    (fun k x a => (laws_markText.f k (wrap64 (wrap64 (wrap64 (a + 1) + 1) + 1))).bind fun t => some (wrap64 (wrap64 (wrap64 (wrap64 (a + 1) + 1) + 1) + 1), (⟨a, wrap64 (a + 1), wrap64 (wrap64 (a + 1) + 1), t⟩ : S69))) 4
    (fun k xs a i hi _ _ => by
      have e1 : ∀ v, rd_T69 (xs.set i v) (i : Int) = v := fun v => getD_set_self hi
      simp only [laws_markStepS.l0]
      rw [if_pos (by omega), if_pos (by omega)]
      simp only [Option.bind_some, Int.toNat_natCast, e1, List.set_set, Option.bind_assoc])
    (fun k xs a i hi => by
      simp only [laws_markStepS.l0]
      rw [if_neg (by omega)])
    (by omega)
    (fun x a h0 h1 => by
      have e1 : wrap64 (wrap64 (wrap64 (a + 1) + 1) + 1) = a + 3 := by rw [w64 (x := a + 1) (by omega) (by omega), w64 (x := a + 1 + 1) (by omega) (by omega), w64 (x := a + 1 + 1 + 1) (by omega) (by omega)]; omega
      have e2 : wrap64 (a + 3 + 1) = a + 4 := by rw [w64 (by omega) (by omega)]; omega
      obtain ⟨t, ht⟩ := markText_ev (a + 3) (by omega)
      refine ⟨a + 4, ⟨a, wrap64 (a + 1), wrap64 (wrap64 (a + 1) + 1), t⟩, ?_, by omega, by omega⟩
      simp only [e1, e2]
      exact ev_bind ht (Ev.now _))
    l.length 0 l a (by omega) (by omega) ha (by omega)
  exact ⟨a', l', h1, h2⟩
end Go.Proofs.Ytijbejiajaiciaa.Pu

/- Marks of a flash. -/
namespace Go.Proofs.Ytijbejiajaiciaa.Pu
set_option linter.unusedVariables false
set_option linter.unusedSimpArgs false
open Go.RowKit Go.Proofs.Ytijbejiajaiciaa.PC Go.Proofs.YtijbejiajaiciaaW.PrintWords

theorem mark_leafs (l : List S114) (a : Int) (hn : l.length ≤ 1048576) (ha : 0 ≤ a) (hM : a + l.length * 2 ≤ 4611686018427387904) :
    ∃ a' l', l'.length = l.length ∧ Ev (fun k => laws_markLeafS.f k l a) (a', l') ∧ Ev (fun k => laws_heldLeafS.f k l' a) a' ∧ a ≤ a' ∧ a' ≤ a + l.length * 2 := by
  obtain ⟨a', l', h1, _, h2, h3, h4, h5⟩ := ev_mark z114 (L := fun k xs a i => laws_markLeafS.l0 k xs a i) (Hd := fun k xs a i => laws_heldLeafS.l0 k xs a i)
    (fun k x a => (laws_markText.f k (wrap64 (a + 1))).bind fun t => some (wrap64 (wrap64 (a + 1) + 1), (⟨a, t⟩ : S114))) (fun k x a => if x.f0 = a then (laws_markText.f k (wrap64 (a + 1))).bind fun t => if x.f1.toList = t.toList then some (wrap64 (wrap64 (a + 1) + 1)) else some (-1) else some (-1)) 2 (fun x => True)
    (fun k xs a i hi _ _ => by
      have e1 : rd_T114 (xs.set i (⟨a, (rd_T114 xs (i : Int)).f1⟩ : S114)) (i : Int) = ⟨a, (rd_T114 xs (i : Int)).f1⟩ := getD_set_self hi
      simp only [laws_markLeafS.l0]
      rw [if_pos (by omega), if_pos (by omega)]
      simp only [Option.bind_some, Int.toNat_natCast, e1, List.set_set, Option.bind_assoc])
    (fun k xs a i hi => by
      simp only [laws_markLeafS.l0]
      rw [if_neg (by omega)])
    (fun k xs a i hi h0 h1 => by
      simp only [laws_heldLeafS.l0]
      rw [if_pos (by omega), if_pos (by omega)]
      show (if (xs.getD i z114).f0 = a then (laws_markText.f k (wrap64 (a + 1))).bind (fun t => if (xs.getD i z114).f1.toList = t.toList then _ else _) else _) = _
      have e2 : wrap64 (wrap64 (a + 1) + 1) = a + 2 := by rw [w64 (x := a + 1) (by omega) (by omega), w64 (by omega) (by omega)]; omega
      by_cases h : (xs.getD i z114).f0 = a
      · simp only [if_pos h, Option.bind_assoc]
        congr 1
        funext t
        by_cases h2 : (xs.getD i z114).f1.toList = t.toList
        · simp only [if_pos h2, e2, Option.bind_some]
          rw [if_neg (by omega)]
        · simp only [if_neg h2, Option.bind_some]
          rw [if_pos (by omega)]
      · simp only [if_neg h, Option.bind_some]
        rw [if_pos (by omega)])
    (fun k xs a i hi => by
      simp only [laws_heldLeafS.l0]
      rw [if_neg (by omega)])
    (by omega)
    (fun x a _ h0 h1 => by
      obtain ⟨t, ht⟩ := markText_ev (a + 1) (by omega)
      have e1 : wrap64 (a + 1) = a + 1 := w64 (by omega) (by omega)
      have e2 : wrap64 (a + 1 + 1) = a + 2 := by rw [w64 (by omega) (by omega)]; omega
      refine ⟨a + 2, ⟨a, t⟩, ?_, ?_, by omega, by omega⟩
      · simp only [e1, e2]
        exact ev_bind ht (Ev.now _)
      · simp only [e1, e2, if_true]
        exact ev_bind ht (by simp only [if_true]; exact Ev.now _))
    l.length 0 l a (by omega) (by omega) (fun _ _ _ => trivial) ha (by omega)
  exact ⟨a', l', h1, h2, h3, h4, h5⟩
theorem mark_blocks (l : List S112) (a : Int) (hn : l.length ≤ 1048576) (hk : ∀ x ∈ l, x.f2.length ≤ 1048576) (ha : 0 ≤ a) (hM : a ≤ 1099511627776) :
    ∃ a' l', l'.length = l.length ∧ Ev (fun k => laws_markBlockS.f k l a) (a', l') ∧ Ev (fun k => laws_heldBlockS.f k l' a) a' ∧ a ≤ a' ∧ a' ≤ a + l.length * 2097154 := by
  obtain ⟨a', l', h1, _, h2, h3, h4, h5⟩ := ev_mark z112 (L := fun k xs a i => laws_markBlockS.l0 k xs a i) (Hd := fun k xs a i => laws_heldBlockS.l0 k xs a i)
    (fun k x a => (laws_markLeafS.f k x.f2 (wrap64 (wrap64 (a + 1) + 1))).bind fun b => some (b.1, (⟨Int.tmod a 3 == 0, wrap64 (a + 1), b.2⟩ : S112))) (fun k x a => if (x.f0 != (Int.tmod a 3 == 0)) = true then some (-1) else if x.f1 = wrap64 (a + 1) then laws_heldLeafS.f k x.f2 (wrap64 (wrap64 (a + 1) + 1)) else some (-1)) 2097154 (fun x => x.f2.length ≤ 1048576)
    (fun k xs a i hi _ _ => by
      have e1 : rd_T112 (xs.set i (⟨Int.tmod a 3 == 0, (rd_T112 xs (i : Int)).f1, (rd_T112 xs (i : Int)).f2⟩ : S112)) (i : Int) = ⟨Int.tmod a 3 == 0, (rd_T112 xs (i : Int)).f1, (rd_T112 xs (i : Int)).f2⟩ := getD_set_self hi
      have e2 : rd_T112 (xs.set i (⟨Int.tmod a 3 == 0, wrap64 (a + 1), (rd_T112 xs (i : Int)).f2⟩ : S112)) (i : Int) = ⟨Int.tmod a 3 == 0, wrap64 (a + 1), (rd_T112 xs (i : Int)).f2⟩ := getD_set_self hi
      simp only [laws_markBlockS.l0]
      rw [if_pos (by omega), if_pos (by omega)]
      simp only [Option.bind_some, Int.toNat_natCast, e1, e2, List.set_set, Option.bind_assoc]
      rfl)
    (fun k xs a i hi => by
      simp only [laws_markBlockS.l0]
      rw [if_neg (by omega)])
    (fun k xs a i hi h0 h1 => by
      simp only [laws_heldBlockS.l0]
      rw [if_pos (by omega), if_pos (by omega)]
      show (if ((xs.getD i z112).f0 != (Int.tmod a 3 == 0)) = true then some (-1) else if (xs.getD i z112).f1 = wrap64 (a + 1) then (laws_heldLeafS.f k (xs.getD i z112).f2 (wrap64 (wrap64 (a + 1) + 1))).bind _ else _) = _
      by_cases h : ((xs.getD i z112).f0 != (Int.tmod a 3 == 0)) = true
      · simp only [if_pos h]; rfl
      · simp only [if_neg h]
        by_cases h2 : (xs.getD i z112).f1 = wrap64 (a + 1)
        · simp only [if_pos h2]
        · simp only [if_neg h2]; rfl)
    (fun k xs a i hi => by
      simp only [laws_heldBlockS.l0]
      rw [if_neg (by omega)])
    (by omega)
    (fun x a hx h0 h1 => by
      obtain ⟨a1, l1, g1, g2, g3, g4, g5⟩ := mark_leafs x.f2 (a + 2) (by omega) (by omega) (by omega)
      have e1 : wrap64 (a + 1) = a + 1 := w64 (by omega) (by omega)
      have e2 : wrap64 (a + 1 + 1) = a + 2 := by rw [w64 (by omega) (by omega)]; omega
      refine ⟨a1, ⟨Int.tmod a 3 == 0, a + 1, l1⟩, ?_, ?_, by omega, by omega⟩
      · simp only [e1, e2]
        exact ev_bind g2 (Ev.now _)
      · simp only [e1, e2, bne_self_eq_false, if_true]
        exact g3)
    l.length 0 l a (by omega) (by omega) (fun j _ hj => hk _ (by rw [List.getD_eq_getElem?_getD, List.getElem?_eq_getElem hj]; exact List.getElem_mem hj)) ha (by omega)
  exact ⟨a', l', h1, h2, h3, h4, h5⟩
theorem mark_flash (l : List S112) (a : Int) (hn : l.length ≤ 1048576) (hk : ∀ x ∈ l, x.f2.length ≤ 1048576) (ha : 0 ≤ a) (hM : a ≤ 1099511627776) :
    ∃ a' l', l'.length = l.length ∧ Ev (fun k => laws_markFlash.f k l a) (a', l') ∧ Ev (fun k => laws_heldFlash.f k l' a) a' ∧ a ≤ a' ∧ a' ≤ a + l.length * 2097154 := by
  obtain ⟨a', l', h1, h2, h3, h4, h5⟩ := mark_blocks l a hn hk ha hM
  refine ⟨a', l', h1, ?_, ?_, h4, h5⟩
  · unfold laws_markFlash.f; exact ev_bind h2 (Ev.now _)
  · unfold laws_heldFlash.f; exact ev_bind h3 (by simp only [if_neg (show ¬ a' < 0 by omega)]; exact Ev.now _)
end Go.Proofs.Ytijbejiajaiciaa.Pu

/- FnExactDoSteps: the program and the reference do steps alike, and the program's result is its own. -/
namespace Go.Proofs.Ytijbejiajaiciaa.Pure
set_option linter.unusedVariables false
set_option linter.unusedSimpArgs false
open Go.RowKit Go.Proofs.Ytijbejiajaiciaa.PC Go.Proofs.YtijbejiajaiciaaW.PrintWords Go.Proofs.Ytijbejiajaiciaa.Pu

theorem FnExactDoSteps : ∀ (l0_0 : List S144) (l1 : List S65), (l0_0.length ≤ maxLen ∧ ∀ x_l0_0 ∈ l0_0, (True ∧ (Lit.int .i64 x_l0_0.f1).wf = true ∧ (x_l0_0.f2.length ≤ maxLen ∧ ∀ x_x_l0_0f2 ∈ x_l0_0.f2, ((Lit.int .i64 x_x_l0_0f2.f0).wf = true ∧ x_x_l0_0f2.f1.size ≤ maxLen)))) → (l1.length ≤ maxLen ∧ ∀ x_l1 ∈ l1, ((Lit.int .i64 x_l1.f0).wf = true ∧ (Lit.int .i64 x_l1.f1).wf = true ∧ (Lit.int .i64 x_l1.f2).wf = true ∧ x_l1.f3.size ≤ maxLen)) → ∃ k, laws_FnExactDoSteps.f k l0_0 l1 = some true := by
  intro l L ⟨hl, hx⟩ ⟨hL, hy⟩
  refine Ev.rounds (g := fun k => laws_FnExactDoSteps.f k l L) ?_
  obtain ⟨r, hr, hq⟩ := flash_start hl (fun x h => ⟨(hx x h).2.2.1, fun y hy => ((hx x h).2.2.2 y hy).2⟩)
  unfold maxLen at hl hx hL hy
  obtain ⟨r', hr', hra, _⟩ := szFlash_ev l 1048576 (by omega) (by omega) (by omega) (fun x h => ⟨by have := (hx x h).2.2.1; omega, fun y hy => by have := ((hx x h).2.2.2 y hy).2; omega⟩)
  obtain rfl := ev_uniq hr hr'
  unfold laws_FnExactDoSteps.f
  refine ev_bind hr ?_
  by_cases h : r < 0
  · simp only [if_pos h]; exact Ev.now _
  simp only [if_neg h]
  obtain ⟨s, hs, hsa, hsq⟩ := szStepS_ev L r (by omega) (by omega) (by omega) (fun x h => by have := (hy x h).2.2.2; omega)
  refine ev_bind hs ?_
  by_cases h2 : s < 0
  · simp only [if_pos h2]; exact Ev.now _
  simp only [if_neg h2]
  have hLn := hsq (by omega)
  have hL2 : L.length ≤ 1048576 := by omega
  have hlm : (L.map toSt).length = L.length := List.length_map _
  obtain ⟨hto, heq, hn, hm⟩ := hq (by omega)
  have hk : ∀ x ∈ toFl l, x.f2.length ≤ 1048576 := fun x hx => (hm x hx).1
  have hts := toStepS_ev L hL2
  have eqs := eqStepS_ev (L.map toSt) (by omega)
  have hsp := sSteps_ev (toFl l) (L.map toSt) hn hk (by omega)
  have him := iSteps_ev (toFl l) (L.map toSt) hn hk (by omega)
  obtain ⟨b1, b2⟩ := runB_le (L.map toSt) (L.map toSt).length 0 (toFl l) hn hk
  revert hsp him b1 b2
  generalize runB (L.map toSt) (L.map toSt).length 0 (toFl l) = P
  intro hsp him b1 b2
  have eqp := eqFlash_ev P.1 b1 b2
  obtain ⟨ka, A', _, hmk, _, hk0, hka⟩ := mark_flash (toFl l) 1 hn hk (by omega) (by omega)
  obtain ⟨kb, B', hmb, hkb⟩ := mark_steps1 (L.map toSt) ka (by omega) (by omega) (by omega)
  obtain ⟨m, g', _, hm1, hm2, hm0, _⟩ := mark_flash P.1 1 b1 b2 (by omega) (by omega)
  refine ev_bind hto (ev_bind hts (ev_bind hsp (ev_bind hto (ev_bind hts (ev_bind him (ev_bind eqp ?_))))))
  simp only [if_true]
  refine ev_bind hto (ev_bind heq ?_)
  simp only [if_true]
  refine ev_bind hts (ev_bind eqs ?_)
  simp only [if_true]
  refine ev_bind hmk (ev_bind hmb (ev_bind eqp ?_))
  simp only [if_true, if_neg (show ¬ kb < 0 by omega)]
  refine ev_bind hm1 (ev_bind hm2 ?_)
  simp only [if_true, if_neg (show ¬ m < 0 by omega)]
  refine ev_bind hto (ev_bind hts (ev_bind him (ev_bind eqp ?_)))
  simp only [if_true]
  refine ev_bind hm2 ?_
  simp only [if_true, if_neg (show ¬ m < 0 by omega)]
  exact Ev.now _
end Go.Proofs.Ytijbejiajaiciaa.Pure

/- FnExactDoSteps: whatever the input, the law returns true, and its arguments read as they did. The row, out of the law's own walk and the pure statement. -/
namespace Go.Proofs.Ytijbejiajaiciaa.fnExactDoSteps
open Go.ChangeShapes Go.WideShapes Go.ChangeAt Go.RowKit Go.Proofs.Ytijbejiajaiciaa.Open Go.Proofs.YtijbejiajaiciaaW.PrintWords Go.Proofs.Ytijbejiajaiciaa.PC
open Go.ChangeMaps (open_string shut_string)
theorem own : ownKnob Try.prog.godebug = none := by kernel_rfl
theorem laidOut : laidOutB Try.prog = true := by kernel_rfl
set_option maxRecDepth 100000 in
theorem o163 : Opn Try.prog 163 k163 (fun x => ((Lit.int .i64 x.f0).wf = true ∧ x.f1.size ≤ maxLen)) := opn_struct (d := (Kd.pair (Kd.int .i64) Kd.string)) (wf := fun (y : Int × ByteArray) => ((Lit.int .i64 y.1).wf = true ∧ y.2.size ≤ maxLen)) (fun x : S163 => (x.f0, x.f1)) (fun y => (⟨y.1, y.2⟩ : S163)) (fun _ => rfl) Try.underlying163 (by kernel_rfl) (opnF_cons rfl (by kernel_rfl) (opn_int Try.underlying3) (opnF_one rfl (by kernel_rfl) (opn_string Try.underlying9)))
set_option maxRecDepth 100000 in
theorem o144 : Opn Try.prog 144 k144 (fun x => (True ∧ (Lit.int .i64 x.f1).wf = true ∧ (x.f2.length ≤ maxLen ∧ ∀ x_xf2 ∈ x.f2, ((Lit.int .i64 x_xf2.f0).wf = true ∧ x_xf2.f1.size ≤ maxLen)))) := opn_struct (d := (Kd.pair Kd.bool (Kd.pair (Kd.int .i64) (Kd.slice 163 k163)))) (wf := fun (y : Bool × Int × (List S163)) => (True ∧ ((Lit.int .i64 y.2.1).wf = true ∧ (y.2.2.length ≤ maxLen ∧ ∀ x_y22 ∈ y.2.2, ((Lit.int .i64 x_y22.f0).wf = true ∧ x_y22.f1.size ≤ maxLen))))) (fun x : S144 => (x.f0, x.f1, x.f2)) (fun y => (⟨y.1, y.2.1, y.2.2⟩ : S144)) (fun _ => rfl) Try.underlying144 (by kernel_rfl) (opnF_cons rfl (by kernel_rfl) (opn_bool Try.underlying4) (opnF_cons rfl (by kernel_rfl) (opn_int Try.underlying3) (opnF_one rfl (by kernel_rfl) (opn_slice Try.underlying142 (by kernel_rfl) o163))))
set_option maxRecDepth 100000 in
theorem p54 : Opn Try.prog 54 (Kd.slice 144 k144) (fun (y : (List S144)) => (y.length ≤ maxLen ∧ ∀ x_y ∈ y, (True ∧ (Lit.int .i64 x_y.f1).wf = true ∧ (x_y.f2.length ≤ maxLen ∧ ∀ x_x_yf2 ∈ x_y.f2, ((Lit.int .i64 x_x_yf2.f0).wf = true ∧ x_x_yf2.f1.size ≤ maxLen))))) := opn_tuple Try.underlying54 (by kernel_rfl) (opnF_one rfl (by kernel_rfl) (opn_slice Try.underlying52 (by kernel_rfl) o144))
set_option maxRecDepth 100000 in
theorem o65 : Opn Try.prog 65 k65 (fun x => ((Lit.int .i64 x.f0).wf = true ∧ (Lit.int .i64 x.f1).wf = true ∧ (Lit.int .i64 x.f2).wf = true ∧ x.f3.size ≤ maxLen)) := opn_struct (d := (Kd.pair (Kd.int .i64) (Kd.pair (Kd.int .i64) (Kd.pair (Kd.int .i64) Kd.string)))) (wf := fun (y : Int × Int × Int × ByteArray) => ((Lit.int .i64 y.1).wf = true ∧ ((Lit.int .i64 y.2.1).wf = true ∧ ((Lit.int .i64 y.2.2.1).wf = true ∧ y.2.2.2.size ≤ maxLen)))) (fun x : S65 => (x.f0, x.f1, x.f2, x.f3)) (fun y => (⟨y.1, y.2.1, y.2.2.1, y.2.2.2⟩ : S65)) (fun _ => rfl) Try.underlying65 (by kernel_rfl) (opnF_cons rfl (by kernel_rfl) (opn_int Try.underlying3) (opnF_cons rfl (by kernel_rfl) (opn_int Try.underlying3) (opnF_cons rfl (by kernel_rfl) (opn_int Try.underlying3) (opnF_one rfl (by kernel_rfl) (opn_string Try.underlying9)))))
set_option maxRecDepth 100000 in
set_option maxHeartbeats 4000000 in
theorem lifted (os : Os) (started : os.Started) (H : Type) (enc : TypeId × Value → H) :
    ReturnsInHanded {} Try.checked os 9 .any (Rows.fnExactDoStepsSpec.pre6 enc Try.prog Try.f9 Rows.fnExactDoStepsRow.domain false) (Rows.fnExactDoStepsSpec.post enc Try.prog Try.f9 false true false false) := by
  refine returnsInHanded_of_change_sized (C := Try.checked) own started (by kernel_rfl) Try.func9
    (ChangeSpec.witness6 (enc := enc) (C := Try.checked) false ⟨#[], #[.agg #[.slice none 0 0], .slice none 0 0], []⟩ 8 (by kernel_rfl) (by kernel_rfl) (by kernel_rfl) (by kernel_rfl)) ?_
  intro W base args ds gs before hval0 hW hcnd hsz0 _
  have hval : ∀ (j : Nat) t v, Try.f9.params[j]? = some t → args[j]? = some v → Value.okWide Try.prog W .any base t v := hval0
  have hW' := hW
  obtain ⟨p, q, hA0, hV, rfl, hfz, hnd⟩ := hW
  have hA : DataW.TrodAll enc Try.prog W 0 (fun _ => true) true Try.f9.params.toList args.toList ds p := hA0
  rw [Try.params9] at hA hval
  obtain ⟨v0, vs0, d0, ds0, p0, q0, hargs, rfl, rfl, h0, r0⟩ := trodAll_cons hA
  obtain ⟨v1, vs1, d1, ds1, p1, q1, rfl, rfl, rfl, h1, r1⟩ := trodAll_cons r0
  obtain ⟨rfl, rfl, rfl⟩ := trodAll_nil r1
  obtain rfl : args = #[v0, v1] := by cases args; simp_all
  obtain ⟨rfl, rfl⟩ := trodVars_none hV
  have k0 := h0
  have lt0 : ∀ x ∈ p0, x.block < W.heap.size := by obtain ⟨m, hm⟩ := k0; exact DataW.trod_lt m _ _ _ hm
  obtain ⟨fu0, hf0⟩ := h0
  obtain ⟨y0, K0, Y0⟩ := p54 H enc W 0 (fun _ => true) true fu0 _ _ hf0
  obtain ⟨cs0, rfl, sz0⟩ := okWide_struct Try.underlying54 (hval 0 54 v0 rfl rfl)
  obtain ⟨Ac0, Cc0, Ec0, Lc0, Gc0⟩ := K0
  have E0 : cs0 = #[.slice Ac0 y0.length Cc0] := by
    apply Array.toList_inj.1
    have z : cs0.toList = _ := Ec0
    exact z
  subst E0
  have k1 := h1
  have lt1 : ∀ x ∈ p1, x.block < W.heap.size := by obtain ⟨m, hm⟩ := k1; exact DataW.trod_lt m _ _ _ hm
  obtain ⟨fu1, hf1⟩ := h1
  obtain ⟨y1, K1, Y1⟩ := (opn_slice Try.underlying82 (by kernel_rfl) o65) H enc W 0 (fun _ => true) true fu1 _ _ hf1
  obtain ⟨a1, len1, cap1, rfl⟩ := okWide_slice Try.underlying82 (hval 1 82 v1 rfl rfl)
  obtain ⟨Ac1, Cc1, Ec1, Lc1, Gc1⟩ := K1
  have es1 : a1 = Ac1 ∧ len1 = y1.length ∧ cap1 = Cc1 := by simpa [Value.cells] using Ec1
  obtain ⟨rfl, rfl, rfl⟩ : Ac1 = a1 ∧ y1.length = len1 ∧ Cc1 = cap1 := ⟨es1.1.symm, es1.2.1.symm, es1.2.2.symm⟩
  clear es1
  obtain ⟨k, hp⟩ := Pure.FnExactDoSteps y0 y1 Y0 Y1
  clear hA0 hval0 hsz0
  refine (laws_FnExactDoSteps.calls k Ac0 Cc0 y0 Ac1 Cc1 y1 true ⟨rfl⟩ W Gc0 Lc0 Gc1 Lc1 hp).mono fun e W' ⟨he, bel0⟩ => ?_
  have bel : Below W.heap.size W W' := bel0
  subst he
  exact ⟨_, rfl, _, _, _, [], _, [], hW', trodAll_mk1 (shut_bool Try.underlying4 _), (trodAll_cons_mk (Below.trod laidOut (by kernel_rfl) (of_decide_eq_true (by kernel_rfl)) k0 bel lt0) (trodAll_cons_mk (Below.trod laidOut (by kernel_rfl) (of_decide_eq_true (by kernel_rfl)) k1 bel lt1) trodAll_mk0)), rfl, bel.frame _, fun h => by cases h⟩
theorem over : Rows.fnExactDoStepsRow.holds Try.pinned (OpenSpec.ofChange Rows.fnExactDoStepsSpec) :=
  OpenClaim.holds_of_wide 9 Try.f9 rfl rfl rfl rfl rfl rfl rfl ⟨rfl, rfl, rfl, rfl, rfl⟩ rfl rfl rfl rfl rfl (by kernel_rfl) Try.func9 (by kernel_rfl)
    (of_decide_eq_true (by kernel_rfl)) (by unfold Func.isWrapper; first | (rw [if_pos (by decide +kernel)]; kernel_rfl) | (rw [if_neg (by decide +kernel)]; exact ⟨rfl, rfl⟩))
    (fun os started H enc _ => lifted os started H enc)
theorem proved : Rows.FnExactDoStepsSaid := over
#print axioms proved
end Go.Proofs.Ytijbejiajaiciaa.fnExactDoSteps
namespace Go.Proofs.Ytijbejiajaiciaa
/-- The row, under a short name, for the claim. -/
theorem fnExactDoSteps_holds : Rows.FnExactDoStepsSaid := fnExactDoSteps.proved
end Go.Proofs.Ytijbejiajaiciaa
