/- FnExactLiveOf: functions of the translation as Lean functions with what their calls come to, plain lemmas on them, and, at the end, the row. Parts of one proof, merged by a program of this session; each part's own sentence stands at its head. -/
import Derived.ChangeArms
import Derived.DataReads
import Derived.Test.YtklkhnomnanpoaaRows
import Derived.WalkKit
import Derived.ProofKit
import Derived.OpenShut
import Derived.ShutString
import Derived.ChangeOld
import Derived.Below
import Derived.SizedLaws
import Derived.Test.YtklkhnomnanpoaaMFnExactLiveOfb
set_option linter.unusedSimpArgs false
set_option linter.unusedVariables false
namespace Go.Proofs.Ytklkhnomnanpoaa.PK
open Go.RowKit Go.Proofs.YtklkhnomnanpoaaW.PrintWords Go.Proofs.YtklkhnomnanpoaaW.PrintLast Go.Proofs.YtklkhnomnanpoaaW.PrintMore
attribute [local go_sem] max2_int min2_int max_two min_two max_three min_three max_four min_four
def laws_FnExactLiveOf.f (k : Nat) (l0_0 : List (S121)) (l0_1 : List (S144)) (a0_2 : Int) : Option (Bool):=((laws_szStore.f k l0_0 l0_1 a0_2 1048576).bind fun t3=>(if t3 < 0 then (some true) else ((laws_toStore.f k l0_0 l0_1 a0_2).bind fun b2=>((spec_LiveOf.f k b2.1 b2.2.1 b2.2.2).bind fun t11=>((laws_toStore.f k l0_0 l0_1 a0_2).bind fun b4=>((impl_LiveOf.f k b4.1 b4.2.1 b4.2.2).bind fun t21=>((laws_eqIntS.f k t21 t11).bind fun t24=>(if t24 = true then ((laws_toStore.f k l0_0 l0_1 a0_2).bind fun b8=>((laws_eqStore.f k b4.1 b4.2.1 b4.2.2 b8.1 b8.2.1 b8.2.2).bind fun t32=>(if t32 = true then ((laws_markStore.f k b4.1 b4.2.1 b4.2.2 1).bind fun b11=>((laws_eqIntS.f k t21 t11).bind fun t38=>(if t38 = true then (if b11.1 < 0 then (some false) else ((laws_markIntS.f k t21 1).bind fun b15=>((laws_heldIntS.f k b15.2 1).bind fun t43=>(if t43 < 0 then (some false) else (if t43 = b15.1 then ((laws_toStore.f k l0_0 l0_1 a0_2).bind fun b19=>((impl_LiveOf.f k b19.1 b19.2.1 b19.2.2).bind fun t51=>((laws_eqIntS.f k t51 t11).bind fun t54=>(if t54 = true then ((laws_heldIntS.f k b15.2 1).bind fun t56=>(if t56 < 0 then (some false) else (if t56 = b15.1 then (some true) else (some false)))) else (some false))))) else (some false)))))) else (some false)))) else (some false)))) else (some false)))))))))
theorem laws_FnExactLiveOf.mono : ∀ a0 a1 a2 k,LeO (laws_FnExactLiveOf.f k a0 a1 a2) (laws_FnExactLiveOf.f (k + 1) a0 a1 a2):=by
 intro a0 a1 a2 k;unfold laws_FnExactLiveOf.f
 repeat' first
   | (with_reducible exact impl_LiveOf.mono _ _ _ _)
   | (with_reducible exact laws_eqIntS.mono _ _ _)
   | (with_reducible exact laws_eqStore.mono _ _ _ _ _ _ _)
   | (with_reducible exact laws_heldIntS.mono _ _ _)
   | (with_reducible exact laws_markIntS.mono _ _ _)
   | (with_reducible exact laws_markStore.mono _ _ _ _ _)
   | (with_reducible exact laws_szStore.mono _ _ _ _ _)
   | (with_reducible exact laws_toStore.mono _ _ _ _)
   | (with_reducible exact spec_LiveOf.mono _ _ _ _)
   | (with_reducible exact LeO.refl _)
   | (with_reducible exact LeO.none _)
   | (with_reducible refine LeO.ite ?_ ?_)
   | (with_reducible refine LeO.bind ?_ (fun _=>?_))
   | exact impl_LiveOf.mono _ _ _ _
   | exact laws_eqIntS.mono _ _ _
   | exact laws_eqStore.mono _ _ _ _ _ _ _
   | exact laws_heldIntS.mono _ _ _
   | exact laws_markIntS.mono _ _ _
   | exact laws_markStore.mono _ _ _ _ _
   | exact laws_szStore.mono _ _ _ _ _
   | exact laws_toStore.mono _ _ _ _
   | exact spec_LiveOf.mono _ _ _ _
   | exact LeO.none _
   | refine LeO.ite ?_ ?_
   | refine LeO.bind ?_ (fun _=>?_)
set_option maxHeartbeats 8000000 in
set_option maxRecDepth 100000 in
theorem laws_FnExactLiveOf.calls (k : Nat) (A0_0 : Option Addr) (c0_0 : Nat) (l0_0 : List (S121)) (A0_1 : Option Addr) (c0_1 : Nat) (l0_1 : List (S144)) (a0_2 : Int) (r : Bool) (hT : Aside0 (r = true)) (w : World) (hr0_0 : Kd.C k121 w A0_0 l0_0.length l0_0) (hc0_0 : l0_0.length ≤ c0_0) (hr0_1 : Kd.C k144 w A0_1 l0_1.length l0_1) (hc0_1 : l0_1.length ≤ c0_1) (h : laws_FnExactLiveOf.f k l0_0 l0_1 a0_2 = some r) :
  Calls Try.prog 3 #[.agg #[.slice A0_0 l0_0.length c0_0,.slice A0_1 l0_1.length c0_1,.int .i64 a0_2]] w fun e w'=>e = .returned (.bool r) ∧ Below w.heap.size w w':=by
 have HR0_0:=zMk hr0_0;have HC0_0:=zMk hc0_0;clear hr0_0 hc0_0;have HR0_1:=zMk hr0_1;have HC0_1:=zMk hc0_1;clear hr0_1 hc0_1;have HB:=zMk (Below.refl w.heap.size w);have HL:=zMk (Nat.le_refl w.heap.size);have H : ((laws_szStore.f k l0_0 l0_1 a0_2 1048576).bind fun t3=>(if t3 < 0 then (some true) else ((laws_toStore.f k l0_0 l0_1 a0_2).bind fun b2=>((spec_LiveOf.f k b2.1 b2.2.1 b2.2.2).bind fun t11=>((laws_toStore.f k l0_0 l0_1 a0_2).bind fun b4=>((impl_LiveOf.f k b4.1 b4.2.1 b4.2.2).bind fun t21=>((laws_eqIntS.f k t21 t11).bind fun t24=>(if t24 = true then ((laws_toStore.f k l0_0 l0_1 a0_2).bind fun b8=>((laws_eqStore.f k b4.1 b4.2.1 b4.2.2 b8.1 b8.2.1 b8.2.2).bind fun t32=>(if t32 = true then ((laws_markStore.f k b4.1 b4.2.1 b4.2.2 1).bind fun b11=>((laws_eqIntS.f k t21 t11).bind fun t38=>(if t38 = true then (if b11.1 < 0 then (some false) else ((laws_markIntS.f k t21 1).bind fun b15=>((laws_heldIntS.f k b15.2 1).bind fun t43=>(if t43 < 0 then (some false) else (if t43 = b15.1 then ((laws_toStore.f k l0_0 l0_1 a0_2).bind fun b19=>((impl_LiveOf.f k b19.1 b19.2.1 b19.2.2).bind fun t51=>((laws_eqIntS.f k t51 t11).bind fun t54=>(if t54 = true then ((laws_heldIntS.f k b15.2 1).bind fun t56=>(if t56 < 0 then (some false) else (if t56 = b15.1 then (some true) else (some false)))) else (some false))))) else (some false)))))) else (some false)))) else (some false)))) else (some false))))))))) = some r:=h;clear h;replace H:=Option.bind_eq_some_iff.mp H;obtain ⟨t3,Fa00,H⟩:=H;replace H : (if t3 < 0 then (some true) else ((laws_toStore.f k l0_0 l0_1 a0_2).bind fun b2=>((spec_LiveOf.f k b2.1 b2.2.1 b2.2.2).bind fun t11=>((laws_toStore.f k l0_0 l0_1 a0_2).bind fun b4=>((impl_LiveOf.f k b4.1 b4.2.1 b4.2.2).bind fun t21=>((laws_eqIntS.f k t21 t11).bind fun t24=>(if t24 = true then ((laws_toStore.f k l0_0 l0_1 a0_2).bind fun b8=>((laws_eqStore.f k b4.1 b4.2.1 b4.2.2 b8.1 b8.2.1 b8.2.2).bind fun t32=>(if t32 = true then ((laws_markStore.f k b4.1 b4.2.1 b4.2.2 1).bind fun b11=>((laws_eqIntS.f k t21 t11).bind fun t38=>(if t38 = true then (if b11.1 < 0 then (some false) else ((laws_markIntS.f k t21 1).bind fun b15=>((laws_heldIntS.f k b15.2 1).bind fun t43=>(if t43 < 0 then (some false) else (if t43 = b15.1 then ((laws_toStore.f k l0_0 l0_1 a0_2).bind fun b19=>((impl_LiveOf.f k b19.1 b19.2.1 b19.2.2).bind fun t51=>((laws_eqIntS.f k t51 t11).bind fun t54=>(if t54 = true then ((laws_heldIntS.f k b15.2 1).bind fun t56=>(if t56 < 0 then (some false) else (if t56 = b15.1 then (some true) else (some false)))) else (some false))))) else (some false)))))) else (some false)))) else (some false)))) else (some false)))))))) = some r:=H;have Fa0:=zMk Fa00;clear Fa00
 by_cases cd1 : t3 < 0
 ·rw [if_pos cd1] at H;have cd1b0 : decide (t3 < 0) = true:=decide_eq_true cd1;clear cd1;obtain rfl:=Option.some.inj H
  go_enter Try.func3,Try.ntmps3
  go_wp2_with (first | ((with_reducible refine gate_dst (N:=1) rfl ?_);refine box_event ?hg (N:=1) ?hd (cs:=#[.slice A0_0 l0_0.length c0_0,.slice A0_1 l0_1.length c0_1,.int .i64 a0_2]) (t:=27) ?hr ?_;(case hd=>rfl);(case hg=>rfl);(case hr=>first | (go_simp;done) | (go_simp;rfl));intro gb1 hg w1 hbox hb;have GBK1:=zMk (show gb1 = w.heap.size ∧ gb1 < w1.heap.size from ⟨hg,blk_lt hbox⟩);have GW1:=zMk (show w.heap.size ≤ gb1 by have q_:=below_size HB.out;rw [hg];exact q_);have BK1:=zMk hbox;replace HB:=zMk (below_step HB.out hb);replace HL:=zMk (And.intro HL.out (below_size hb));clear hb hbox hg;have hcz2 : w1.cell? ⟨gb1,0,none⟩ = some (.slice A0_0 l0_0.length c0_0):=(zCl BK1.out 0).trans rfl;have hfz3:=zFr BK1.out 0;have hcz4 : w1.cell? ⟨gb1,1,none⟩ = some (.slice A0_1 l0_1.length c0_1):=(zCl BK1.out 1).trans rfl;have hfz5:=zFr BK1.out 1;have hcz6 : w1.cell? ⟨gb1,2,none⟩ = some (.int .i64 a0_2):=(zCl BK1.out 2).trans rfl;have hfz7:=zFr BK1.out 2) | ((with_reducible refine gate_callee (f:=8) rfl ?_);refine goesL_ (some 13) rfl rfl Try.func8 (by kernel_rfl) rfl #[.agg #[.slice A0_0 l0_0.length c0_0,.slice A0_1 l0_1.length c0_1,.int .i64 a0_2],.int .i64 1048576] rfl (by (try simp only [List.map_toArray,List.map_cons,List.map_nil]);first | done | rfl | (simp only [List.length_drop,List.length_take];rfl)) ?_;(with_reducible refine (laws_szStore.calls k _ _ l0_0 _ _ l0_1 a0_2 1048576 t3 _ ?side1 ?side2 ?side3 ?side4 Fa0.out).mono ?_);(case side1=>exact Kd.C_below HR0_0.out HB.out);(case side2=>exact HC0_0.out);(case side3=>exact Kd.C_below HR0_1.out HB.out);(case side4=>exact HC0_1.out);rintro e w8 ⟨rfl,hb⟩;refine ⟨_,rfl,?_⟩;replace BK1:=zMk (blk_below BK1.out hb);replace HB:=zMk (below_step HB.out hb);replace HL:=zMk (And.intro HL.out (below_size hb));clear hb;clear hcz2 hfz3 hcz4 hfz5 hcz6 hfz7;have hcz9 : w8.cell? ⟨gb1,0,none⟩ = some (.slice A0_0 l0_0.length c0_0):=(zCl BK1.out 0).trans rfl;have hfz10:=zFr BK1.out 0;have hcz11 : w8.cell? ⟨gb1,1,none⟩ = some (.slice A0_1 l0_1.length c0_1):=(zCl BK1.out 1).trans rfl;have hfz12:=zFr BK1.out 1;have hcz13 : w8.cell? ⟨gb1,2,none⟩ = some (.int .i64 a0_2):=(zCl BK1.out 2).trans rfl;have hfz14:=zFr BK1.out 2))
  go_ret
  exact ⟨rfl,HB.out⟩
 rw [if_neg cd1] at H;have cd1b0 : decide (t3 < 0) = false:=decide_eq_false cd1;clear cd1;replace H:=Option.bind_eq_some_iff.mp H;obtain ⟨⟨t5,t6,t7⟩,Fa20,H⟩:=H;replace H : ((spec_LiveOf.f k t5 t6 t7).bind fun t11=>((laws_toStore.f k l0_0 l0_1 a0_2).bind fun b4=>((impl_LiveOf.f k b4.1 b4.2.1 b4.2.2).bind fun t21=>((laws_eqIntS.f k t21 t11).bind fun t24=>(if t24 = true then ((laws_toStore.f k l0_0 l0_1 a0_2).bind fun b8=>((laws_eqStore.f k b4.1 b4.2.1 b4.2.2 b8.1 b8.2.1 b8.2.2).bind fun t32=>(if t32 = true then ((laws_markStore.f k b4.1 b4.2.1 b4.2.2 1).bind fun b11=>((laws_eqIntS.f k t21 t11).bind fun t38=>(if t38 = true then (if b11.1 < 0 then (some false) else ((laws_markIntS.f k t21 1).bind fun b15=>((laws_heldIntS.f k b15.2 1).bind fun t43=>(if t43 < 0 then (some false) else (if t43 = b15.1 then ((laws_toStore.f k l0_0 l0_1 a0_2).bind fun b19=>((impl_LiveOf.f k b19.1 b19.2.1 b19.2.2).bind fun t51=>((laws_eqIntS.f k t51 t11).bind fun t54=>(if t54 = true then ((laws_heldIntS.f k b15.2 1).bind fun t56=>(if t56 < 0 then (some false) else (if t56 = b15.1 then (some true) else (some false)))) else (some false))))) else (some false)))))) else (some false)))) else (some false)))) else (some false)))))) = some r:=H;have Fa2:=zMk Fa20;clear Fa20;replace H:=Option.bind_eq_some_iff.mp H;obtain ⟨t11,Fa30,H⟩:=H;replace H : ((laws_toStore.f k l0_0 l0_1 a0_2).bind fun b4=>((impl_LiveOf.f k b4.1 b4.2.1 b4.2.2).bind fun t21=>((laws_eqIntS.f k t21 t11).bind fun t24=>(if t24 = true then ((laws_toStore.f k l0_0 l0_1 a0_2).bind fun b8=>((laws_eqStore.f k b4.1 b4.2.1 b4.2.2 b8.1 b8.2.1 b8.2.2).bind fun t32=>(if t32 = true then ((laws_markStore.f k b4.1 b4.2.1 b4.2.2 1).bind fun b11=>((laws_eqIntS.f k t21 t11).bind fun t38=>(if t38 = true then (if b11.1 < 0 then (some false) else ((laws_markIntS.f k t21 1).bind fun b15=>((laws_heldIntS.f k b15.2 1).bind fun t43=>(if t43 < 0 then (some false) else (if t43 = b15.1 then ((laws_toStore.f k l0_0 l0_1 a0_2).bind fun b19=>((impl_LiveOf.f k b19.1 b19.2.1 b19.2.2).bind fun t51=>((laws_eqIntS.f k t51 t11).bind fun t54=>(if t54 = true then ((laws_heldIntS.f k b15.2 1).bind fun t56=>(if t56 < 0 then (some false) else (if t56 = b15.1 then (some true) else (some false)))) else (some false))))) else (some false)))))) else (some false)))) else (some false)))) else (some false))))) = some r:=H;have Fa3:=zMk Fa30;clear Fa30;replace H:=Option.bind_eq_some_iff.mp H;obtain ⟨⟨t14,t15,t16⟩,Fa40,H⟩:=H;replace H : ((impl_LiveOf.f k t14 t15 t16).bind fun t21=>((laws_eqIntS.f k t21 t11).bind fun t24=>(if t24 = true then ((laws_toStore.f k l0_0 l0_1 a0_2).bind fun b8=>((laws_eqStore.f k t14 t15 t16 b8.1 b8.2.1 b8.2.2).bind fun t32=>(if t32 = true then ((laws_markStore.f k t14 t15 t16 1).bind fun b11=>((laws_eqIntS.f k t21 t11).bind fun t38=>(if t38 = true then (if b11.1 < 0 then (some false) else ((laws_markIntS.f k t21 1).bind fun b15=>((laws_heldIntS.f k b15.2 1).bind fun t43=>(if t43 < 0 then (some false) else (if t43 = b15.1 then ((laws_toStore.f k l0_0 l0_1 a0_2).bind fun b19=>((impl_LiveOf.f k b19.1 b19.2.1 b19.2.2).bind fun t51=>((laws_eqIntS.f k t51 t11).bind fun t54=>(if t54 = true then ((laws_heldIntS.f k b15.2 1).bind fun t56=>(if t56 < 0 then (some false) else (if t56 = b15.1 then (some true) else (some false)))) else (some false))))) else (some false)))))) else (some false)))) else (some false)))) else (some false)))) = some r:=H;have Fa4:=zMk Fa40;clear Fa40;replace H:=Option.bind_eq_some_iff.mp H;obtain ⟨t21,Fa50,H⟩:=H;replace H : ((laws_eqIntS.f k t21 t11).bind fun t24=>(if t24 = true then ((laws_toStore.f k l0_0 l0_1 a0_2).bind fun b8=>((laws_eqStore.f k t14 t15 t16 b8.1 b8.2.1 b8.2.2).bind fun t32=>(if t32 = true then ((laws_markStore.f k t14 t15 t16 1).bind fun b11=>((laws_eqIntS.f k t21 t11).bind fun t38=>(if t38 = true then (if b11.1 < 0 then (some false) else ((laws_markIntS.f k t21 1).bind fun b15=>((laws_heldIntS.f k b15.2 1).bind fun t43=>(if t43 < 0 then (some false) else (if t43 = b15.1 then ((laws_toStore.f k l0_0 l0_1 a0_2).bind fun b19=>((impl_LiveOf.f k b19.1 b19.2.1 b19.2.2).bind fun t51=>((laws_eqIntS.f k t51 t11).bind fun t54=>(if t54 = true then ((laws_heldIntS.f k b15.2 1).bind fun t56=>(if t56 < 0 then (some false) else (if t56 = b15.1 then (some true) else (some false)))) else (some false))))) else (some false)))))) else (some false)))) else (some false)))) else (some false))) = some r:=H;have Fa5:=zMk Fa50;clear Fa50;replace H:=Option.bind_eq_some_iff.mp H;obtain ⟨t24,Fa60,H⟩:=H;replace H : (if t24 = true then ((laws_toStore.f k l0_0 l0_1 a0_2).bind fun b8=>((laws_eqStore.f k t14 t15 t16 b8.1 b8.2.1 b8.2.2).bind fun t32=>(if t32 = true then ((laws_markStore.f k t14 t15 t16 1).bind fun b11=>((laws_eqIntS.f k t21 t11).bind fun t38=>(if t38 = true then (if b11.1 < 0 then (some false) else ((laws_markIntS.f k t21 1).bind fun b15=>((laws_heldIntS.f k b15.2 1).bind fun t43=>(if t43 < 0 then (some false) else (if t43 = b15.1 then ((laws_toStore.f k l0_0 l0_1 a0_2).bind fun b19=>((impl_LiveOf.f k b19.1 b19.2.1 b19.2.2).bind fun t51=>((laws_eqIntS.f k t51 t11).bind fun t54=>(if t54 = true then ((laws_heldIntS.f k b15.2 1).bind fun t56=>(if t56 < 0 then (some false) else (if t56 = b15.1 then (some true) else (some false)))) else (some false))))) else (some false)))))) else (some false)))) else (some false)))) else (some false)) = some r:=H;have Fa6:=zMk Fa60;clear Fa60;have cd7 : t24 = true:=Classical.byContradiction fun hc_=>by rw [if_neg hc_] at H;exact absurd ((Option.some.inj H).trans hT.out) (by decide)
 rw [if_pos cd7] at H;subst cd7;replace H : ((laws_toStore.f k l0_0 l0_1 a0_2).bind fun b8=>((laws_eqStore.f k t14 t15 t16 b8.1 b8.2.1 b8.2.2).bind fun t32=>(if t32 = true then ((laws_markStore.f k t14 t15 t16 1).bind fun b11=>((laws_eqIntS.f k t21 t11).bind fun t38=>(if t38 = true then (if b11.1 < 0 then (some false) else ((laws_markIntS.f k t21 1).bind fun b15=>((laws_heldIntS.f k b15.2 1).bind fun t43=>(if t43 < 0 then (some false) else (if t43 = b15.1 then ((laws_toStore.f k l0_0 l0_1 a0_2).bind fun b19=>((impl_LiveOf.f k b19.1 b19.2.1 b19.2.2).bind fun t51=>((laws_eqIntS.f k t51 t11).bind fun t54=>(if t54 = true then ((laws_heldIntS.f k b15.2 1).bind fun t56=>(if t56 < 0 then (some false) else (if t56 = b15.1 then (some true) else (some false)))) else (some false))))) else (some false)))))) else (some false)))) else (some false)))) = some r:=H;replace H:=Option.bind_eq_some_iff.mp H;obtain ⟨⟨t26,t27,t28⟩,Fa80,H⟩:=H;replace H : ((laws_eqStore.f k t14 t15 t16 t26 t27 t28).bind fun t32=>(if t32 = true then ((laws_markStore.f k t14 t15 t16 1).bind fun b11=>((laws_eqIntS.f k t21 t11).bind fun t38=>(if t38 = true then (if b11.1 < 0 then (some false) else ((laws_markIntS.f k t21 1).bind fun b15=>((laws_heldIntS.f k b15.2 1).bind fun t43=>(if t43 < 0 then (some false) else (if t43 = b15.1 then ((laws_toStore.f k l0_0 l0_1 a0_2).bind fun b19=>((impl_LiveOf.f k b19.1 b19.2.1 b19.2.2).bind fun t51=>((laws_eqIntS.f k t51 t11).bind fun t54=>(if t54 = true then ((laws_heldIntS.f k b15.2 1).bind fun t56=>(if t56 < 0 then (some false) else (if t56 = b15.1 then (some true) else (some false)))) else (some false))))) else (some false)))))) else (some false)))) else (some false))) = some r:=H;have Fa8:=zMk Fa80;clear Fa80;replace H:=Option.bind_eq_some_iff.mp H;obtain ⟨t32,Fa90,H⟩:=H;replace H : (if t32 = true then ((laws_markStore.f k t14 t15 t16 1).bind fun b11=>((laws_eqIntS.f k t21 t11).bind fun t38=>(if t38 = true then (if b11.1 < 0 then (some false) else ((laws_markIntS.f k t21 1).bind fun b15=>((laws_heldIntS.f k b15.2 1).bind fun t43=>(if t43 < 0 then (some false) else (if t43 = b15.1 then ((laws_toStore.f k l0_0 l0_1 a0_2).bind fun b19=>((impl_LiveOf.f k b19.1 b19.2.1 b19.2.2).bind fun t51=>((laws_eqIntS.f k t51 t11).bind fun t54=>(if t54 = true then ((laws_heldIntS.f k b15.2 1).bind fun t56=>(if t56 < 0 then (some false) else (if t56 = b15.1 then (some true) else (some false)))) else (some false))))) else (some false)))))) else (some false)))) else (some false)) = some r:=H;have Fa9:=zMk Fa90;clear Fa90;have cd10 : t32 = true:=Classical.byContradiction fun hc_=>by rw [if_neg hc_] at H;exact absurd ((Option.some.inj H).trans hT.out) (by decide)
 rw [if_pos cd10] at H;subst cd10;replace H : ((laws_markStore.f k t14 t15 t16 1).bind fun b11=>((laws_eqIntS.f k t21 t11).bind fun t38=>(if t38 = true then (if b11.1 < 0 then (some false) else ((laws_markIntS.f k t21 1).bind fun b15=>((laws_heldIntS.f k b15.2 1).bind fun t43=>(if t43 < 0 then (some false) else (if t43 = b15.1 then ((laws_toStore.f k l0_0 l0_1 a0_2).bind fun b19=>((impl_LiveOf.f k b19.1 b19.2.1 b19.2.2).bind fun t51=>((laws_eqIntS.f k t51 t11).bind fun t54=>(if t54 = true then ((laws_heldIntS.f k b15.2 1).bind fun t56=>(if t56 < 0 then (some false) else (if t56 = b15.1 then (some true) else (some false)))) else (some false))))) else (some false)))))) else (some false)))) = some r:=H;replace H:=Option.bind_eq_some_iff.mp H;obtain ⟨⟨t34,t35,t36⟩,Fa110,H⟩:=H;replace H : ((laws_eqIntS.f k t21 t11).bind fun t38=>(if t38 = true then (if t34 < 0 then (some false) else ((laws_markIntS.f k t21 1).bind fun b15=>((laws_heldIntS.f k b15.2 1).bind fun t43=>(if t43 < 0 then (some false) else (if t43 = b15.1 then ((laws_toStore.f k l0_0 l0_1 a0_2).bind fun b19=>((impl_LiveOf.f k b19.1 b19.2.1 b19.2.2).bind fun t51=>((laws_eqIntS.f k t51 t11).bind fun t54=>(if t54 = true then ((laws_heldIntS.f k b15.2 1).bind fun t56=>(if t56 < 0 then (some false) else (if t56 = b15.1 then (some true) else (some false)))) else (some false))))) else (some false)))))) else (some false))) = some r:=H;have Fa11:=zMk Fa110;clear Fa110;replace H:=Option.bind_eq_some_iff.mp H;obtain ⟨t38,Fa120,H⟩:=H;replace H : (if t38 = true then (if t34 < 0 then (some false) else ((laws_markIntS.f k t21 1).bind fun b15=>((laws_heldIntS.f k b15.2 1).bind fun t43=>(if t43 < 0 then (some false) else (if t43 = b15.1 then ((laws_toStore.f k l0_0 l0_1 a0_2).bind fun b19=>((impl_LiveOf.f k b19.1 b19.2.1 b19.2.2).bind fun t51=>((laws_eqIntS.f k t51 t11).bind fun t54=>(if t54 = true then ((laws_heldIntS.f k b15.2 1).bind fun t56=>(if t56 < 0 then (some false) else (if t56 = b15.1 then (some true) else (some false)))) else (some false))))) else (some false)))))) else (some false)) = some r:=H;have Fa12:=zMk Fa120;clear Fa120;have cd13 : t38 = true:=Classical.byContradiction fun hc_=>by rw [if_neg hc_] at H;exact absurd ((Option.some.inj H).trans hT.out) (by decide)
 rw [if_pos cd13] at H;subst cd13;replace H : (if t34 < 0 then (some false) else ((laws_markIntS.f k t21 1).bind fun b15=>((laws_heldIntS.f k b15.2 1).bind fun t43=>(if t43 < 0 then (some false) else (if t43 = b15.1 then ((laws_toStore.f k l0_0 l0_1 a0_2).bind fun b19=>((impl_LiveOf.f k b19.1 b19.2.1 b19.2.2).bind fun t51=>((laws_eqIntS.f k t51 t11).bind fun t54=>(if t54 = true then ((laws_heldIntS.f k b15.2 1).bind fun t56=>(if t56 < 0 then (some false) else (if t56 = b15.1 then (some true) else (some false)))) else (some false))))) else (some false)))))) = some r:=H;have cd14 : ¬ (t34 < 0):=fun hc_=>by rw [if_pos hc_] at H;exact absurd ((Option.some.inj H).trans hT.out) (by decide)
 rw [if_neg cd14] at H;have cd14b0 : decide (t34 < 0) = false:=decide_eq_false cd14;clear cd14;replace H:=Option.bind_eq_some_iff.mp H;obtain ⟨⟨t40,t41⟩,Fa150,H⟩:=H;replace H : ((laws_heldIntS.f k t41 1).bind fun t43=>(if t43 < 0 then (some false) else (if t43 = t40 then ((laws_toStore.f k l0_0 l0_1 a0_2).bind fun b19=>((impl_LiveOf.f k b19.1 b19.2.1 b19.2.2).bind fun t51=>((laws_eqIntS.f k t51 t11).bind fun t54=>(if t54 = true then ((laws_heldIntS.f k t41 1).bind fun t56=>(if t56 < 0 then (some false) else (if t56 = t40 then (some true) else (some false)))) else (some false))))) else (some false)))) = some r:=H;have Fa15:=zMk Fa150;clear Fa150;replace H:=Option.bind_eq_some_iff.mp H;obtain ⟨t43,Fa160,H⟩:=H;replace H : (if t43 < 0 then (some false) else (if t43 = t40 then ((laws_toStore.f k l0_0 l0_1 a0_2).bind fun b19=>((impl_LiveOf.f k b19.1 b19.2.1 b19.2.2).bind fun t51=>((laws_eqIntS.f k t51 t11).bind fun t54=>(if t54 = true then ((laws_heldIntS.f k t41 1).bind fun t56=>(if t56 < 0 then (some false) else (if t56 = t40 then (some true) else (some false)))) else (some false))))) else (some false))) = some r:=H;have Fa16:=zMk Fa160;clear Fa160;have cd17 : ¬ (t43 < 0):=fun hc_=>by rw [if_pos hc_] at H;exact absurd ((Option.some.inj H).trans hT.out) (by decide)
 rw [if_neg cd17] at H;have cd17b0 : decide (t43 < 0) = false:=decide_eq_false cd17;clear cd17;have cd18 : t43 = t40:=Classical.byContradiction fun hc_=>by rw [if_neg hc_] at H;exact absurd ((Option.some.inj H).trans hT.out) (by decide)
 rw [if_pos cd18] at H;have cd18b0 : (t43 == t40) = true:=beq_iff_eq.mpr cd18;have cd18b1 : (t43 != t40) = false:=bne_eq_false_iff_eq.mpr cd18;clear cd18;replace H:=Option.bind_eq_some_iff.mp H;obtain ⟨⟨t45,t46,t47⟩,Fa190,H⟩:=H;replace H : ((impl_LiveOf.f k t45 t46 t47).bind fun t51=>((laws_eqIntS.f k t51 t11).bind fun t54=>(if t54 = true then ((laws_heldIntS.f k t41 1).bind fun t56=>(if t56 < 0 then (some false) else (if t56 = t40 then (some true) else (some false)))) else (some false)))) = some r:=H;have Fa19:=zMk Fa190;clear Fa190;replace H:=Option.bind_eq_some_iff.mp H;obtain ⟨t51,Fa200,H⟩:=H;replace H : ((laws_eqIntS.f k t51 t11).bind fun t54=>(if t54 = true then ((laws_heldIntS.f k t41 1).bind fun t56=>(if t56 < 0 then (some false) else (if t56 = t40 then (some true) else (some false)))) else (some false))) = some r:=H;have Fa20:=zMk Fa200;clear Fa200;replace H:=Option.bind_eq_some_iff.mp H;obtain ⟨t54,Fa210,H⟩:=H;replace H : (if t54 = true then ((laws_heldIntS.f k t41 1).bind fun t56=>(if t56 < 0 then (some false) else (if t56 = t40 then (some true) else (some false)))) else (some false)) = some r:=H;have Fa21:=zMk Fa210;clear Fa210;have cd22 : t54 = true:=Classical.byContradiction fun hc_=>by rw [if_neg hc_] at H;exact absurd ((Option.some.inj H).trans hT.out) (by decide)
 rw [if_pos cd22] at H;subst cd22;replace H : ((laws_heldIntS.f k t41 1).bind fun t56=>(if t56 < 0 then (some false) else (if t56 = t40 then (some true) else (some false)))) = some r:=H;replace H:=Option.bind_eq_some_iff.mp H;obtain ⟨t56,Fa230,H⟩:=H;replace H : (if t56 < 0 then (some false) else (if t56 = t40 then (some true) else (some false))) = some r:=H;have Fa23:=zMk Fa230;clear Fa230;have cd24 : ¬ (t56 < 0):=fun hc_=>by rw [if_pos hc_] at H;exact absurd ((Option.some.inj H).trans hT.out) (by decide)
 rw [if_neg cd24] at H;have cd24b0 : decide (t56 < 0) = false:=decide_eq_false cd24;clear cd24;have cd25 : t56 = t40:=Classical.byContradiction fun hc_=>by rw [if_neg hc_] at H;exact absurd ((Option.some.inj H).trans hT.out) (by decide)
 rw [if_pos cd25] at H;have cd25b0 : (t56 == t40) = true:=beq_iff_eq.mpr cd25;have cd25b1 : (t56 != t40) = false:=bne_eq_false_iff_eq.mpr cd25;clear cd25;obtain rfl:=Option.some.inj H
 go_enter Try.func3,Try.ntmps3
 go_wp2_with (first | ((with_reducible refine gate_dst (N:=1) rfl ?_);refine box_event ?hg (N:=1) ?hd (cs:=#[.slice A0_0 l0_0.length c0_0,.slice A0_1 l0_1.length c0_1,.int .i64 a0_2]) (t:=27) ?hr ?_;(case hd=>rfl);(case hg=>rfl);(case hr=>first | (go_simp;done) | (go_simp;rfl));intro gb1 hg w15 hbox hb;have GBK1:=zMk (show gb1 = w.heap.size ∧ gb1 < w15.heap.size from ⟨hg,blk_lt hbox⟩);have GW1:=zMk (show w.heap.size ≤ gb1 by have q_:=below_size HB.out;rw [hg];exact q_);have BK1:=zMk hbox;replace HB:=zMk (below_step HB.out hb);replace HL:=zMk (And.intro HL.out (below_size hb));clear hb hbox hg;have hcz16 : w15.cell? ⟨gb1,0,none⟩ = some (.slice A0_0 l0_0.length c0_0):=(zCl BK1.out 0).trans rfl;have hfz17:=zFr BK1.out 0;have hcz18 : w15.cell? ⟨gb1,1,none⟩ = some (.slice A0_1 l0_1.length c0_1):=(zCl BK1.out 1).trans rfl;have hfz19:=zFr BK1.out 1;have hcz20 : w15.cell? ⟨gb1,2,none⟩ = some (.int .i64 a0_2):=(zCl BK1.out 2).trans rfl;have hfz21:=zFr BK1.out 2) | ((with_reducible refine gate_callee (f:=8) rfl ?_);refine goesL_ (some 13) rfl rfl Try.func8 (by kernel_rfl) rfl #[.agg #[.slice A0_0 l0_0.length c0_0,.slice A0_1 l0_1.length c0_1,.int .i64 a0_2],.int .i64 1048576] rfl (by (try simp only [List.map_toArray,List.map_cons,List.map_nil]);first | done | rfl | (simp only [List.length_drop,List.length_take];rfl)) ?_;(with_reducible refine (laws_szStore.calls k _ _ l0_0 _ _ l0_1 a0_2 1048576 t3 _ ?side1 ?side2 ?side3 ?side4 Fa0.out).mono ?_);(case side1=>exact Kd.C_below HR0_0.out HB.out);(case side2=>exact HC0_0.out);(case side3=>exact Kd.C_below HR0_1.out HB.out);(case side4=>exact HC0_1.out);rintro e w22 ⟨rfl,hb⟩;refine ⟨_,rfl,?_⟩;replace BK1:=zMk (blk_below BK1.out hb);replace HB:=zMk (below_step HB.out hb);replace HL:=zMk (And.intro HL.out (below_size hb));clear hb;clear hcz16 hfz17 hcz18 hfz19 hcz20 hfz21;have hcz23 : w22.cell? ⟨gb1,0,none⟩ = some (.slice A0_0 l0_0.length c0_0):=(zCl BK1.out 0).trans rfl;have hfz24:=zFr BK1.out 0;have hcz25 : w22.cell? ⟨gb1,1,none⟩ = some (.slice A0_1 l0_1.length c0_1):=(zCl BK1.out 1).trans rfl;have hfz26:=zFr BK1.out 1;have hcz27 : w22.cell? ⟨gb1,2,none⟩ = some (.int .i64 a0_2):=(zCl BK1.out 2).trans rfl;have hfz28:=zFr BK1.out 2) | ((with_reducible refine gate_callee (f:=10) rfl ?_);refine goesL_ (some 17) rfl rfl Try.func10 (by kernel_rfl) rfl #[.agg #[.slice A0_0 l0_0.length c0_0,.slice A0_1 l0_1.length c0_1,.int .i64 a0_2]] rfl (by (try simp only [List.map_toArray,List.map_cons,List.map_nil]);first | done | rfl | (simp only [List.length_drop,List.length_take];rfl)) ?_;(with_reducible refine (laws_toStore.calls k _ _ l0_0 _ _ l0_1 a0_2 t5 t6 t7 _ ?side1 ?side2 ?side3 ?side4 Fa2.out).mono ?_);(case side1=>exact Kd.C_below HR0_0.out HB.out);(case side2=>exact HC0_0.out);(case side3=>exact Kd.C_below HR0_1.out HB.out);(case side4=>exact HC0_1.out);rintro e w29 ⟨v8,v9,rfl,ho0,ho1,hb⟩;refine ⟨_,rfl,?_⟩;obtain ⟨TA30,TB30,hap30,ho0,ho1⟩:=Kd.two_apart ho0 ho1 (by decide);have DD30:=zMk hap30;clear hap30;have HZ8:=zMk (Kd.R_lower (Kd.R_mono (ok':=fun k_=>((w22.heap.size ≤ k_ ∧ k_ < w29.heap.size) ∧ TA30 k_)) (Kd.R_bound ho0) (fun k_ hk_=>hk_.1)) (below_size HB.out));clear ho0;have HZ9:=zMk (Kd.S_lower (Kd.S_mono (ok':=fun k_=>((w22.heap.size ≤ k_ ∧ k_ < w29.heap.size) ∧ TB30 k_)) (Kd.S_bound ho1) (fun k_ hk_=>hk_.1)) (below_size HB.out));clear ho1;replace BK1:=zMk (blk_below BK1.out hb);replace HB:=zMk (below_step HB.out hb);replace HL:=zMk (And.intro HL.out (below_size hb));clear hb;obtain ⟨A8,c8,e8⟩:=Kd.R_slice HZ8.out;subst e8;obtain ⟨A9,c9,e9⟩:=Kd.S_slice HZ9.out;subst e9;clear hcz23 hfz24 hcz25 hfz26 hcz27 hfz28;have hcz31 : w29.cell? ⟨gb1,0,none⟩ = some (.slice A0_0 l0_0.length c0_0):=(zCl BK1.out 0).trans rfl;have hfz32:=zFr BK1.out 0;have hcz33 : w29.cell? ⟨gb1,1,none⟩ = some (.slice A0_1 l0_1.length c0_1):=(zCl BK1.out 1).trans rfl;have hfz34:=zFr BK1.out 1;have hcz35 : w29.cell? ⟨gb1,2,none⟩ = some (.int .i64 a0_2):=(zCl BK1.out 2).trans rfl;have hfz36:=zFr BK1.out 2) | ((with_reducible refine gate_callee (f:=9) rfl ?_);refine goesL_ (some 18) rfl rfl Try.func9 (by kernel_rfl) rfl #[.agg #[.slice A8 t5.length c8,.slice A9 t6.length c9,.int .i64 t7]] rfl (by (try simp only [List.map_toArray,List.map_cons,List.map_nil]);first | done | rfl | (simp only [List.length_drop,List.length_take];rfl)) ?_;(with_reducible refine (spec_LiveOf.calls k _ _ t5 _ _ t6 t7 t11 _ ?side1 ?side2 ?side3 ?side4 Fa3.out).mono ?_);(case side1=>exact (Kd.R_reads' HZ8.out).2.2);(case side2=>exact (Kd.R_reads' HZ8.out).2.1);(case side3=>exact (Kd.S_reads' HZ9.out).2.2);(case side4=>exact (Kd.S_reads' HZ9.out).2.1);rintro e w37 ⟨v12,rfl,ho0,hb⟩;refine ⟨_,rfl,?_⟩;have HZ12:=zMk (Kd.R_lower (Kd.R_mono (ok':=fun k_=>(w29.heap.size ≤ k_ ∧ k_ < w37.heap.size)) (Kd.R_bound ho0) (fun k_ hk_=>⟨hk_.2.1,hk_.2.2.1⟩)) (below_size HB.out));clear ho0;replace HZ8:=zMk (Kd.R_below HZ8.out hb);replace HZ9:=zMk (Kd.S_below HZ9.out hb);replace BK1:=zMk (blk_below BK1.out hb);replace HB:=zMk (below_step HB.out hb);replace HL:=zMk (And.intro HL.out (below_size hb));clear hb;obtain ⟨A12,c12,e12⟩:=Kd.R_slice HZ12.out;subst e12;clear hcz31 hfz32 hcz33 hfz34 hcz35 hfz36;have hcz38 : w37.cell? ⟨gb1,0,none⟩ = some (.slice A0_0 l0_0.length c0_0):=(zCl BK1.out 0).trans rfl;have hfz39:=zFr BK1.out 0;have hcz40 : w37.cell? ⟨gb1,1,none⟩ = some (.slice A0_1 l0_1.length c0_1):=(zCl BK1.out 1).trans rfl;have hfz41:=zFr BK1.out 1;have hcz42 : w37.cell? ⟨gb1,2,none⟩ = some (.int .i64 a0_2):=(zCl BK1.out 2).trans rfl;have hfz43:=zFr BK1.out 2) | ((with_reducible refine gate_callee (f:=10) rfl ?_);refine goesL_ (some 20) rfl rfl Try.func10 (by kernel_rfl) rfl #[.agg #[.slice A0_0 l0_0.length c0_0,.slice A0_1 l0_1.length c0_1,.int .i64 a0_2]] rfl (by (try simp only [List.map_toArray,List.map_cons,List.map_nil]);first | done | rfl | (simp only [List.length_drop,List.length_take];rfl)) ?_;(with_reducible refine (laws_toStore.calls k _ _ l0_0 _ _ l0_1 a0_2 t14 t15 t16 _ ?side1 ?side2 ?side3 ?side4 Fa4.out).mono ?_);(case side1=>exact Kd.C_below HR0_0.out HB.out);(case side2=>exact HC0_0.out);(case side3=>exact Kd.C_below HR0_1.out HB.out);(case side4=>exact HC0_1.out);rintro e w44 ⟨v17,v18,rfl,ho0,ho1,hb⟩;refine ⟨_,rfl,?_⟩;obtain ⟨TA45,TB45,hap45,ho0,ho1⟩:=Kd.two_apart ho0 ho1 (by decide);have DD45:=zMk hap45;clear hap45;have HZ17:=zMk (Kd.R_lower (Kd.R_mono (ok':=fun k_=>((w37.heap.size ≤ k_ ∧ k_ < w44.heap.size) ∧ TA45 k_)) (Kd.R_bound ho0) (fun k_ hk_=>hk_.1)) (below_size HB.out));clear ho0;have HZ18:=zMk (Kd.S_lower (Kd.S_mono (ok':=fun k_=>((w37.heap.size ≤ k_ ∧ k_ < w44.heap.size) ∧ TB45 k_)) (Kd.S_bound ho1) (fun k_ hk_=>hk_.1)) (below_size HB.out));clear ho1;replace HZ8:=zMk (Kd.R_below HZ8.out hb);replace HZ9:=zMk (Kd.S_below HZ9.out hb);replace HZ12:=zMk (Kd.R_below HZ12.out hb);replace BK1:=zMk (blk_below BK1.out hb);replace HB:=zMk (below_step HB.out hb);replace HL:=zMk (And.intro HL.out (below_size hb));clear hb;obtain ⟨A17,c17,e17⟩:=Kd.R_slice HZ17.out;subst e17;obtain ⟨A18,c18,e18⟩:=Kd.S_slice HZ18.out;subst e18;clear hcz38 hfz39 hcz40 hfz41 hcz42 hfz43;have hcz46 : w44.cell? ⟨gb1,0,none⟩ = some (.slice A0_0 l0_0.length c0_0):=(zCl BK1.out 0).trans rfl;have hfz47:=zFr BK1.out 0;have hcz48 : w44.cell? ⟨gb1,1,none⟩ = some (.slice A0_1 l0_1.length c0_1):=(zCl BK1.out 1).trans rfl;have hfz49:=zFr BK1.out 1;have hcz50 : w44.cell? ⟨gb1,2,none⟩ = some (.int .i64 a0_2):=(zCl BK1.out 2).trans rfl;have hfz51:=zFr BK1.out 2) | ((with_reducible refine gate_dst (N:=5) rfl ?_);refine box_event ?hg (N:=5) ?hd (cs:=#[.slice none 0 0,.slice none 0 0,.int .i64 0]) (t:=36) ?hr ?_;(case hd=>rfl);(case hg=>rfl);(case hr=>first | (go_simp;done) | (go_simp;rfl));intro gb19 hg w52 hbox hb;replace HZ8:=zMk (Kd.R_below HZ8.out hb);replace HZ9:=zMk (Kd.S_below HZ9.out hb);replace HZ12:=zMk (Kd.R_below HZ12.out hb);replace HZ17:=zMk (Kd.R_below HZ17.out hb);replace HZ18:=zMk (Kd.S_below HZ18.out hb);replace BK1:=zMk (blk_below BK1.out hb);have GBK19:=zMk (show gb19 = w44.heap.size ∧ gb19 < w52.heap.size from ⟨hg,blk_lt hbox⟩);have GW19:=zMk (show w.heap.size ≤ gb19 by have q_:=below_size HB.out;rw [hg];exact q_);have BK19:=zMk hbox;replace HB:=zMk (below_step HB.out hb);replace HL:=zMk (And.intro HL.out (below_size hb));clear hb hbox hg;clear hcz46 hfz47 hcz48 hfz49 hcz50 hfz51;have hcz53 : w52.cell? ⟨gb1,0,none⟩ = some (.slice A0_0 l0_0.length c0_0):=(zCl BK1.out 0).trans rfl;have hfz54:=zFr BK1.out 0;have hcz55 : w52.cell? ⟨gb1,1,none⟩ = some (.slice A0_1 l0_1.length c0_1):=(zCl BK1.out 1).trans rfl;have hfz56:=zFr BK1.out 1;have hcz57 : w52.cell? ⟨gb1,2,none⟩ = some (.int .i64 a0_2):=(zCl BK1.out 2).trans rfl;have hfz58:=zFr BK1.out 2;have hcz59 : w52.cell? ⟨gb19,0,none⟩ = some (.slice none 0 0):=(zCl BK19.out 0).trans rfl;have hfz60:=zFr BK19.out 0;have hcz61 : w52.cell? ⟨gb19,1,none⟩ = some (.slice none 0 0):=(zCl BK19.out 1).trans rfl;have hfz62:=zFr BK19.out 1;have hcz63 : w52.cell? ⟨gb19,2,none⟩ = some (.int .i64 0):=(zCl BK19.out 2).trans rfl;have hfz64:=zFr BK19.out 2) | ((with_reducible refine gate_store (t:=36) (p:=5) rfl ?_);refine store_event (t:=36) (p:=5) (v:=?vo66_) (w1:=(((w52.setCell ⟨gb19,0,none⟩ (.slice A17 t14.length c17)).setCell ⟨gb19,1,none⟩ (.slice A18 t15.length c18)).setCell ⟨gb19,2,none⟩ (.int .i64 t16))) ?hg ?ho ?hn ?hr ?_;(case ho=>rfl);(case hg=>rfl);(case hn=>rfl);(case hr=>first | (go_simp;done) | (go_simp;rfl));intro w65 hw;have hk : Kept w52 w65 (fun k_=>k_ = gb19):=(by rw [hw];exact (Kept.setCell (Kept.setCell (Kept.setCell (Kept.refl w52 (fun k_=>k_ = gb19)) (p:=⟨gb19,0,none⟩) (.inl rfl) (.slice A17 t14.length c17)) (p:=⟨gb19,1,none⟩) (.inl rfl) (.slice A18 t15.length c18)) (p:=⟨gb19,2,none⟩) (.inl rfl) (.int .i64 t16)));have g0_:=GBK19.out;replace HZ8:=zMk (Kd.R_kept HZ8.out hk (fun k_ (hk_ : ((w22.heap.size ≤ k_ ∧ k_ < w29.heap.size) ∧ TA30 k_)) (hs_ : k_ = gb19)=>by have q_:=HL.out;first | omega | exact DD30.out k_ hk_.2 hs_.2 | exact DD30.out k_ hs_.2 hk_.2 | exact DD45.out k_ hk_.2 hs_.2 | exact DD45.out k_ hs_.2 hk_.2 | (rcases hk_ with hk_ | hk_ <;> first | omega | exact DD30.out k_ hk_.2 hs_.2 | exact DD30.out k_ hs_.2 hk_.2 | exact DD45.out k_ hk_.2 hs_.2 | exact DD45.out k_ hs_.2 hk_.2) | (rcases hs_ with hs_ | hs_ <;> first | omega | exact DD30.out k_ hk_.2 hs_.2 | exact DD30.out k_ hs_.2 hk_.2 | exact DD45.out k_ hk_.2 hs_.2 | exact DD45.out k_ hs_.2 hk_.2)));replace HZ9:=zMk (Kd.S_kept HZ9.out hk (fun k_ (hk_ : ((w22.heap.size ≤ k_ ∧ k_ < w29.heap.size) ∧ TB30 k_)) (hs_ : k_ = gb19)=>by have q_:=HL.out;first | omega | exact DD30.out k_ hk_.2 hs_.2 | exact DD30.out k_ hs_.2 hk_.2 | exact DD45.out k_ hk_.2 hs_.2 | exact DD45.out k_ hs_.2 hk_.2 | (rcases hk_ with hk_ | hk_ <;> first | omega | exact DD30.out k_ hk_.2 hs_.2 | exact DD30.out k_ hs_.2 hk_.2 | exact DD45.out k_ hk_.2 hs_.2 | exact DD45.out k_ hs_.2 hk_.2) | (rcases hs_ with hs_ | hs_ <;> first | omega | exact DD30.out k_ hk_.2 hs_.2 | exact DD30.out k_ hs_.2 hk_.2 | exact DD45.out k_ hk_.2 hs_.2 | exact DD45.out k_ hs_.2 hk_.2)));replace HZ12:=zMk (Kd.R_kept HZ12.out hk (fun k_ (hk_ : (w29.heap.size ≤ k_ ∧ k_ < w37.heap.size)) (hs_ : k_ = gb19)=>by have q_:=HL.out;first | omega | exact DD30.out k_ hk_.2 hs_.2 | exact DD30.out k_ hs_.2 hk_.2 | exact DD45.out k_ hk_.2 hs_.2 | exact DD45.out k_ hs_.2 hk_.2 | (rcases hk_ with hk_ | hk_ <;> first | omega | exact DD30.out k_ hk_.2 hs_.2 | exact DD30.out k_ hs_.2 hk_.2 | exact DD45.out k_ hk_.2 hs_.2 | exact DD45.out k_ hs_.2 hk_.2) | (rcases hs_ with hs_ | hs_ <;> first | omega | exact DD30.out k_ hk_.2 hs_.2 | exact DD30.out k_ hs_.2 hk_.2 | exact DD45.out k_ hk_.2 hs_.2 | exact DD45.out k_ hs_.2 hk_.2)));replace HZ17:=zMk (Kd.R_kept HZ17.out hk (fun k_ (hk_ : ((w37.heap.size ≤ k_ ∧ k_ < w44.heap.size) ∧ TA45 k_)) (hs_ : k_ = gb19)=>by have q_:=HL.out;first | omega | exact DD30.out k_ hk_.2 hs_.2 | exact DD30.out k_ hs_.2 hk_.2 | exact DD45.out k_ hk_.2 hs_.2 | exact DD45.out k_ hs_.2 hk_.2 | (rcases hk_ with hk_ | hk_ <;> first | omega | exact DD30.out k_ hk_.2 hs_.2 | exact DD30.out k_ hs_.2 hk_.2 | exact DD45.out k_ hk_.2 hs_.2 | exact DD45.out k_ hs_.2 hk_.2) | (rcases hs_ with hs_ | hs_ <;> first | omega | exact DD30.out k_ hk_.2 hs_.2 | exact DD30.out k_ hs_.2 hk_.2 | exact DD45.out k_ hk_.2 hs_.2 | exact DD45.out k_ hs_.2 hk_.2)));replace HZ18:=zMk (Kd.S_kept HZ18.out hk (fun k_ (hk_ : ((w37.heap.size ≤ k_ ∧ k_ < w44.heap.size) ∧ TB45 k_)) (hs_ : k_ = gb19)=>by have q_:=HL.out;first | omega | exact DD30.out k_ hk_.2 hs_.2 | exact DD30.out k_ hs_.2 hk_.2 | exact DD45.out k_ hk_.2 hs_.2 | exact DD45.out k_ hs_.2 hk_.2 | (rcases hk_ with hk_ | hk_ <;> first | omega | exact DD30.out k_ hk_.2 hs_.2 | exact DD30.out k_ hs_.2 hk_.2 | exact DD45.out k_ hk_.2 hs_.2 | exact DD45.out k_ hs_.2 hk_.2) | (rcases hs_ with hs_ | hs_ <;> first | omega | exact DD30.out k_ hk_.2 hs_.2 | exact DD30.out k_ hs_.2 hk_.2 | exact DD45.out k_ hk_.2 hs_.2 | exact DD45.out k_ hs_.2 hk_.2)));replace BK1:=zMk (blk_kept BK1.out hk (fun hs_=>by have q_:=HL.out;have g_:=GBK1.out;have hs2_ : gb1 = gb19:=hs_;omega));clear g0_;replace BK19:=zMk (show w65.heap[gb19]? = some (.cells #[.slice A17 t14.length c17,.slice A18 t15.length c18,.int .i64 t16] 36 (0,0)) from (by rw [hw];exact (blk_put (cs:=#[.slice A17 t14.length c17,.slice A18 t15.length c18,.int .i64 0]) (cs':=#[.slice A17 t14.length c17,.slice A18 t15.length c18,.int .i64 t16]) (blk_put (cs:=#[.slice A17 t14.length c17,.slice none 0 0,.int .i64 0]) (cs':=#[.slice A17 t14.length c17,.slice A18 t15.length c18,.int .i64 0]) (blk_put (cs:=#[.slice none 0 0,.slice none 0 0,.int .i64 0]) (cs':=#[.slice A17 t14.length c17,.slice none 0 0,.int .i64 0]) BK19.out 0 _ rfl) 1 _ rfl) 2 _ rfl)));replace HB:=zMk (show Below w.heap.size w w65 from (by rw [hw];exact (below_set (below_set (below_set HB.out GW19.out) GW19.out) GW19.out)));replace HL:=zMk (And.intro HL.out hk.1);clear hk hw;clear hcz53 hfz54 hcz55 hfz56 hcz57 hfz58 hcz59 hfz60 hcz61 hfz62 hcz63 hfz64;have hcz67 : w65.cell? ⟨gb1,0,none⟩ = some (.slice A0_0 l0_0.length c0_0):=(zCl BK1.out 0).trans rfl;have hfz68:=zFr BK1.out 0;have hcz69 : w65.cell? ⟨gb1,1,none⟩ = some (.slice A0_1 l0_1.length c0_1):=(zCl BK1.out 1).trans rfl;have hfz70:=zFr BK1.out 1;have hcz71 : w65.cell? ⟨gb1,2,none⟩ = some (.int .i64 a0_2):=(zCl BK1.out 2).trans rfl;have hfz72:=zFr BK1.out 2;have hcz73 : w65.cell? ⟨gb19,0,none⟩ = some (.slice A17 t14.length c17):=(zCl BK19.out 0).trans rfl;have hfz74:=zFr BK19.out 0;have hcz75 : w65.cell? ⟨gb19,1,none⟩ = some (.slice A18 t15.length c18):=(zCl BK19.out 1).trans rfl;have hfz76:=zFr BK19.out 1;have hcz77 : w65.cell? ⟨gb19,2,none⟩ = some (.int .i64 t16):=(zCl BK19.out 2).trans rfl;have hfz78:=zFr BK19.out 2) | ((with_reducible refine gate_callee (f:=11) rfl ?_);refine goesL_ (some 22) rfl rfl Try.func11 (by kernel_rfl) rfl #[.agg #[.slice A17 t14.length c17,.slice A18 t15.length c18,.int .i64 t16]] rfl (by (try simp only [List.map_toArray,List.map_cons,List.map_nil]);first | done | rfl | (simp only [List.length_drop,List.length_take];rfl)) ?_;(with_reducible refine (impl_LiveOf.calls k _ _ t14 _ _ t15 t16 t21 _ ?side1 ?side2 ?side3 ?side4 Fa5.out).mono ?_);(case side1=>exact (Kd.R_reads' HZ17.out).2.2);(case side2=>exact (Kd.R_reads' HZ17.out).2.1);(case side3=>exact (Kd.S_reads' HZ18.out).2.2);(case side4=>exact (Kd.S_reads' HZ18.out).2.1);rintro e w79 ⟨v22,rfl,ho0,hb⟩;refine ⟨_,rfl,?_⟩;have HZ22:=zMk (Kd.R_lower (Kd.R_mono (ok':=fun k_=>(w65.heap.size ≤ k_ ∧ k_ < w79.heap.size)) (Kd.R_bound ho0) (fun k_ hk_=>⟨hk_.2.1,hk_.2.2.1⟩)) (below_size HB.out));clear ho0;replace HZ8:=zMk (Kd.R_below HZ8.out hb);replace HZ9:=zMk (Kd.S_below HZ9.out hb);replace HZ12:=zMk (Kd.R_below HZ12.out hb);replace HZ17:=zMk (Kd.R_below HZ17.out hb);replace HZ18:=zMk (Kd.S_below HZ18.out hb);replace BK1:=zMk (blk_below BK1.out hb);replace BK19:=zMk (blk_below BK19.out hb);replace HB:=zMk (below_step HB.out hb);replace HL:=zMk (And.intro HL.out (below_size hb));clear hb;obtain ⟨A22,c22,e22⟩:=Kd.R_slice HZ22.out;subst e22;clear hcz67 hfz68 hcz69 hfz70 hcz71 hfz72 hcz73 hfz74 hcz75 hfz76 hcz77 hfz78;have hcz80 : w79.cell? ⟨gb1,0,none⟩ = some (.slice A0_0 l0_0.length c0_0):=(zCl BK1.out 0).trans rfl;have hfz81:=zFr BK1.out 0;have hcz82 : w79.cell? ⟨gb1,1,none⟩ = some (.slice A0_1 l0_1.length c0_1):=(zCl BK1.out 1).trans rfl;have hfz83:=zFr BK1.out 1;have hcz84 : w79.cell? ⟨gb1,2,none⟩ = some (.int .i64 a0_2):=(zCl BK1.out 2).trans rfl;have hfz85:=zFr BK1.out 2;have hcz86 : w79.cell? ⟨gb19,0,none⟩ = some (.slice A17 t14.length c17):=(zCl BK19.out 0).trans rfl;have hfz87:=zFr BK19.out 0;have hcz88 : w79.cell? ⟨gb19,1,none⟩ = some (.slice A18 t15.length c18):=(zCl BK19.out 1).trans rfl;have hfz89:=zFr BK19.out 1;have hcz90 : w79.cell? ⟨gb19,2,none⟩ = some (.int .i64 t16):=(zCl BK19.out 2).trans rfl;have hfz91:=zFr BK19.out 2) | ((with_reducible refine gate_callee (f:=12) rfl ?_);refine goesL_ (some 25) rfl rfl Try.func12 (by kernel_rfl) rfl #[.slice A22 t21.length c22,.slice A12 t11.length c12] rfl (by (try simp only [List.map_toArray,List.map_cons,List.map_nil]);first | done | rfl | (simp only [List.length_drop,List.length_take];rfl)) ?_;(with_reducible refine (laws_eqIntS.calls k _ _ t21 _ _ t11 true _ ?side1 ?side2 ?side3 ?side4 Fa6.out).mono ?_);(case side1=>exact (Kd.R_reads' HZ22.out).2.2);(case side2=>exact (Kd.R_reads' HZ22.out).2.1);(case side3=>exact (Kd.R_reads' HZ12.out).2.2);(case side4=>exact (Kd.R_reads' HZ12.out).2.1);rintro e w92 ⟨rfl,hd_⟩;refine ⟨_,rfl,?_⟩;have hb:=hd_.below;clear hd_;replace HZ8:=zMk (Kd.R_below HZ8.out hb);replace HZ9:=zMk (Kd.S_below HZ9.out hb);replace HZ12:=zMk (Kd.R_below HZ12.out hb);replace HZ17:=zMk (Kd.R_below HZ17.out hb);replace HZ18:=zMk (Kd.S_below HZ18.out hb);replace HZ22:=zMk (Kd.R_below HZ22.out hb);replace BK1:=zMk (blk_below BK1.out hb);replace BK19:=zMk (blk_below BK19.out hb);replace HB:=zMk (below_step HB.out hb);replace HL:=zMk (And.intro HL.out (below_size hb));clear hb;clear hcz80 hfz81 hcz82 hfz83 hcz84 hfz85 hcz86 hfz87 hcz88 hfz89 hcz90 hfz91;have hcz93 : w92.cell? ⟨gb1,0,none⟩ = some (.slice A0_0 l0_0.length c0_0):=(zCl BK1.out 0).trans rfl;have hfz94:=zFr BK1.out 0;have hcz95 : w92.cell? ⟨gb1,1,none⟩ = some (.slice A0_1 l0_1.length c0_1):=(zCl BK1.out 1).trans rfl;have hfz96:=zFr BK1.out 1;have hcz97 : w92.cell? ⟨gb1,2,none⟩ = some (.int .i64 a0_2):=(zCl BK1.out 2).trans rfl;have hfz98:=zFr BK1.out 2;have hcz99 : w92.cell? ⟨gb19,0,none⟩ = some (.slice A17 t14.length c17):=(zCl BK19.out 0).trans rfl;have hfz100:=zFr BK19.out 0;have hcz101 : w92.cell? ⟨gb19,1,none⟩ = some (.slice A18 t15.length c18):=(zCl BK19.out 1).trans rfl;have hfz102:=zFr BK19.out 1;have hcz103 : w92.cell? ⟨gb19,2,none⟩ = some (.int .i64 t16):=(zCl BK19.out 2).trans rfl;have hfz104:=zFr BK19.out 2))
 replace HZ8:=zMk (Kd.R_drew HZ8.out);replace HZ9:=zMk (Kd.S_drew HZ9.out);replace HZ12:=zMk (Kd.R_drew HZ12.out);replace HZ17:=zMk (Kd.R_drew HZ17.out);replace HZ18:=zMk (Kd.S_drew HZ18.out);replace HZ22:=zMk (Kd.R_drew HZ22.out);replace BK1:=zMk (blk_drew BK1.out);replace BK19:=zMk (blk_drew BK19.out);replace HB:=zMk (below_drew1 HB.out);replace HL:=zMk (And.intro HL.out (show w92.heap.size ≤ w92.drew.heap.size from Nat.le_refl _));clear hcz93 hfz94 hcz95 hfz96 hcz97 hfz98 hcz99 hfz100 hcz101 hfz102 hcz103 hfz104;refine start_ (n:=5) (S:=fun w'=>w'.cell? ⟨gb19,0,none⟩ = some (.slice A17 t14.length c17) ∧ w'.cell? ⟨gb19,1,none⟩ = some (.slice A18 t15.length c18) ∧ w'.cell? ⟨gb19,2,none⟩ = some (.int .i64 t16) ∧ w'.cell? ⟨gb1,0,none⟩ = some (.slice A0_0 l0_0.length c0_0) ∧ w'.cell? ⟨gb1,1,none⟩ = some (.slice A0_1 l0_1.length c0_1) ∧ w'.cell? ⟨gb1,2,none⟩ = some (.int .i64 a0_2)) (ds:=[]) #[false,false,false,false,false] (by kernel_rfl) rfl rfl ⟨(zCl BK19.out 0).trans rfl,(zCl BK19.out 1).trans rfl,(zCl BK19.out 2).trans rfl,(zCl BK1.out 0).trans rfl,(zCl BK1.out 1).trans rfl,(zCl BK1.out 2).trans rfl⟩ (fun hHeld=>?_);generalize w92.drew = w105 at HZ8 HZ9 HZ12 HZ17 HZ18 HZ22 BK1 BK19 HB HL hHeld ⊢;refine take_ (i:=0) (N:=some 27) (v:=?_) (a':=?_) #[true,false,false,false,false] rfl rfl (by kernel_rfl) (fun _ _ _ h=>h) (Or.inl ⟨by rfl,?_⟩) hHeld ?_ ?_;rotate_left
 ·rintro w' ⟨s0,s1,s2,s3,s4,s5⟩;go_simp;with_reducible rfl
 rotate_left
 ·simp only [Act.put,zS1,zS2,zS3,i64_w,i32_w];rfl
 refine take_ (i:=1) (N:=some 28) (v:=?_) (a':=?_) #[true,true,false,false,false] rfl rfl (by kernel_rfl) (fun _ _ _ h=>h) (Or.inl ⟨by rfl,?_⟩) hHeld ?_ ?_;rotate_left
 ·rintro w' ⟨s0,s1,s2,s3,s4,s5⟩;go_simp;with_reducible rfl
 rotate_left
 ·simp only [Act.put,zS1,zS2,zS3,i64_w,i32_w];rfl
 refine one_ (i:=2) (N:=some 29) #[true,true,true,false,false] rfl rfl (by kernel_rfl) (by decide) (fun K hK=>?_);refine goes_ Try.func10 (by kernel_rfl) rfl #[.agg #[.slice A0_0 l0_0.length c0_0,.slice A0_1 l0_1.length c0_1,.int .i64 a0_2]] (by rfl) rfl rfl (by (try simp only [List.map_toArray,List.map_cons,List.map_nil]);first | done | rfl | (simp only [List.length_drop,List.length_take];rfl)) ?_
 (with_reducible refine (laws_toStore.calls k _ _ l0_0 _ _ l0_1 a0_2 t26 t27 t28 _ ?side1 ?side2 ?side3 ?side4 Fa8.out).mono ?_)
 (case side1=>exact Kd.C_below HR0_0.out HB.out)
 (case side2=>exact HC0_0.out)
 (case side3=>exact Kd.C_below HR0_1.out HB.out)
 (case side4=>exact HC0_1.out)
 rintro e w106 ⟨v29,v30,rfl,ho0,ho1,hb⟩;refine ⟨_,rfl,?_⟩;obtain ⟨TA107,TB107,hap107,ho0,ho1⟩:=Kd.two_apart ho0 ho1 (by decide);have DD107:=zMk hap107;clear hap107;have HZ29:=zMk (Kd.R_lower (Kd.R_mono (ok':=fun k_=>((w105.heap.size ≤ k_ ∧ k_ < w106.heap.size) ∧ TA107 k_)) (Kd.R_bound ho0) (fun k_ hk_=>hk_.1)) (below_size HB.out));clear ho0;have HZ30:=zMk (Kd.S_lower (Kd.S_mono (ok':=fun k_=>((w105.heap.size ≤ k_ ∧ k_ < w106.heap.size) ∧ TB107 k_)) (Kd.S_bound ho1) (fun k_ hk_=>hk_.1)) (below_size HB.out));clear ho1;replace HZ8:=zMk (Kd.R_below HZ8.out hb);replace HZ9:=zMk (Kd.S_below HZ9.out hb);replace HZ12:=zMk (Kd.R_below HZ12.out hb);replace HZ17:=zMk (Kd.R_below HZ17.out hb);replace HZ18:=zMk (Kd.S_below HZ18.out hb);replace HZ22:=zMk (Kd.R_below HZ22.out hb);replace BK1:=zMk (blk_below BK1.out hb);replace BK19:=zMk (blk_below BK19.out hb);replace HB:=zMk (below_step HB.out hb);replace HL:=zMk (And.intro HL.out (below_size hb));clear hb;obtain ⟨A29,c29,e29⟩:=Kd.R_slice HZ29.out;subst e29;obtain ⟨A30,c30,e30⟩:=Kd.S_slice HZ30.out;subst e30;refine hK.out _ _ ⟨(zCl BK19.out 0).trans rfl,(zCl BK19.out 1).trans rfl,(zCl BK19.out 2).trans rfl,(zCl BK1.out 0).trans rfl,(zCl BK1.out 1).trans rfl,(zCl BK1.out 2).trans rfl⟩ (fun hHeld=>?_);clear hK K;refine norm_ (a':=?_) ?_ ?_;rotate_left
 ·show Act.put _ (some 29) _ = _;simp only [Act.put,zS1,zS2,zS3,i64_w,i32_w];rfl
 refine one_ (i:=3) (N:=some 30) #[true,true,true,true,false] rfl rfl (by kernel_rfl) (by decide) (fun K hK=>?_);refine goes_ Try.func13 (by kernel_rfl) rfl #[.agg #[.slice A17 t14.length c17,.slice A18 t15.length c18,.int .i64 t16],.agg #[.slice A29 t26.length c29,.slice A30 t27.length c30,.int .i64 t28]] (by rfl) rfl rfl (by (try simp only [List.map_toArray,List.map_cons,List.map_nil]);first | done | rfl | (simp only [List.length_drop,List.length_take];rfl)) ?_
 (with_reducible refine (laws_eqStore.calls k _ _ t14 _ _ t15 t16 _ _ t26 _ _ t27 t28 true _ ?side1 ?side2 ?side3 ?side4 ?side5 ?side6 ?side7 ?side8 Fa9.out).mono ?_)
 (case side1=>exact (Kd.R_reads' HZ17.out).2.2)
 (case side2=>exact (Kd.R_reads' HZ17.out).2.1)
 (case side3=>exact (Kd.S_reads' HZ18.out).2.2)
 (case side4=>exact (Kd.S_reads' HZ18.out).2.1)
 (case side5=>exact (Kd.R_reads' HZ29.out).2.2)
 (case side6=>exact (Kd.R_reads' HZ29.out).2.1)
 (case side7=>exact (Kd.S_reads' HZ30.out).2.2)
 (case side8=>exact (Kd.S_reads' HZ30.out).2.1)
 rintro e w108 ⟨rfl,hb⟩;refine ⟨_,rfl,?_⟩;replace HZ8:=zMk (Kd.R_below HZ8.out hb);replace HZ9:=zMk (Kd.S_below HZ9.out hb);replace HZ12:=zMk (Kd.R_below HZ12.out hb);replace HZ17:=zMk (Kd.R_below HZ17.out hb);replace HZ18:=zMk (Kd.S_below HZ18.out hb);replace HZ22:=zMk (Kd.R_below HZ22.out hb);replace HZ29:=zMk (Kd.R_below HZ29.out hb);replace HZ30:=zMk (Kd.S_below HZ30.out hb);replace BK1:=zMk (blk_below BK1.out hb);replace BK19:=zMk (blk_below BK19.out hb);replace HB:=zMk (below_step HB.out hb);replace HL:=zMk (And.intro HL.out (below_size hb));clear hb;refine hK.out _ _ ⟨(zCl BK19.out 0).trans rfl,(zCl BK19.out 1).trans rfl,(zCl BK19.out 2).trans rfl,(zCl BK1.out 0).trans rfl,(zCl BK1.out 1).trans rfl,(zCl BK1.out 2).trans rfl⟩ (fun hHeld=>?_);clear hK K;refine norm_ (a':=?_) ?_ ?_;rotate_left
 ·show Act.put _ (some 30) _ = _;simp only [Act.put,zS1,zS2,zS3,i64_w,i32_w];rfl
 refine pure_ (i:=4) (N:=some 31) (v:=?_) (a':=?_) #[true,true,true,true,true] rfl rfl (by kernel_rfl) (fun _ _ _ h=>h) (Or.inl ⟨by rfl,?_⟩) ?_ ?_;rotate_left
 ·intro w';go_simp;with_reducible rfl
 rotate_left
 ·simp only [Act.put,zS1,zS2,zS3,i64_w,i32_w];rfl
 refine done_ (by kernel_rfl) ?_;have hcz109 : w108.cell? ⟨gb1,0,none⟩ = some (.slice A0_0 l0_0.length c0_0):=(zCl BK1.out 0).trans rfl;have hfz110:=zFr BK1.out 0;have hcz111 : w108.cell? ⟨gb1,1,none⟩ = some (.slice A0_1 l0_1.length c0_1):=(zCl BK1.out 1).trans rfl;have hfz112:=zFr BK1.out 1;have hcz113 : w108.cell? ⟨gb1,2,none⟩ = some (.int .i64 a0_2):=(zCl BK1.out 2).trans rfl;have hfz114:=zFr BK1.out 2;have hcz115 : w108.cell? ⟨gb19,0,none⟩ = some (.slice A17 t14.length c17):=(zCl BK19.out 0).trans rfl;have hfz116:=zFr BK19.out 0;have hcz117 : w108.cell? ⟨gb19,1,none⟩ = some (.slice A18 t15.length c18):=(zCl BK19.out 1).trans rfl;have hfz118:=zFr BK19.out 1;have hcz119 : w108.cell? ⟨gb19,2,none⟩ = some (.int .i64 t16):=(zCl BK19.out 2).trans rfl;have hfz120:=zFr BK19.out 2;go_wp2_with (first | ((with_reducible refine gate_callee (f:=14) rfl ?_);refine goesL_ (some 34) rfl rfl Try.func14 (by kernel_rfl) rfl #[.agg #[.slice A17 t14.length c17,.slice A18 t15.length c18,.int .i64 t16],.int .i64 1] rfl (by (try simp only [List.map_toArray,List.map_cons,List.map_nil]);first | done | rfl | (simp only [List.length_drop,List.length_take];rfl)) ?_;(with_reducible refine (laws_markStore.calls k (fun k_=>((w37.heap.size ≤ k_ ∧ k_ < w44.heap.size) ∧ TA45 k_)) _ t14 (fun k_=>((w37.heap.size ≤ k_ ∧ k_ < w44.heap.size) ∧ TB45 k_)) _ t15 t16 1 t34 t35 t36 w _ HB.out (fun k_ (h1_ : ((w37.heap.size ≤ k_ ∧ k_ < w44.heap.size) ∧ TA45 k_)) (h2_ : ((w37.heap.size ≤ k_ ∧ k_ < w44.heap.size) ∧ TB45 k_))=>by have q_:=HL.out;first | omega | exact DD30.out k_ h1_.2 h2_.2 | exact DD45.out k_ h1_.2 h2_.2 | exact DD107.out k_ h1_.2 h2_.2) HZ17.out HZ18.out Fa11.out).mono ?_);rintro e w121 ⟨rfl,hy0,hy1,hb0,hk⟩;refine ⟨_,rfl,?_⟩;have ny0_:=zMk (Kd.R_mono (ok':=fun k_=>(((w37.heap.size ≤ k_ ∧ k_ < w44.heap.size) ∧ TA45 k_) ∨ (w108.heap.size ≤ k_ ∧ k_ < w121.heap.size))) (Kd.R_bound hy0) (fun k_ hk_=>hk_.1.imp id (fun h_=>⟨h_,hk_.2.2.1⟩)));have ny1_:=zMk (Kd.S_mono (ok':=fun k_=>(((w37.heap.size ≤ k_ ∧ k_ < w44.heap.size) ∧ TB45 k_) ∨ (w108.heap.size ≤ k_ ∧ k_ < w121.heap.size))) (Kd.S_bound hy1) (fun k_ hk_=>hk_.1.imp id (fun h_=>⟨h_,hk_.2.2.1⟩)));replace HZ8:=zMk (Kd.R_kept HZ8.out hk (fun k_ (hk_ : ((w22.heap.size ≤ k_ ∧ k_ < w29.heap.size) ∧ TA30 k_)) (hs_ : (((w37.heap.size ≤ k_ ∧ k_ < w44.heap.size) ∧ TA45 k_) ∨ ((w37.heap.size ≤ k_ ∧ k_ < w44.heap.size) ∧ TB45 k_)))=>by have q_:=HL.out;first | omega | exact DD30.out k_ hk_.2 hs_.2 | exact DD30.out k_ hs_.2 hk_.2 | exact DD45.out k_ hk_.2 hs_.2 | exact DD45.out k_ hs_.2 hk_.2 | exact DD107.out k_ hk_.2 hs_.2 | exact DD107.out k_ hs_.2 hk_.2 | (rcases hk_ with hk_ | hk_ <;> first | omega | exact DD30.out k_ hk_.2 hs_.2 | exact DD30.out k_ hs_.2 hk_.2 | exact DD45.out k_ hk_.2 hs_.2 | exact DD45.out k_ hs_.2 hk_.2 | exact DD107.out k_ hk_.2 hs_.2 | exact DD107.out k_ hs_.2 hk_.2) | (rcases hs_ with hs_ | hs_ <;> first | omega | exact DD30.out k_ hk_.2 hs_.2 | exact DD30.out k_ hs_.2 hk_.2 | exact DD45.out k_ hk_.2 hs_.2 | exact DD45.out k_ hs_.2 hk_.2 | exact DD107.out k_ hk_.2 hs_.2 | exact DD107.out k_ hs_.2 hk_.2)));replace HZ9:=zMk (Kd.S_kept HZ9.out hk (fun k_ (hk_ : ((w22.heap.size ≤ k_ ∧ k_ < w29.heap.size) ∧ TB30 k_)) (hs_ : (((w37.heap.size ≤ k_ ∧ k_ < w44.heap.size) ∧ TA45 k_) ∨ ((w37.heap.size ≤ k_ ∧ k_ < w44.heap.size) ∧ TB45 k_)))=>by have q_:=HL.out;first | omega | exact DD30.out k_ hk_.2 hs_.2 | exact DD30.out k_ hs_.2 hk_.2 | exact DD45.out k_ hk_.2 hs_.2 | exact DD45.out k_ hs_.2 hk_.2 | exact DD107.out k_ hk_.2 hs_.2 | exact DD107.out k_ hs_.2 hk_.2 | (rcases hk_ with hk_ | hk_ <;> first | omega | exact DD30.out k_ hk_.2 hs_.2 | exact DD30.out k_ hs_.2 hk_.2 | exact DD45.out k_ hk_.2 hs_.2 | exact DD45.out k_ hs_.2 hk_.2 | exact DD107.out k_ hk_.2 hs_.2 | exact DD107.out k_ hs_.2 hk_.2) | (rcases hs_ with hs_ | hs_ <;> first | omega | exact DD30.out k_ hk_.2 hs_.2 | exact DD30.out k_ hs_.2 hk_.2 | exact DD45.out k_ hk_.2 hs_.2 | exact DD45.out k_ hs_.2 hk_.2 | exact DD107.out k_ hk_.2 hs_.2 | exact DD107.out k_ hs_.2 hk_.2)));replace HZ12:=zMk (Kd.R_kept HZ12.out hk (fun k_ (hk_ : (w29.heap.size ≤ k_ ∧ k_ < w37.heap.size)) (hs_ : (((w37.heap.size ≤ k_ ∧ k_ < w44.heap.size) ∧ TA45 k_) ∨ ((w37.heap.size ≤ k_ ∧ k_ < w44.heap.size) ∧ TB45 k_)))=>by have q_:=HL.out;first | omega | exact DD30.out k_ hk_.2 hs_.2 | exact DD30.out k_ hs_.2 hk_.2 | exact DD45.out k_ hk_.2 hs_.2 | exact DD45.out k_ hs_.2 hk_.2 | exact DD107.out k_ hk_.2 hs_.2 | exact DD107.out k_ hs_.2 hk_.2 | (rcases hk_ with hk_ | hk_ <;> first | omega | exact DD30.out k_ hk_.2 hs_.2 | exact DD30.out k_ hs_.2 hk_.2 | exact DD45.out k_ hk_.2 hs_.2 | exact DD45.out k_ hs_.2 hk_.2 | exact DD107.out k_ hk_.2 hs_.2 | exact DD107.out k_ hs_.2 hk_.2) | (rcases hs_ with hs_ | hs_ <;> first | omega | exact DD30.out k_ hk_.2 hs_.2 | exact DD30.out k_ hs_.2 hk_.2 | exact DD45.out k_ hk_.2 hs_.2 | exact DD45.out k_ hs_.2 hk_.2 | exact DD107.out k_ hk_.2 hs_.2 | exact DD107.out k_ hs_.2 hk_.2)));replace HZ22:=zMk (Kd.R_kept HZ22.out hk (fun k_ (hk_ : (w65.heap.size ≤ k_ ∧ k_ < w79.heap.size)) (hs_ : (((w37.heap.size ≤ k_ ∧ k_ < w44.heap.size) ∧ TA45 k_) ∨ ((w37.heap.size ≤ k_ ∧ k_ < w44.heap.size) ∧ TB45 k_)))=>by have q_:=HL.out;first | omega | exact DD30.out k_ hk_.2 hs_.2 | exact DD30.out k_ hs_.2 hk_.2 | exact DD45.out k_ hk_.2 hs_.2 | exact DD45.out k_ hs_.2 hk_.2 | exact DD107.out k_ hk_.2 hs_.2 | exact DD107.out k_ hs_.2 hk_.2 | (rcases hk_ with hk_ | hk_ <;> first | omega | exact DD30.out k_ hk_.2 hs_.2 | exact DD30.out k_ hs_.2 hk_.2 | exact DD45.out k_ hk_.2 hs_.2 | exact DD45.out k_ hs_.2 hk_.2 | exact DD107.out k_ hk_.2 hs_.2 | exact DD107.out k_ hs_.2 hk_.2) | (rcases hs_ with hs_ | hs_ <;> first | omega | exact DD30.out k_ hk_.2 hs_.2 | exact DD30.out k_ hs_.2 hk_.2 | exact DD45.out k_ hk_.2 hs_.2 | exact DD45.out k_ hs_.2 hk_.2 | exact DD107.out k_ hk_.2 hs_.2 | exact DD107.out k_ hs_.2 hk_.2)));replace HZ29:=zMk (Kd.R_kept HZ29.out hk (fun k_ (hk_ : ((w105.heap.size ≤ k_ ∧ k_ < w106.heap.size) ∧ TA107 k_)) (hs_ : (((w37.heap.size ≤ k_ ∧ k_ < w44.heap.size) ∧ TA45 k_) ∨ ((w37.heap.size ≤ k_ ∧ k_ < w44.heap.size) ∧ TB45 k_)))=>by have q_:=HL.out;first | omega | exact DD30.out k_ hk_.2 hs_.2 | exact DD30.out k_ hs_.2 hk_.2 | exact DD45.out k_ hk_.2 hs_.2 | exact DD45.out k_ hs_.2 hk_.2 | exact DD107.out k_ hk_.2 hs_.2 | exact DD107.out k_ hs_.2 hk_.2 | (rcases hk_ with hk_ | hk_ <;> first | omega | exact DD30.out k_ hk_.2 hs_.2 | exact DD30.out k_ hs_.2 hk_.2 | exact DD45.out k_ hk_.2 hs_.2 | exact DD45.out k_ hs_.2 hk_.2 | exact DD107.out k_ hk_.2 hs_.2 | exact DD107.out k_ hs_.2 hk_.2) | (rcases hs_ with hs_ | hs_ <;> first | omega | exact DD30.out k_ hk_.2 hs_.2 | exact DD30.out k_ hs_.2 hk_.2 | exact DD45.out k_ hk_.2 hs_.2 | exact DD45.out k_ hs_.2 hk_.2 | exact DD107.out k_ hk_.2 hs_.2 | exact DD107.out k_ hs_.2 hk_.2)));replace HZ30:=zMk (Kd.S_kept HZ30.out hk (fun k_ (hk_ : ((w105.heap.size ≤ k_ ∧ k_ < w106.heap.size) ∧ TB107 k_)) (hs_ : (((w37.heap.size ≤ k_ ∧ k_ < w44.heap.size) ∧ TA45 k_) ∨ ((w37.heap.size ≤ k_ ∧ k_ < w44.heap.size) ∧ TB45 k_)))=>by have q_:=HL.out;first | omega | exact DD30.out k_ hk_.2 hs_.2 | exact DD30.out k_ hs_.2 hk_.2 | exact DD45.out k_ hk_.2 hs_.2 | exact DD45.out k_ hs_.2 hk_.2 | exact DD107.out k_ hk_.2 hs_.2 | exact DD107.out k_ hs_.2 hk_.2 | (rcases hk_ with hk_ | hk_ <;> first | omega | exact DD30.out k_ hk_.2 hs_.2 | exact DD30.out k_ hs_.2 hk_.2 | exact DD45.out k_ hk_.2 hs_.2 | exact DD45.out k_ hs_.2 hk_.2 | exact DD107.out k_ hk_.2 hs_.2 | exact DD107.out k_ hs_.2 hk_.2) | (rcases hs_ with hs_ | hs_ <;> first | omega | exact DD30.out k_ hk_.2 hs_.2 | exact DD30.out k_ hs_.2 hk_.2 | exact DD45.out k_ hk_.2 hs_.2 | exact DD45.out k_ hs_.2 hk_.2 | exact DD107.out k_ hk_.2 hs_.2 | exact DD107.out k_ hs_.2 hk_.2)));replace BK1:=zMk (blk_kept BK1.out hk (fun hs_=>by have q_:=HL.out;have g_:=GBK1.out;have hs2_ : (((w37.heap.size ≤ gb1 ∧ gb1 < w44.heap.size) ∧ TA45 gb1) ∨ ((w37.heap.size ≤ gb1 ∧ gb1 < w44.heap.size) ∧ TB45 gb1)):=hs_;omega));replace BK19:=zMk (blk_kept BK19.out hk (fun hs_=>by have q_:=HL.out;have g_:=GBK19.out;have hs2_ : (((w37.heap.size ≤ gb19 ∧ gb19 < w44.heap.size) ∧ TA45 gb19) ∨ ((w37.heap.size ≤ gb19 ∧ gb19 < w44.heap.size) ∧ TB45 gb19)):=hs_;omega));replace HZ17:=ny0_;clear ny0_;replace HZ18:=ny1_;clear ny1_;replace HB:=zMk hb0;replace HL:=zMk (And.intro HL.out hk.1);clear hb0 hk hy0 hy1;clear hcz109 hfz110 hcz111 hfz112 hcz113 hfz114 hcz115 hfz116 hcz117 hfz118 hcz119 hfz120;have hcz122 : w121.cell? ⟨gb1,0,none⟩ = some (.slice A0_0 l0_0.length c0_0):=(zCl BK1.out 0).trans rfl;have hfz123:=zFr BK1.out 0;have hcz124 : w121.cell? ⟨gb1,1,none⟩ = some (.slice A0_1 l0_1.length c0_1):=(zCl BK1.out 1).trans rfl;have hfz125:=zFr BK1.out 1;have hcz126 : w121.cell? ⟨gb1,2,none⟩ = some (.int .i64 a0_2):=(zCl BK1.out 2).trans rfl;have hfz127:=zFr BK1.out 2;have hcz128 : w121.cell? ⟨gb19,0,none⟩ = some (.slice A17 t14.length c17):=(zCl BK19.out 0).trans rfl;have hfz129:=zFr BK19.out 0;have hcz130 : w121.cell? ⟨gb19,1,none⟩ = some (.slice A18 t15.length c18):=(zCl BK19.out 1).trans rfl;have hfz131:=zFr BK19.out 1;have hcz132 : w121.cell? ⟨gb19,2,none⟩ = some (.int .i64 t16):=(zCl BK19.out 2).trans rfl;have hfz133:=zFr BK19.out 2) | (go_at_call 12;(with_reducible show Calls _ _ _ w121 _);(with_reducible refine (laws_eqIntS.calls k _ _ t21 _ _ t11 true _ ?side1 ?side2 ?side3 ?side4 Fa12.out).mono ?_);(case side1=>exact (Kd.R_reads' HZ22.out).2.2);(case side2=>exact (Kd.R_reads' HZ22.out).2.1);(case side3=>exact (Kd.R_reads' HZ12.out).2.2);(case side4=>exact (Kd.R_reads' HZ12.out).2.1);rintro e w134 ⟨rfl,hd_⟩;have hb:=hd_.below;clear hd_;replace HZ8:=zMk (Kd.R_below HZ8.out hb);replace HZ9:=zMk (Kd.S_below HZ9.out hb);replace HZ12:=zMk (Kd.R_below HZ12.out hb);replace HZ17:=zMk (Kd.R_below HZ17.out hb);replace HZ18:=zMk (Kd.S_below HZ18.out hb);replace HZ22:=zMk (Kd.R_below HZ22.out hb);replace HZ29:=zMk (Kd.R_below HZ29.out hb);replace HZ30:=zMk (Kd.S_below HZ30.out hb);replace BK1:=zMk (blk_below BK1.out hb);replace BK19:=zMk (blk_below BK19.out hb);replace HB:=zMk (below_step HB.out hb);replace HL:=zMk (And.intro HL.out (below_size hb));clear hb;clear hcz122 hfz123 hcz124 hfz125 hcz126 hfz127 hcz128 hfz129 hcz130 hfz131 hcz132 hfz133;have hcz135 : w134.cell? ⟨gb1,0,none⟩ = some (.slice A0_0 l0_0.length c0_0):=(zCl BK1.out 0).trans rfl;have hfz136:=zFr BK1.out 0;have hcz137 : w134.cell? ⟨gb1,1,none⟩ = some (.slice A0_1 l0_1.length c0_1):=(zCl BK1.out 1).trans rfl;have hfz138:=zFr BK1.out 1;have hcz139 : w134.cell? ⟨gb1,2,none⟩ = some (.int .i64 a0_2):=(zCl BK1.out 2).trans rfl;have hfz140:=zFr BK1.out 2;have hcz141 : w134.cell? ⟨gb19,0,none⟩ = some (.slice A17 t14.length c17):=(zCl BK19.out 0).trans rfl;have hfz142:=zFr BK19.out 0;have hcz143 : w134.cell? ⟨gb19,1,none⟩ = some (.slice A18 t15.length c18):=(zCl BK19.out 1).trans rfl;have hfz144:=zFr BK19.out 1;have hcz145 : w134.cell? ⟨gb19,2,none⟩ = some (.int .i64 t16):=(zCl BK19.out 2).trans rfl;have hfz146:=zFr BK19.out 2) | ((with_reducible refine gate_callee (f:=15) rfl ?_);refine goesL_ (some 45) rfl rfl Try.func15 (by kernel_rfl) rfl #[.slice A22 t21.length c22,.int .i64 1] rfl (by (try simp only [List.map_toArray,List.map_cons,List.map_nil]);first | done | rfl | (simp only [List.length_drop,List.length_take];rfl)) ?_;(with_reducible refine (laws_markIntS.calls k (fun k_=>(w65.heap.size ≤ k_ ∧ k_ < w79.heap.size)) _ t21 1 t40 t41 w _ HB.out HZ22.out Fa15.out).mono ?_);rintro e w147 ⟨rfl,hy0,hb0,hk⟩;refine ⟨_,rfl,?_⟩;have ny0_:=zMk (Kd.R_mono (ok':=fun k_=>((w65.heap.size ≤ k_ ∧ k_ < w79.heap.size) ∨ (w134.heap.size ≤ k_ ∧ k_ < w147.heap.size))) (Kd.R_bound hy0) (fun k_ hk_=>hk_.1.imp id (fun h_=>⟨h_,hk_.2.2.1⟩)));replace HZ8:=zMk (Kd.R_kept HZ8.out hk (fun k_ (hk_ : ((w22.heap.size ≤ k_ ∧ k_ < w29.heap.size) ∧ TA30 k_)) (hs_ : (w65.heap.size ≤ k_ ∧ k_ < w79.heap.size))=>by have q_:=HL.out;first | omega | exact DD30.out k_ hk_.2 hs_.2 | exact DD30.out k_ hs_.2 hk_.2 | exact DD45.out k_ hk_.2 hs_.2 | exact DD45.out k_ hs_.2 hk_.2 | exact DD107.out k_ hk_.2 hs_.2 | exact DD107.out k_ hs_.2 hk_.2 | (rcases hk_ with hk_ | hk_ <;> first | omega | exact DD30.out k_ hk_.2 hs_.2 | exact DD30.out k_ hs_.2 hk_.2 | exact DD45.out k_ hk_.2 hs_.2 | exact DD45.out k_ hs_.2 hk_.2 | exact DD107.out k_ hk_.2 hs_.2 | exact DD107.out k_ hs_.2 hk_.2) | (rcases hs_ with hs_ | hs_ <;> first | omega | exact DD30.out k_ hk_.2 hs_.2 | exact DD30.out k_ hs_.2 hk_.2 | exact DD45.out k_ hk_.2 hs_.2 | exact DD45.out k_ hs_.2 hk_.2 | exact DD107.out k_ hk_.2 hs_.2 | exact DD107.out k_ hs_.2 hk_.2)));replace HZ9:=zMk (Kd.S_kept HZ9.out hk (fun k_ (hk_ : ((w22.heap.size ≤ k_ ∧ k_ < w29.heap.size) ∧ TB30 k_)) (hs_ : (w65.heap.size ≤ k_ ∧ k_ < w79.heap.size))=>by have q_:=HL.out;first | omega | exact DD30.out k_ hk_.2 hs_.2 | exact DD30.out k_ hs_.2 hk_.2 | exact DD45.out k_ hk_.2 hs_.2 | exact DD45.out k_ hs_.2 hk_.2 | exact DD107.out k_ hk_.2 hs_.2 | exact DD107.out k_ hs_.2 hk_.2 | (rcases hk_ with hk_ | hk_ <;> first | omega | exact DD30.out k_ hk_.2 hs_.2 | exact DD30.out k_ hs_.2 hk_.2 | exact DD45.out k_ hk_.2 hs_.2 | exact DD45.out k_ hs_.2 hk_.2 | exact DD107.out k_ hk_.2 hs_.2 | exact DD107.out k_ hs_.2 hk_.2) | (rcases hs_ with hs_ | hs_ <;> first | omega | exact DD30.out k_ hk_.2 hs_.2 | exact DD30.out k_ hs_.2 hk_.2 | exact DD45.out k_ hk_.2 hs_.2 | exact DD45.out k_ hs_.2 hk_.2 | exact DD107.out k_ hk_.2 hs_.2 | exact DD107.out k_ hs_.2 hk_.2)));replace HZ12:=zMk (Kd.R_kept HZ12.out hk (fun k_ (hk_ : (w29.heap.size ≤ k_ ∧ k_ < w37.heap.size)) (hs_ : (w65.heap.size ≤ k_ ∧ k_ < w79.heap.size))=>by have q_:=HL.out;first | omega | exact DD30.out k_ hk_.2 hs_.2 | exact DD30.out k_ hs_.2 hk_.2 | exact DD45.out k_ hk_.2 hs_.2 | exact DD45.out k_ hs_.2 hk_.2 | exact DD107.out k_ hk_.2 hs_.2 | exact DD107.out k_ hs_.2 hk_.2 | (rcases hk_ with hk_ | hk_ <;> first | omega | exact DD30.out k_ hk_.2 hs_.2 | exact DD30.out k_ hs_.2 hk_.2 | exact DD45.out k_ hk_.2 hs_.2 | exact DD45.out k_ hs_.2 hk_.2 | exact DD107.out k_ hk_.2 hs_.2 | exact DD107.out k_ hs_.2 hk_.2) | (rcases hs_ with hs_ | hs_ <;> first | omega | exact DD30.out k_ hk_.2 hs_.2 | exact DD30.out k_ hs_.2 hk_.2 | exact DD45.out k_ hk_.2 hs_.2 | exact DD45.out k_ hs_.2 hk_.2 | exact DD107.out k_ hk_.2 hs_.2 | exact DD107.out k_ hs_.2 hk_.2)));replace HZ17:=zMk (Kd.R_kept HZ17.out hk (fun k_ (hk_ : (((w37.heap.size ≤ k_ ∧ k_ < w44.heap.size) ∧ TA45 k_) ∨ (w108.heap.size ≤ k_ ∧ k_ < w121.heap.size))) (hs_ : (w65.heap.size ≤ k_ ∧ k_ < w79.heap.size))=>by have q_:=HL.out;first | omega | exact DD30.out k_ hk_.2 hs_.2 | exact DD30.out k_ hs_.2 hk_.2 | exact DD45.out k_ hk_.2 hs_.2 | exact DD45.out k_ hs_.2 hk_.2 | exact DD107.out k_ hk_.2 hs_.2 | exact DD107.out k_ hs_.2 hk_.2 | (rcases hk_ with hk_ | hk_ <;> first | omega | exact DD30.out k_ hk_.2 hs_.2 | exact DD30.out k_ hs_.2 hk_.2 | exact DD45.out k_ hk_.2 hs_.2 | exact DD45.out k_ hs_.2 hk_.2 | exact DD107.out k_ hk_.2 hs_.2 | exact DD107.out k_ hs_.2 hk_.2) | (rcases hs_ with hs_ | hs_ <;> first | omega | exact DD30.out k_ hk_.2 hs_.2 | exact DD30.out k_ hs_.2 hk_.2 | exact DD45.out k_ hk_.2 hs_.2 | exact DD45.out k_ hs_.2 hk_.2 | exact DD107.out k_ hk_.2 hs_.2 | exact DD107.out k_ hs_.2 hk_.2)));replace HZ18:=zMk (Kd.S_kept HZ18.out hk (fun k_ (hk_ : (((w37.heap.size ≤ k_ ∧ k_ < w44.heap.size) ∧ TB45 k_) ∨ (w108.heap.size ≤ k_ ∧ k_ < w121.heap.size))) (hs_ : (w65.heap.size ≤ k_ ∧ k_ < w79.heap.size))=>by have q_:=HL.out;first | omega | exact DD30.out k_ hk_.2 hs_.2 | exact DD30.out k_ hs_.2 hk_.2 | exact DD45.out k_ hk_.2 hs_.2 | exact DD45.out k_ hs_.2 hk_.2 | exact DD107.out k_ hk_.2 hs_.2 | exact DD107.out k_ hs_.2 hk_.2 | (rcases hk_ with hk_ | hk_ <;> first | omega | exact DD30.out k_ hk_.2 hs_.2 | exact DD30.out k_ hs_.2 hk_.2 | exact DD45.out k_ hk_.2 hs_.2 | exact DD45.out k_ hs_.2 hk_.2 | exact DD107.out k_ hk_.2 hs_.2 | exact DD107.out k_ hs_.2 hk_.2) | (rcases hs_ with hs_ | hs_ <;> first | omega | exact DD30.out k_ hk_.2 hs_.2 | exact DD30.out k_ hs_.2 hk_.2 | exact DD45.out k_ hk_.2 hs_.2 | exact DD45.out k_ hs_.2 hk_.2 | exact DD107.out k_ hk_.2 hs_.2 | exact DD107.out k_ hs_.2 hk_.2)));replace HZ29:=zMk (Kd.R_kept HZ29.out hk (fun k_ (hk_ : ((w105.heap.size ≤ k_ ∧ k_ < w106.heap.size) ∧ TA107 k_)) (hs_ : (w65.heap.size ≤ k_ ∧ k_ < w79.heap.size))=>by have q_:=HL.out;first | omega | exact DD30.out k_ hk_.2 hs_.2 | exact DD30.out k_ hs_.2 hk_.2 | exact DD45.out k_ hk_.2 hs_.2 | exact DD45.out k_ hs_.2 hk_.2 | exact DD107.out k_ hk_.2 hs_.2 | exact DD107.out k_ hs_.2 hk_.2 | (rcases hk_ with hk_ | hk_ <;> first | omega | exact DD30.out k_ hk_.2 hs_.2 | exact DD30.out k_ hs_.2 hk_.2 | exact DD45.out k_ hk_.2 hs_.2 | exact DD45.out k_ hs_.2 hk_.2 | exact DD107.out k_ hk_.2 hs_.2 | exact DD107.out k_ hs_.2 hk_.2) | (rcases hs_ with hs_ | hs_ <;> first | omega | exact DD30.out k_ hk_.2 hs_.2 | exact DD30.out k_ hs_.2 hk_.2 | exact DD45.out k_ hk_.2 hs_.2 | exact DD45.out k_ hs_.2 hk_.2 | exact DD107.out k_ hk_.2 hs_.2 | exact DD107.out k_ hs_.2 hk_.2)));replace HZ30:=zMk (Kd.S_kept HZ30.out hk (fun k_ (hk_ : ((w105.heap.size ≤ k_ ∧ k_ < w106.heap.size) ∧ TB107 k_)) (hs_ : (w65.heap.size ≤ k_ ∧ k_ < w79.heap.size))=>by have q_:=HL.out;first | omega | exact DD30.out k_ hk_.2 hs_.2 | exact DD30.out k_ hs_.2 hk_.2 | exact DD45.out k_ hk_.2 hs_.2 | exact DD45.out k_ hs_.2 hk_.2 | exact DD107.out k_ hk_.2 hs_.2 | exact DD107.out k_ hs_.2 hk_.2 | (rcases hk_ with hk_ | hk_ <;> first | omega | exact DD30.out k_ hk_.2 hs_.2 | exact DD30.out k_ hs_.2 hk_.2 | exact DD45.out k_ hk_.2 hs_.2 | exact DD45.out k_ hs_.2 hk_.2 | exact DD107.out k_ hk_.2 hs_.2 | exact DD107.out k_ hs_.2 hk_.2) | (rcases hs_ with hs_ | hs_ <;> first | omega | exact DD30.out k_ hk_.2 hs_.2 | exact DD30.out k_ hs_.2 hk_.2 | exact DD45.out k_ hk_.2 hs_.2 | exact DD45.out k_ hs_.2 hk_.2 | exact DD107.out k_ hk_.2 hs_.2 | exact DD107.out k_ hs_.2 hk_.2)));replace BK1:=zMk (blk_kept BK1.out hk (fun hs_=>by have q_:=HL.out;have g_:=GBK1.out;have hs2_ : (w65.heap.size ≤ gb1 ∧ gb1 < w79.heap.size):=hs_;omega));replace BK19:=zMk (blk_kept BK19.out hk (fun hs_=>by have q_:=HL.out;have g_:=GBK19.out;have hs2_ : (w65.heap.size ≤ gb19 ∧ gb19 < w79.heap.size):=hs_;omega));replace HZ22:=ny0_;clear ny0_;replace HB:=zMk hb0;replace HL:=zMk (And.intro HL.out hk.1);clear hb0 hk hy0;clear hcz135 hfz136 hcz137 hfz138 hcz139 hfz140 hcz141 hfz142 hcz143 hfz144 hcz145 hfz146;have hcz148 : w147.cell? ⟨gb1,0,none⟩ = some (.slice A0_0 l0_0.length c0_0):=(zCl BK1.out 0).trans rfl;have hfz149:=zFr BK1.out 0;have hcz150 : w147.cell? ⟨gb1,1,none⟩ = some (.slice A0_1 l0_1.length c0_1):=(zCl BK1.out 1).trans rfl;have hfz151:=zFr BK1.out 1;have hcz152 : w147.cell? ⟨gb1,2,none⟩ = some (.int .i64 a0_2):=(zCl BK1.out 2).trans rfl;have hfz153:=zFr BK1.out 2;have hcz154 : w147.cell? ⟨gb19,0,none⟩ = some (.slice A17 t14.length c17):=(zCl BK19.out 0).trans rfl;have hfz155:=zFr BK19.out 0;have hcz156 : w147.cell? ⟨gb19,1,none⟩ = some (.slice A18 t15.length c18):=(zCl BK19.out 1).trans rfl;have hfz157:=zFr BK19.out 1;have hcz158 : w147.cell? ⟨gb19,2,none⟩ = some (.int .i64 t16):=(zCl BK19.out 2).trans rfl;have hfz159:=zFr BK19.out 2) | ((with_reducible refine gate_callee (f:=16) rfl ?_);refine goesL_ (some 48) rfl rfl Try.func16 (by kernel_rfl) rfl #[.slice A22 t41.length c22,.int .i64 1] rfl (by (try simp only [List.map_toArray,List.map_cons,List.map_nil]);first | done | (rw [show t41.length = t21.length from (Kd.R_reads' HZ22.out).1.symm] <;> rfl) | rfl | (simp only [List.length_drop,List.length_take];rfl)) ?_;(with_reducible refine (laws_heldIntS.calls k _ _ t41 1 t43 _ ?side1 ?side2 Fa16.out).mono ?_);(case side1=>exact (Kd.R_reads' HZ22.out).2.2);(case side2=>have h1_:=(Kd.R_reads' HZ22.out).1;have h2_:=(Kd.R_reads' HZ22.out).2.1;omega);rintro e w160 ⟨rfl,hd_⟩;refine ⟨_,rfl,?_⟩;have hb:=hd_.below;clear hd_;replace HZ8:=zMk (Kd.R_below HZ8.out hb);replace HZ9:=zMk (Kd.S_below HZ9.out hb);replace HZ12:=zMk (Kd.R_below HZ12.out hb);replace HZ17:=zMk (Kd.R_below HZ17.out hb);replace HZ18:=zMk (Kd.S_below HZ18.out hb);replace HZ22:=zMk (Kd.R_below HZ22.out hb);replace HZ29:=zMk (Kd.R_below HZ29.out hb);replace HZ30:=zMk (Kd.S_below HZ30.out hb);replace BK1:=zMk (blk_below BK1.out hb);replace BK19:=zMk (blk_below BK19.out hb);replace HB:=zMk (below_step HB.out hb);replace HL:=zMk (And.intro HL.out (below_size hb));clear hb;clear hcz148 hfz149 hcz150 hfz151 hcz152 hfz153 hcz154 hfz155 hcz156 hfz157 hcz158 hfz159;have hcz161 : w160.cell? ⟨gb1,0,none⟩ = some (.slice A0_0 l0_0.length c0_0):=(zCl BK1.out 0).trans rfl;have hfz162:=zFr BK1.out 0;have hcz163 : w160.cell? ⟨gb1,1,none⟩ = some (.slice A0_1 l0_1.length c0_1):=(zCl BK1.out 1).trans rfl;have hfz164:=zFr BK1.out 1;have hcz165 : w160.cell? ⟨gb1,2,none⟩ = some (.int .i64 a0_2):=(zCl BK1.out 2).trans rfl;have hfz166:=zFr BK1.out 2;have hcz167 : w160.cell? ⟨gb19,0,none⟩ = some (.slice A17 t14.length c17):=(zCl BK19.out 0).trans rfl;have hfz168:=zFr BK19.out 0;have hcz169 : w160.cell? ⟨gb19,1,none⟩ = some (.slice A18 t15.length c18):=(zCl BK19.out 1).trans rfl;have hfz170:=zFr BK19.out 1;have hcz171 : w160.cell? ⟨gb19,2,none⟩ = some (.int .i64 t16):=(zCl BK19.out 2).trans rfl;have hfz172:=zFr BK19.out 2) | ((with_reducible refine gate_callee (f:=10) rfl ?_);refine goesL_ (some 55) rfl rfl Try.func10 (by kernel_rfl) rfl #[.agg #[.slice A0_0 l0_0.length c0_0,.slice A0_1 l0_1.length c0_1,.int .i64 a0_2]] rfl (by (try simp only [List.map_toArray,List.map_cons,List.map_nil]);first | done | rfl | (simp only [List.length_drop,List.length_take];rfl)) ?_;(with_reducible refine (laws_toStore.calls k _ _ l0_0 _ _ l0_1 a0_2 t45 t46 t47 _ ?side1 ?side2 ?side3 ?side4 Fa19.out).mono ?_);(case side1=>exact Kd.C_below HR0_0.out HB.out);(case side2=>exact HC0_0.out);(case side3=>exact Kd.C_below HR0_1.out HB.out);(case side4=>exact HC0_1.out);rintro e w173 ⟨v48,v49,rfl,ho0,ho1,hb⟩;refine ⟨_,rfl,?_⟩;obtain ⟨TA174,TB174,hap174,ho0,ho1⟩:=Kd.two_apart ho0 ho1 (by decide);have DD174:=zMk hap174;clear hap174;have HZ48:=zMk (Kd.R_lower (Kd.R_mono (ok':=fun k_=>((w160.heap.size ≤ k_ ∧ k_ < w173.heap.size) ∧ TA174 k_)) (Kd.R_bound ho0) (fun k_ hk_=>hk_.1)) (below_size HB.out));clear ho0;have HZ49:=zMk (Kd.S_lower (Kd.S_mono (ok':=fun k_=>((w160.heap.size ≤ k_ ∧ k_ < w173.heap.size) ∧ TB174 k_)) (Kd.S_bound ho1) (fun k_ hk_=>hk_.1)) (below_size HB.out));clear ho1;replace HZ8:=zMk (Kd.R_below HZ8.out hb);replace HZ9:=zMk (Kd.S_below HZ9.out hb);replace HZ12:=zMk (Kd.R_below HZ12.out hb);replace HZ17:=zMk (Kd.R_below HZ17.out hb);replace HZ18:=zMk (Kd.S_below HZ18.out hb);replace HZ22:=zMk (Kd.R_below HZ22.out hb);replace HZ29:=zMk (Kd.R_below HZ29.out hb);replace HZ30:=zMk (Kd.S_below HZ30.out hb);replace BK1:=zMk (blk_below BK1.out hb);replace BK19:=zMk (blk_below BK19.out hb);replace HB:=zMk (below_step HB.out hb);replace HL:=zMk (And.intro HL.out (below_size hb));clear hb;obtain ⟨A48,c48,e48⟩:=Kd.R_slice HZ48.out;subst e48;obtain ⟨A49,c49,e49⟩:=Kd.S_slice HZ49.out;subst e49;clear hcz161 hfz162 hcz163 hfz164 hcz165 hfz166 hcz167 hfz168 hcz169 hfz170 hcz171 hfz172;have hcz175 : w173.cell? ⟨gb1,0,none⟩ = some (.slice A0_0 l0_0.length c0_0):=(zCl BK1.out 0).trans rfl;have hfz176:=zFr BK1.out 0;have hcz177 : w173.cell? ⟨gb1,1,none⟩ = some (.slice A0_1 l0_1.length c0_1):=(zCl BK1.out 1).trans rfl;have hfz178:=zFr BK1.out 1;have hcz179 : w173.cell? ⟨gb1,2,none⟩ = some (.int .i64 a0_2):=(zCl BK1.out 2).trans rfl;have hfz180:=zFr BK1.out 2;have hcz181 : w173.cell? ⟨gb19,0,none⟩ = some (.slice A17 t14.length c17):=(zCl BK19.out 0).trans rfl;have hfz182:=zFr BK19.out 0;have hcz183 : w173.cell? ⟨gb19,1,none⟩ = some (.slice A18 t15.length c18):=(zCl BK19.out 1).trans rfl;have hfz184:=zFr BK19.out 1;have hcz185 : w173.cell? ⟨gb19,2,none⟩ = some (.int .i64 t16):=(zCl BK19.out 2).trans rfl;have hfz186:=zFr BK19.out 2) | ((with_reducible refine gate_callee (f:=11) rfl ?_);refine goesL_ (some 56) rfl rfl Try.func11 (by kernel_rfl) rfl #[.agg #[.slice A48 t45.length c48,.slice A49 t46.length c49,.int .i64 t47]] rfl (by (try simp only [List.map_toArray,List.map_cons,List.map_nil]);first | done | rfl | (simp only [List.length_drop,List.length_take];rfl)) ?_;(with_reducible refine (impl_LiveOf.calls k _ _ t45 _ _ t46 t47 t51 _ ?side1 ?side2 ?side3 ?side4 Fa20.out).mono ?_);(case side1=>exact (Kd.R_reads' HZ48.out).2.2);(case side2=>exact (Kd.R_reads' HZ48.out).2.1);(case side3=>exact (Kd.S_reads' HZ49.out).2.2);(case side4=>exact (Kd.S_reads' HZ49.out).2.1);rintro e w187 ⟨v52,rfl,ho0,hb⟩;refine ⟨_,rfl,?_⟩;have HZ52:=zMk (Kd.R_lower (Kd.R_mono (ok':=fun k_=>(w173.heap.size ≤ k_ ∧ k_ < w187.heap.size)) (Kd.R_bound ho0) (fun k_ hk_=>⟨hk_.2.1,hk_.2.2.1⟩)) (below_size HB.out));clear ho0;replace HZ8:=zMk (Kd.R_below HZ8.out hb);replace HZ9:=zMk (Kd.S_below HZ9.out hb);replace HZ12:=zMk (Kd.R_below HZ12.out hb);replace HZ17:=zMk (Kd.R_below HZ17.out hb);replace HZ18:=zMk (Kd.S_below HZ18.out hb);replace HZ22:=zMk (Kd.R_below HZ22.out hb);replace HZ29:=zMk (Kd.R_below HZ29.out hb);replace HZ30:=zMk (Kd.S_below HZ30.out hb);replace HZ48:=zMk (Kd.R_below HZ48.out hb);replace HZ49:=zMk (Kd.S_below HZ49.out hb);replace BK1:=zMk (blk_below BK1.out hb);replace BK19:=zMk (blk_below BK19.out hb);replace HB:=zMk (below_step HB.out hb);replace HL:=zMk (And.intro HL.out (below_size hb));clear hb;obtain ⟨A52,c52,e52⟩:=Kd.R_slice HZ52.out;subst e52;clear hcz175 hfz176 hcz177 hfz178 hcz179 hfz180 hcz181 hfz182 hcz183 hfz184 hcz185 hfz186;have hcz188 : w187.cell? ⟨gb1,0,none⟩ = some (.slice A0_0 l0_0.length c0_0):=(zCl BK1.out 0).trans rfl;have hfz189:=zFr BK1.out 0;have hcz190 : w187.cell? ⟨gb1,1,none⟩ = some (.slice A0_1 l0_1.length c0_1):=(zCl BK1.out 1).trans rfl;have hfz191:=zFr BK1.out 1;have hcz192 : w187.cell? ⟨gb1,2,none⟩ = some (.int .i64 a0_2):=(zCl BK1.out 2).trans rfl;have hfz193:=zFr BK1.out 2;have hcz194 : w187.cell? ⟨gb19,0,none⟩ = some (.slice A17 t14.length c17):=(zCl BK19.out 0).trans rfl;have hfz195:=zFr BK19.out 0;have hcz196 : w187.cell? ⟨gb19,1,none⟩ = some (.slice A18 t15.length c18):=(zCl BK19.out 1).trans rfl;have hfz197:=zFr BK19.out 1;have hcz198 : w187.cell? ⟨gb19,2,none⟩ = some (.int .i64 t16):=(zCl BK19.out 2).trans rfl;have hfz199:=zFr BK19.out 2) | ((with_reducible refine gate_callee (f:=12) rfl ?_);refine goesL_ (some 59) rfl rfl Try.func12 (by kernel_rfl) rfl #[.slice A52 t51.length c52,.slice A12 t11.length c12] rfl (by (try simp only [List.map_toArray,List.map_cons,List.map_nil]);first | done | rfl | (simp only [List.length_drop,List.length_take];rfl)) ?_;(with_reducible refine (laws_eqIntS.calls k _ _ t51 _ _ t11 true _ ?side1 ?side2 ?side3 ?side4 Fa21.out).mono ?_);(case side1=>exact (Kd.R_reads' HZ52.out).2.2);(case side2=>exact (Kd.R_reads' HZ52.out).2.1);(case side3=>exact (Kd.R_reads' HZ12.out).2.2);(case side4=>exact (Kd.R_reads' HZ12.out).2.1);rintro e w200 ⟨rfl,hd_⟩;refine ⟨_,rfl,?_⟩;have hb:=hd_.below;clear hd_;replace HZ8:=zMk (Kd.R_below HZ8.out hb);replace HZ9:=zMk (Kd.S_below HZ9.out hb);replace HZ12:=zMk (Kd.R_below HZ12.out hb);replace HZ17:=zMk (Kd.R_below HZ17.out hb);replace HZ18:=zMk (Kd.S_below HZ18.out hb);replace HZ22:=zMk (Kd.R_below HZ22.out hb);replace HZ29:=zMk (Kd.R_below HZ29.out hb);replace HZ30:=zMk (Kd.S_below HZ30.out hb);replace HZ48:=zMk (Kd.R_below HZ48.out hb);replace HZ49:=zMk (Kd.S_below HZ49.out hb);replace HZ52:=zMk (Kd.R_below HZ52.out hb);replace BK1:=zMk (blk_below BK1.out hb);replace BK19:=zMk (blk_below BK19.out hb);replace HB:=zMk (below_step HB.out hb);replace HL:=zMk (And.intro HL.out (below_size hb));clear hb;clear hcz188 hfz189 hcz190 hfz191 hcz192 hfz193 hcz194 hfz195 hcz196 hfz197 hcz198 hfz199;have hcz201 : w200.cell? ⟨gb1,0,none⟩ = some (.slice A0_0 l0_0.length c0_0):=(zCl BK1.out 0).trans rfl;have hfz202:=zFr BK1.out 0;have hcz203 : w200.cell? ⟨gb1,1,none⟩ = some (.slice A0_1 l0_1.length c0_1):=(zCl BK1.out 1).trans rfl;have hfz204:=zFr BK1.out 1;have hcz205 : w200.cell? ⟨gb1,2,none⟩ = some (.int .i64 a0_2):=(zCl BK1.out 2).trans rfl;have hfz206:=zFr BK1.out 2;have hcz207 : w200.cell? ⟨gb19,0,none⟩ = some (.slice A17 t14.length c17):=(zCl BK19.out 0).trans rfl;have hfz208:=zFr BK19.out 0;have hcz209 : w200.cell? ⟨gb19,1,none⟩ = some (.slice A18 t15.length c18):=(zCl BK19.out 1).trans rfl;have hfz210:=zFr BK19.out 1;have hcz211 : w200.cell? ⟨gb19,2,none⟩ = some (.int .i64 t16):=(zCl BK19.out 2).trans rfl;have hfz212:=zFr BK19.out 2) | ((with_reducible refine gate_callee (f:=16) rfl ?_);refine goesL_ (some 63) rfl rfl Try.func16 (by kernel_rfl) rfl #[.slice A22 t41.length c22,.int .i64 1] rfl (by (try simp only [List.map_toArray,List.map_cons,List.map_nil]);first | done | (rw [show t41.length = t21.length from (Kd.R_reads' HZ22.out).1.symm] <;> rfl) | rfl | (simp only [List.length_drop,List.length_take];rfl)) ?_;(with_reducible refine (laws_heldIntS.calls k _ _ t41 1 t56 _ ?side1 ?side2 Fa23.out).mono ?_);(case side1=>exact (Kd.R_reads' HZ22.out).2.2);(case side2=>have h1_:=(Kd.R_reads' HZ22.out).1;have h2_:=(Kd.R_reads' HZ22.out).2.1;omega);rintro e w213 ⟨rfl,hd_⟩;refine ⟨_,rfl,?_⟩;have hb:=hd_.below;clear hd_;replace HZ8:=zMk (Kd.R_below HZ8.out hb);replace HZ9:=zMk (Kd.S_below HZ9.out hb);replace HZ12:=zMk (Kd.R_below HZ12.out hb);replace HZ17:=zMk (Kd.R_below HZ17.out hb);replace HZ18:=zMk (Kd.S_below HZ18.out hb);replace HZ22:=zMk (Kd.R_below HZ22.out hb);replace HZ29:=zMk (Kd.R_below HZ29.out hb);replace HZ30:=zMk (Kd.S_below HZ30.out hb);replace HZ48:=zMk (Kd.R_below HZ48.out hb);replace HZ49:=zMk (Kd.S_below HZ49.out hb);replace HZ52:=zMk (Kd.R_below HZ52.out hb);replace BK1:=zMk (blk_below BK1.out hb);replace BK19:=zMk (blk_below BK19.out hb);replace HB:=zMk (below_step HB.out hb);replace HL:=zMk (And.intro HL.out (below_size hb));clear hb;clear hcz201 hfz202 hcz203 hfz204 hcz205 hfz206 hcz207 hfz208 hcz209 hfz210 hcz211 hfz212;have hcz214 : w213.cell? ⟨gb1,0,none⟩ = some (.slice A0_0 l0_0.length c0_0):=(zCl BK1.out 0).trans rfl;have hfz215:=zFr BK1.out 0;have hcz216 : w213.cell? ⟨gb1,1,none⟩ = some (.slice A0_1 l0_1.length c0_1):=(zCl BK1.out 1).trans rfl;have hfz217:=zFr BK1.out 1;have hcz218 : w213.cell? ⟨gb1,2,none⟩ = some (.int .i64 a0_2):=(zCl BK1.out 2).trans rfl;have hfz219:=zFr BK1.out 2;have hcz220 : w213.cell? ⟨gb19,0,none⟩ = some (.slice A17 t14.length c17):=(zCl BK19.out 0).trans rfl;have hfz221:=zFr BK19.out 0;have hcz222 : w213.cell? ⟨gb19,1,none⟩ = some (.slice A18 t15.length c18):=(zCl BK19.out 1).trans rfl;have hfz223:=zFr BK19.out 1;have hcz224 : w213.cell? ⟨gb19,2,none⟩ = some (.int .i64 t16):=(zCl BK19.out 2).trans rfl;have hfz225:=zFr BK19.out 2))
 go_ret
 exact ⟨rfl,HB.out⟩
end Go.Proofs.Ytklkhnomnanpoaa.PK

/- What a law's arguments, read as data, are as the print's kinds. -/
namespace Go.Proofs.Ytklkhnomnanpoaa.Open
open Go.RowKit Go.Proofs.YtklkhnomnanpoaaW.PrintWords
/-- A datum that is read at type t is of kind d, and each such y meets wf. -/
def Opn {α : Type} (P : Program) (t : TypeId) (d : Kd α) (wf : α → Prop) : Prop :=
  ∀ (H : Type) (enc : TypeId × Value → H) (w : World) (base : Nat) (spare : Nat → Bool) (held : Bool) (fuel : Nat) (cs : List Value) (x : DataW H × List MemPlace),
    DataW.trod enc P w base spare held fuel t cs = some x → ∃ y : α, d.K w y cs ∧ wf y

theorem opn_int {P : Program} {t : TypeId} {k : IntKind} (hu : P.underlying t = some (.int k)) : Opn P t (Kd.int k) (fun n => (Lit.int k n).wf = true) := by
  intro H enc w base spare held fuel cs x h
  obtain ⟨n, rfl, _, hw⟩ := DataW.trod_int hu h
  exact ⟨n, rfl, hw⟩
theorem opn_bool {P : Program} {t : TypeId} (hu : P.underlying t = some .bool) : Opn P t Kd.bool (fun _ => True) := by
  intro H enc w base spare held fuel cs x h
  obtain ⟨n, rfl, _⟩ := DataW.trod_bool hu h
  exact ⟨n, rfl, trivial⟩
theorem opn_string {P : Program} {t : TypeId} (hu : P.underlying t = some .string) : Opn P t Kd.string (fun s => s.size ≤ maxLen) := by
  intro H enc w base spare held fuel cs x h
  obtain ⟨n, rfl, _, hw⟩ := DataW.trod_string hu h
  exact ⟨n, rfl, hw⟩
theorem choose_list {α : Type} {Q : Nat → α → Prop} : ∀ (n : Nat), (∀ i, i < n → ∃ y, Q i y) → ∃ ys : List α, ys.length = n ∧ ∀ i y, ys[i]? = some y → Q i y
  | 0, _ => ⟨[], rfl, fun i y h => by simp at h⟩
  | n + 1, h => by
    obtain ⟨ys, hl, hq⟩ := choose_list n (fun i hi => h i (by omega))
    obtain ⟨y, hy⟩ := h n (by omega)
    refine ⟨ys ++ [y], by simp [hl], fun i z hz => ?_⟩
    rcases Nat.lt_or_ge i ys.length with hi | hi
    · rw [List.getElem?_append_left hi] at hz
      exact hq i z hz
    · rw [List.getElem?_append_right hi] at hz
      have hi2 : i - ys.length = 0 := by
        have := (List.getElem?_eq_some_iff.1 hz).1
        simp at this
        omega
      rw [hi2] at hz
      have : i = n := by omega
      subst this
      simp at hz
      subst hz
      exact hy
theorem adds (a : Addr) (m n : Nat) : (a.add m).add n = a.add (m + n) := by
  unfold Addr.add
  by_cases h1 : m = 0 <;> by_cases h2 : n = 0 <;> simp_all [Nat.add_assoc]
theorem opn_slice {α : Type} {P : Program} {t e : TypeId} {d : Kd α} {wf : α → Prop} (hu : P.underlying t = some (.slice e)) (hc : P.cellsOf e = d.sz) (ho : Opn P e d wf) :
    Opn P t (Kd.slice e d) (fun xs => xs.length ≤ maxLen ∧ ∀ x ∈ xs, wf x) := by
  intro H enc w base spare held fuel cs x h
  rcases DataW.trod_slice hu h with ⟨rfl, _⟩ | ⟨a, len, cap, elems, rest, n, _, rfl, _, hb, hl, hm, hlen, hel, _, _⟩
  · refine ⟨[], ⟨none, 0, rfl, Nat.le_refl _, rfl, by simp, fun h0 => absurd h0 (by simp)⟩, by simp, fun x hx => absurd hx (by simp)⟩
  · have each : ∀ i, i < len → ∃ y : α, ∃ c : List Value, (c.length = d.sz ∧ d.K w y c ∧ ∀ j u, c[j]? = some u → w.cell? (a.add (i * d.sz + j)) = some u) ∧ wf y := by
      intro i hi
      have h1 := hel i hi
      rw [List.getElem?_eq_getElem (by omega), Option.bind_eq_some_iff, hc] at h1
      obtain ⟨c, h2, h3⟩ := h1
      obtain ⟨_, hcl, hcell⟩ := World.cells?_some h2
      obtain ⟨y, hk, hw⟩ := ho H enc w base spare held n c _ h3
      refine ⟨y, c, ⟨hcl, hk, fun j u hj => ?_⟩, hw⟩
      have hjl : j < c.length := (List.getElem?_eq_some_iff.1 hj).1
      rw [← adds, hcell j (by omega), hj]
    obtain ⟨ys, hyl, hys⟩ := choose_list len each
    have hml : len ≤ maxLen := Nat.le_trans hl hm
    refine ⟨ys, ⟨some a, cap, by rw [hyl], by rw [hyl]; exact hl, rfl, by rw [hyl]; simpa only [maxLen] using hml, fun _ => ⟨a, rfl, fun j p hj => ?_⟩⟩, by rw [hyl]; exact hml, fun y hy => ?_⟩
    · obtain ⟨c, hq, _⟩ := hys j p hj
      exact ⟨c, hq⟩
    · obtain ⟨j, hj, he⟩ := List.getElem_of_mem hy
      obtain ⟨_, _, hw⟩ := hys j y (by rw [List.getElem?_eq_getElem hj, he])
      exact hw

/-- The fields fs, read off the cells from off on, are of kind d. -/
def OpnF {α : Type} (P : Program) (fs : List Field) (off : Nat) (d : Kd α) (wf : α → Prop) : Prop :=
  ∀ (H : Type) (enc : TypeId × Value → H) (w : World) (base : Nat) (spare : Nat → Bool) (held : Bool) (fuel : Nat) (cs : List Value), cs.length = off + d.sz →
    (∀ f ∈ fs, ∃ x, DataW.trod enc P w base spare held fuel f.type ((cs.drop f.offset).take (P.cellsOf f.type)) = some x) → ∃ y : α, d.K w y (cs.drop off) ∧ wf y
theorem opnF_one {α : Type} {P : Program} {f : Field} {off : Nat} {d : Kd α} {wf : α → Prop} (hoff : f.offset = off) (hc : P.cellsOf f.type = d.sz) (ho : Opn P f.type d wf) : OpnF P [f] off d wf := by
  intro H enc w base spare held fuel cs hl h
  obtain ⟨x, hx⟩ := h f (by simp)
  obtain ⟨y, hk, hw⟩ := ho H enc w base spare held fuel _ x hx
  rw [hoff, hc, List.take_of_length_le (by rw [List.length_drop]; omega)] at hk
  exact ⟨y, hk, hw⟩
theorem opnF_cons {α β : Type} {P : Program} {f : Field} {fs : List Field} {off : Nat} {a : Kd α} {b : Kd β} {wa : α → Prop} {wb : β → Prop} (hoff : f.offset = off) (hc : P.cellsOf f.type = a.sz) (ho : Opn P f.type a wa) (hr : OpnF P fs (off + a.sz) b wb) :
    OpnF P (f :: fs) off (Kd.pair a b) (fun p => wa p.1 ∧ wb p.2) := by
  intro H enc w base spare held fuel cs hl h
  obtain ⟨x, hx⟩ := h f (by simp)
  obtain ⟨y, hk, hw⟩ := ho H enc w base spare held fuel _ x hx
  have hsz : (Kd.pair a b).sz = a.sz + b.sz := rfl
  obtain ⟨z, hk2, hw2⟩ := hr H enc w base spare held fuel cs (by omega) (fun g hg => h g (List.mem_cons_of_mem _ hg))
  rw [hoff, hc] at hk
  refine ⟨(y, z), ⟨(cs.drop off).take a.sz, cs.drop (off + a.sz), ?_, hk, hk2⟩, hw, hw2⟩
  rw [← List.drop_drop, List.take_append_drop]
theorem opn_tuple {α : Type} {P : Program} {t : TypeId} {fs : List Field} {d : Kd α} {wf : α → Prop} (hu : P.underlying t = some (.struct fs.toArray)) (hc : P.cellsOf t = d.sz) (ho : OpnF P fs 0 d wf) :
    Opn P t d wf := by
  intro H enc w base spare held fuel cs x h
  obtain ⟨xs, n, _, _, hl, hlen, hf⟩ := DataW.trod_struct hu h
  obtain ⟨y, hk, hw⟩ := ho H enc w base spare held n cs (by omega) (fun fl hfl => by
    obtain ⟨i, hi, he⟩ := List.getElem_of_mem hfl
    have h1 := hf i fl (by simpa using (List.getElem?_eq_getElem hi).trans (congrArg some he))
    have hlen2 : xs.length = fs.length := by simpa using hlen
    exact ⟨xs[i]'(by omega), by rw [h1, List.getElem?_eq_getElem]⟩)
  exact ⟨y, by simpa using hk, hw⟩
theorem opn_struct {α β : Type} {P : Program} {t : TypeId} {fs : List Field} {d : Kd α} {wf : α → Prop} (f : β → α) (g : α → β) (hfg : ∀ a, f (g a) = a) (hu : P.underlying t = some (.struct fs.toArray)) (hc : P.cellsOf t = d.sz) (ho : OpnF P fs 0 d wf) :
    Opn P t (Kd.iso d f) (fun y => wf (f y)) := by
  intro H enc w base spare held fuel cs x h
  obtain ⟨xs, n, _, _, hl, hlen, hf⟩ := DataW.trod_struct hu h
  obtain ⟨y, hk, hw⟩ := ho H enc w base spare held n cs (by omega) (fun fl hfl => by
    obtain ⟨i, hi, he⟩ := List.getElem_of_mem hfl
    have h1 := hf i fl (by simpa using (List.getElem?_eq_getElem hi).trans (congrArg some he))
    have hlen2 : xs.length = fs.length := by simpa using hlen
    exact ⟨xs[i]'(by omega), by rw [h1, List.getElem?_eq_getElem]⟩)
  exact ⟨g y, by show d.K w (f (g y)) cs; rw [hfg]; simpa using hk, by show wf (f (g y)); rw [hfg]; exact hw⟩
end Go.Proofs.Ytklkhnomnanpoaa.Open

/- Plain facts on rounds, lists and whole numbers, for the pure statements. -/
namespace Go.Proofs.Ytklkhnomnanpoaa.Pu
open Go.RowKit Go.Proofs.YtklkhnomnanpoaaW.PrintWords
theorem w64 {x : Int} (h1 : -9223372036854775808 ≤ x) (h2 : x ≤ 9223372036854775807) : wrap64 x = x := by
  unfold wrap64; omega
theorem wsucc {i n : Nat} (h : i < n) (hn : n ≤ 9223372036854775807) : wrap64 ((i : Int) + 1) = ((i + 1 : Nat) : Int) := by
  rw [w64 (by omega) (by omega)]; rfl
theorem wf_i64 {n : Int} (h : (Lit.int .i64 n).wf = true) : -9223372036854775808 ≤ n ∧ n ≤ 9223372036854775807 := by
  simp only [Lit.wf, Bool.and_eq_true, decide_eq_true_eq] at h
  have h1 : IntKind.min .i64 = -9223372036854775808 := by decide
  have h2 : IntKind.max .i64 = 9223372036854775807 := by decide
  omega

/-- Rounds: what is told, a step on. -/
theorem ev_some {α : Type} {g : Nat → Option α} {r : α} (h : ∀ k, g (k + 1) = some r) : Ev g r := Ev.step h (Ev.now r)
theorem ev_const {α : Type} {o : Option α} {r : α} (h : o = some r) : Ev (fun _ => o) r := ⟨0, fun _ _ => h⟩
theorem ev_bind {α β : Type} {g : Nat → Option α} {f : Nat → α → Option β} {a : α} {r : β} (h : Ev g a) (k : Ev (fun n => f n a) r) : Ev (fun n => (g n).bind (f n)) r := Ev.bind h k
theorem ev_uniq {α : Type} {g : Nat → Option α} {a b : α} (h : Ev g a) (k : Ev g b) : a = b := by
  obtain ⟨K, hK⟩ := h
  obtain ⟨M, hM⟩ := k
  have h1 := hK (max K M) (Nat.le_max_left _ _)
  rw [hM (max K M) (Nat.le_max_right _ _)] at h1
  injection h1 with h1
  exact h1.symm
theorem ev_ext {α : Type} {g f : Nat → Option α} {r : α} (h : ∀ k, g k = f k) (k : Ev f r) : Ev g r := Ev.congr h k

/-- A row that is made and filled, place by place. -/
theorem ev_fill {β : Type} {L : Nat → List β → Int → Option (List β)} {E : Nat → Int → Option β} {n : Nat} {e : Nat → β} (hn : n ≤ 9223372036854775807)
    (hs : ∀ k xs i, L (k + 1) xs i = if i < (n : Int) then (if 0 ≤ i then ((E k i).bind fun b => if i < (xs.length : Int) then L k (xs.set i.toNat b) (wrap64 (i + 1)) else none) else none) else some xs)
    (hE : ∀ i, i < n → Ev (fun k => E k (i : Int)) (e i)) :
    ∀ (d i : Nat) (xs : List β), xs.length = n → i + d = n → Ev (fun k => L k xs (i : Int)) (xs.take i ++ (List.range' i d).map e) := by
  intro d
  induction d with
  | zero =>
    intro i xs hl hi
    refine ev_some fun k => ?_
    rw [hs, if_neg (by omega)]
    simp [List.take_of_length_le (show xs.length ≤ i by omega)]
  | succ d ih =>
    intro i xs hl hi
    refine Ev.step (f := fun k => (E k (i : Int)).bind fun b => L k (xs.set i b) ((i + 1 : Nat) : Int)) (fun k => ?_) ?_
    · rw [hs, if_pos (by omega), if_pos (by omega), wsucc (n := n) (by omega) hn]
      congr 1
      funext b
      rw [if_pos (by omega)]
      rfl
    · refine ev_bind (hE i (by omega)) ?_
      have h := ih (i + 1) (xs.set i (e i)) (by rw [List.length_set]; exact hl) (by omega)
      have e1 : (xs.set i (e i)).take (i + 1) ++ (List.range' (i + 1) d).map e = xs.take i ++ (List.range' i (d + 1)).map e := by
        rw [List.range'_succ, List.map_cons, List.take_succ_eq_append_getElem (by rw [List.length_set]; omega), List.getElem_set_self, List.take_set_of_le (Nat.le_refl _)]
        simp
      rw [e1] at h
      exact h
theorem map_range {α β : Type} (l : List α) (z : α) (g : α → β) : (List.range' 0 l.length).map (fun i => g (l.getD i z)) = l.map g := by
  apply List.ext_getElem
  · simp
  · intro i h1 h2
    simp only [List.length_map] at h2
    simp [List.getD_eq_getElem?_getD, List.getElem?_eq_getElem h2]
theorem ev_fill_all {α β : Type} {L : Nat → List β → Int → Option (List β)} {E : Nat → Int → Option β} {l : List α} {z : α} {g : α → β} {xs : List β} (hn : l.length ≤ 9223372036854775807)
    (hs : ∀ k xs i, L (k + 1) xs i = if i < (l.length : Int) then (if 0 ≤ i then ((E k i).bind fun b => if i < (xs.length : Int) then L k (xs.set i.toNat b) (wrap64 (i + 1)) else none) else none) else some xs)
    (hE : ∀ i, i < l.length → Ev (fun k => E k (i : Int)) (g (l.getD i z))) (hx : xs.length = l.length) : Ev (fun k => L k xs 0) (l.map g) := by
  have h := ev_fill (e := fun i => g (l.getD i z)) hn hs hE l.length 0 xs hx (by omega)
  rw [map_range] at h
  simpa using h

/-- Every place meets a test, tried place by place. -/
theorem ev_all {L E : Nat → Int → Option Bool} {n m : Nat} (hn : n ≤ 9223372036854775807) (hnm : n ≤ m)
    (hs : ∀ k i, L (k + 1) i = if i < (n : Int) then (if 0 ≤ i then (if i < (m : Int) then ((E k i).bind fun b => if b = true then L k (wrap64 (i + 1)) else some false) else none) else none) else some true)
    (hE : ∀ i, i < n → Ev (fun k => E k (i : Int)) true) : ∀ (d i : Nat), i + d = n → Ev (fun k => L k (i : Int)) true := by
  intro d
  induction d with
  | zero => intro i hi; exact ev_some fun k => by rw [hs, if_neg (by omega)]
  | succ d ih =>
    intro i hi
    refine Ev.step (f := fun k => (E k (i : Int)).bind fun b => if b = true then L k ((i + 1 : Nat) : Int) else some false) (fun k => ?_) (ev_bind (hE i (by omega)) (by simpa using ih (i + 1) (by omega)))
    rw [hs, if_pos (by omega), if_pos (by omega), if_pos (by omega), wsucc (n := n) (by omega) hn]

/-- What is left of a number, place by place, as long as it is not below 0. -/
theorem ev_size {L E : Nat → Int → Int → Option Int} {n : Nat} {P : Nat → Prop} (hn : n ≤ 9223372036854775807)
    (hs : ∀ k a i, L (k + 1) a i = if i < (n : Int) then (if 0 ≤ i then ((E k i a).bind fun t => if t < 0 then some (-1) else L k t (wrap64 (i + 1))) else none) else some a)
    (hE : ∀ i a, i < n → 0 ≤ a → a ≤ 1048576 → ∃ t, Ev (fun k => E k (i : Int) a) t ∧ t ≤ a ∧ (0 ≤ t → P i)) :
    ∀ (d i : Nat) (a : Int), i + d = n → 0 ≤ a → a ≤ 1048576 → ∃ r, Ev (fun k => L k a (i : Int)) r ∧ r ≤ a ∧ (0 ≤ r → ∀ m, i ≤ m → m < n → P m) := by
  intro d
  induction d with
  | zero => intro i a hi h0 h1; exact ⟨a, ev_some fun k => by rw [hs, if_neg (by omega)], Int.le_refl _, fun _ m h2 h3 => by omega⟩
  | succ d ih =>
    intro i a hi h0 h1
    obtain ⟨t, ht, hta, hp⟩ := hE i a (by omega) h0 h1
    have hst : ∀ k, L (k + 1) a (i : Int) = (E k (i : Int) a).bind fun t => if t < 0 then some (-1) else L k t ((i + 1 : Nat) : Int) := fun k => by
      rw [hs, if_pos (by omega), if_pos (by omega), wsucc (n := n) (by omega) hn]
    by_cases hneg : t < 0
    · exact ⟨-1, Ev.step hst (ev_bind ht (by simp only [if_pos hneg]; exact Ev.now _)), by omega, fun h => by omega⟩
    · obtain ⟨r, hr, hra, hq⟩ := ih (i + 1) t (by omega) (by omega) (by omega)
      refine ⟨r, Ev.step hst (ev_bind ht (by simp only [if_neg hneg]; exact hr)), by omega, fun h0r m h2 h3 => ?_⟩
      by_cases e : m = i
      · subst e; exact hp (by omega)
      · exact hq h0r m (by omega) h3
end Go.Proofs.Ytklkhnomnanpoaa.Pu

/- More plain facts on rounds: tests in a row, folds, searches. -/
namespace Go.Proofs.Ytklkhnomnanpoaa.Pu
open Go.RowKit Go.Proofs.YtklkhnomnanpoaaW.PrintWords
/-- Tests in a row, one a round; then what comes. -/
theorem ev_scan {L : Nat → Int → Option Bool} {g : Nat → Option Bool} {n : Nat} {T : Nat → Bool} {r : Bool}
    (hs : ∀ k i, i < n → L (k + 1) (i : Int) = if T i = true then L k ((i + 1 : Nat) : Int) else some false) (he : ∀ k, L (k + 1) (n : Int) = g k) (hr : Ev g r) :
    ∀ (d i : Nat), i + d = n → Ev (fun k => L k (i : Int)) ((List.range' i d).all T && r) := by
  intro d
  induction d with
  | zero =>
    intro i hi
    obtain rfl : i = n := by omega
    exact Ev.step he hr
  | succ d ih =>
    intro i hi
    rw [List.range'_succ, List.all_cons]
    by_cases h : T i = true
    · rw [h, Bool.true_and]
      exact Ev.step (fun k => by rw [hs k i (by omega), if_pos h]) (ih (i + 1) (by omega))
    · rw [Bool.eq_false_iff.mpr h, Bool.false_and, Bool.false_and]
      exact ev_some fun k => by rw [hs k i (by omega), if_neg h]
/-- Tests in a row, each of many rounds; then what comes. -/
theorem ev_outer {L : Nat → Int → Option Bool} {n : Nat} {T : Nat → Bool} {r0 : Bool}
    (hs : ∀ i r, i < n → Ev (fun k => L k ((i + 1 : Nat) : Int)) r → Ev (fun k => L k (i : Int)) (T i && r)) (he : Ev (fun k => L k (n : Int)) r0) :
    ∀ (d i : Nat), i + d = n → Ev (fun k => L k (i : Int)) ((List.range' i d).all T && r0) := by
  intro d
  induction d with
  | zero =>
    intro i hi
    obtain rfl : i = n := by omega
    exact he
  | succ d ih =>
    intro i hi
    rw [List.range'_succ, List.all_cons, Bool.and_assoc]
    exact hs i _ (by omega) (ih (i + 1) (by omega))
/-- A state that is carried along; then what comes. -/
theorem ev_fold {σ ρ : Type} {L : Nat → σ → Int → Option ρ} {n : Nat} {F : σ → Nat → σ} {fin : σ → ρ} (Inv : Nat → σ → Prop)
    (hs : ∀ s i, i < n → Inv i s → ∀ r, Ev (fun k => L k (F s i) ((i + 1 : Nat) : Int)) r → Ev (fun k => L k s (i : Int)) r) (hi : ∀ s i, i < n → Inv i s → Inv (i + 1) (F s i))
    (he : ∀ s, Inv n s → Ev (fun k => L k s (n : Int)) (fin s)) : ∀ (d i : Nat) (s : σ), i + d = n → Inv i s → Ev (fun k => L k s (i : Int)) (fin ((List.range' i d).foldl F s)) := by
  intro d
  induction d with
  | zero =>
    intro i s h hv
    obtain rfl : i = n := by omega
    exact he s hv
  | succ d ih =>
    intro i s h hv
    rw [List.range'_succ, List.foldl_cons]
    exact hs s i (by omega) hv _ (ih (i + 1) (F s i) (by omega) (hi s i (by omega) hv))
/-- The first place that meets a test, -1 without one. -/
def findI (T : Nat → Bool) : Nat → Nat → Int
  | _, 0 => -1
  | i, d + 1 => if T i = true then (i : Int) else findI T (i + 1) d
theorem ev_find {L : Nat → Int → Option Int} {n : Nat} {T : Nat → Bool}
    (hy : ∀ i, i < n → T i = true → Ev (fun k => L k (i : Int)) (i : Int)) (hn : ∀ i, i < n → T i = false → ∀ r, Ev (fun k => L k ((i + 1 : Nat) : Int)) r → Ev (fun k => L k (i : Int)) r)
    (he : Ev (fun k => L k (n : Int)) (-1)) : ∀ (d i : Nat), i + d = n → Ev (fun k => L k (i : Int)) (findI T i d) := by
  intro d
  induction d with
  | zero =>
    intro i hi
    obtain rfl : i = n := by omega
    exact he
  | succ d ih =>
    intro i hi
    unfold findI
    by_cases h : T i = true
    · rw [if_pos h]; exact hy i (by omega) h
    · rw [if_neg h]; exact hn i (by omega) (Bool.eq_false_iff.mpr h) _ (ih (i + 1) (by omega))
theorem findI_range {T : Nat → Bool} : ∀ (d i : Nat), findI T i d = -1 ∨ ∃ j, i ≤ j ∧ j < i + d ∧ findI T i d = (j : Int) ∧ T j = true
  | 0, i => .inl rfl
  | d + 1, i => by
    unfold findI
    by_cases h : T i = true
    · rw [if_pos h]; exact .inr ⟨i, Nat.le_refl _, by omega, rfl, h⟩
    · rw [if_neg h]
      rcases findI_range d (i + 1) with h1 | ⟨j, h1, h2, h3, h4⟩
      · exact .inl h1
      · exact .inr ⟨j, by omega, by omega, h3, h4⟩
theorem bytes_empty (a : ByteArray) : (a.toList == ([] : List UInt8)) = decide ((a.size : Int) ≤ 0) := by
  rw [ByteArray.toList_eq]
  have h : a.data.toList.length = a.size := by rw [Array.length_toList]; rfl
  cases e : a.data.toList with
  | nil =>
    have h1 : a.size = 0 := by rw [← h, e]; rfl
    rw [decide_eq_true (by omega)]; rfl
  | cons x l =>
    have h1 : a.size = l.length + 1 := by rw [← h, e]; rfl
    rw [decide_eq_false (by omega)]; rfl
theorem getD_mem' {α : Type} {l : List α} {i : Nat} {z : α} (hi : i < l.length) : l.getD i z ∈ l := by
  rw [List.getD_eq_getElem?_getD, List.getElem?_eq_getElem hi]; exact List.getElem_mem hi
end Go.Proofs.Ytklkhnomnanpoaa.Pu

/- What the functions on arenas answer: sizes, copies, comparison, and when an arena is right. -/
namespace Go.Proofs.Ytklkhnomnanpoaa.Pu
open Go.RowKit Go.Proofs.Ytklkhnomnanpoaa.PK Go.Proofs.YtklkhnomnanpoaaW.PrintWords
theorem rd_nat (l : List Int) (i : Nat) : rd l (i : Int) = l.getD i 0 := rfl
theorem rdLK_nat (l : List S144) (i : Nat) : rd_T144 l (i : Int) = l.getD i z144 := rfl
theorem rdIK_nat (l : List S147) (i : Nat) : rd_T147 l (i : Int) = l.getD i z147 := rfl

def toK (x : S144) : S147 := ⟨x.f0, x.f1⟩
def toA (l : List S144) : List S147 := l.map toK

theorem toIntS_ev (l : List Int) (h : l.length ≤ 35184372088832) : Ev (fun k => laws_toIntS.f k l) l := by
  have hn : l.length ≤ 9223372036854775807 := by omega
  have h1 := ev_fill_all (E := fun _ i => some (rd l i)) (l := l) (z := 0) (g := fun x => x) (xs := List.replicate l.length 0) (L := fun k xs i => laws_toIntS.l0 k l xs i) hn (fun k xs i => by
    simp only [laws_toIntS.l0, Option.bind_some]) (fun i _ => by rw [rd_nat]; exact Ev.now _) (by simp)
  rw [List.map_id'] at h1
  refine ev_ext (fun k => ?_) h1
  unfold laws_toIntS.f
  rw [if_pos (by omega), if_pos (by simpa using h)]
  simp
theorem toKnot_ev (b : Bool) (l : List Int) (h : l.length ≤ 35184372088832) : Ev (fun k => laws_toKnot.f k b l) (b, l) := by
  unfold laws_toKnot.f
  exact ev_bind (toIntS_ev l h) (Ev.now _)
theorem toKnotS_ev (l : List S144) (h : l.length ≤ 8796093022208) (hk : ∀ x ∈ l, x.f1.length ≤ 35184372088832) : Ev (fun k => laws_toKnotS.f k l) (toA l) := by
  have hn : l.length ≤ 9223372036854775807 := by omega
  have h1 := ev_fill_all (E := fun k i => (laws_toKnot.f k (rd_T144 l i).f0 (rd_T144 l i).f1).bind fun bt => some (⟨bt.1, bt.2⟩ : S147)) (l := l) (z := z144) (g := toK) (xs := List.replicate l.length z147) (L := fun k xs i => laws_toKnotS.l0 k l xs i) hn (fun k xs i => by
    simp only [laws_toKnotS.l0, Option.bind_assoc, Option.bind_some]) (fun i hi => by
      rw [rdLK_nat]
      have hm : l.getD i z144 ∈ l := by rw [List.getD_eq_getElem?_getD, List.getElem?_eq_getElem hi]; exact List.getElem_mem hi
      exact ev_bind (toKnot_ev _ _ (hk _ hm)) (Ev.now _)) (by simp)
  refine ev_ext (fun k => ?_) h1
  unfold laws_toKnotS.f
  rw [if_pos (by omega), if_pos (by simpa using h)]
  simp
theorem toArena_ev (l : List S144) (h : l.length ≤ 8796093022208) (hk : ∀ x ∈ l, x.f1.length ≤ 35184372088832) : Ev (fun k => laws_toArena.f k l) (toA l) := by
  unfold laws_toArena.f
  exact ev_bind (toKnotS_ev l h hk) (Ev.now _)

theorem eqIntS_ev (l : List Int) (hn : l.length ≤ 9223372036854775807) : Ev (fun k => laws_eqIntS.f k l l) true := by
  have h1 := ev_all (n := l.length) (m := l.length) (L := fun k i => laws_eqIntS.l0 k l l i) (E := fun _ _ => some true) hn (Nat.le_refl _) (fun k i => by simp [laws_eqIntS.l0]) (fun i _ => Ev.now _) l.length 0 (by omega)
  refine ev_ext (fun k => ?_) h1
  unfold laws_eqIntS.f
  rw [if_pos rfl]; rfl
theorem eqKnot_ev (b : Bool) (l : List Int) (hn : l.length ≤ 9223372036854775807) : Ev (fun k => laws_eqKnot.f k b l b l) true := by
  unfold laws_eqKnot.f
  simp only [bne_self_eq_false, Bool.false_eq_true, if_false]
  exact ev_bind (eqIntS_ev l hn) (by simp only [if_true]; exact Ev.now _)
theorem eqKnotS_ev (l : List S147) (hn : l.length ≤ 9223372036854775807) (hk : ∀ x ∈ l, x.f1.length ≤ 9223372036854775807) : Ev (fun k => laws_eqKnotS.f k l l) true := by
  have h1 := ev_all (n := l.length) (m := l.length) (L := fun k i => laws_eqKnotS.l0 k l l i) (E := fun k i => laws_eqKnot.f k (rd_T147 l i).f0 (rd_T147 l i).f1 (rd_T147 l i).f0 (rd_T147 l i).f1) hn (Nat.le_refl _) (fun k i => by simp only [laws_eqKnotS.l0]) (fun i hi => by
    rw [rdIK_nat]
    have hm : l.getD i z147 ∈ l := by rw [List.getD_eq_getElem?_getD, List.getElem?_eq_getElem hi]; exact List.getElem_mem hi
    exact eqKnot_ev _ _ (hk _ hm)) l.length 0 (by omega)
  refine ev_ext (fun k => ?_) h1
  unfold laws_eqKnotS.f
  rw [if_pos rfl]; rfl
theorem eqArena_ev (l : List S147) (hn : l.length ≤ 9223372036854775807) (hk : ∀ x ∈ l, x.f1.length ≤ 9223372036854775807) : Ev (fun k => laws_eqArena.f k l l) true := by
  unfold laws_eqArena.f
  exact ev_bind (eqKnotS_ev l hn hk) (by simp only [if_true]; exact Ev.now _)

theorem szIntS_eq (l : List Int) (a : Int) (h0 : 0 ≤ a) (h1 : a ≤ 1048576) (hn : l.length ≤ 9223372036854775807) : ∃ t, laws_szIntS.f l a = some t ∧ t ≤ a ∧ (0 ≤ t → (l.length : Int) ≤ a) := by
  unfold laws_szIntS.f
  rw [w64 (by omega) (by omega)]
  by_cases h : a - (l.length : Int) < 0
  · exact ⟨-1, by rw [if_pos h], by omega, fun h2 => by omega⟩
  · exact ⟨_, by rw [if_neg h], by omega, fun _ => by omega⟩
theorem szKnot_eq (b : Bool) (l : List Int) (a : Int) (h0 : 0 ≤ a) (h1 : a ≤ 1048576) (hn : l.length ≤ 9223372036854775807) : ∃ t, laws_szKnot.f b l a = some t ∧ t ≤ a ∧ (0 ≤ t → (l.length : Int) ≤ a) := by
  obtain ⟨t, ht, hta, hp⟩ := szIntS_eq l a h0 h1 hn
  unfold laws_szKnot.f
  rw [ht]
  simp only [Option.bind_some]
  by_cases h : t < 0
  · exact ⟨-1, by rw [if_pos h], by omega, fun h2 => by omega⟩
  · exact ⟨t, by rw [if_neg h], hta, hp⟩
theorem szKnotS_ev (l : List S144) (a : Int) (h0 : 0 ≤ a) (h1 : a ≤ 1048576) (hn : l.length ≤ 9223372036854775807) (hk : ∀ x ∈ l, x.f1.length ≤ 9223372036854775807) :
    ∃ r, Ev (fun k => laws_szKnotS.f k l a) r ∧ r ≤ a ∧ (0 ≤ r → (l.length : Int) ≤ a ∧ ∀ x ∈ l, (x.f1.length : Int) ≤ 1048576) := by
  by_cases h : a - (l.length : Int) < 0
  · refine ⟨-1, ⟨0, fun k _ => ?_⟩, by omega, fun h2 => by omega⟩
    show laws_szKnotS.f k l a = _
    unfold laws_szKnotS.f
    rw [w64 (by omega) (by omega), if_pos h]
  · obtain ⟨r, hr, hra, hq⟩ := ev_size (n := l.length) (L := fun k a i => laws_szKnotS.l0 k l a i) (E := fun _ i a => laws_szKnot.f (rd_T144 l i).f0 (rd_T144 l i).f1 a) (P := fun i => ((l.getD i z144).f1.length : Int) ≤ 1048576) hn (fun k a i => by simp only [laws_szKnotS.l0])
      (fun i a hi h2 h3 => by
        have hm : l.getD i z144 ∈ l := by rw [List.getD_eq_getElem?_getD, List.getElem?_eq_getElem hi]; exact List.getElem_mem hi
        obtain ⟨t, ht, hta, hp⟩ := szKnot_eq (rd_T144 l i).f0 (rd_T144 l i).f1 a h2 h3 (by rw [rdLK_nat]; exact hk _ hm)
        exact ⟨t, ev_const ht, hta, fun h4 => by have := hp h4; rw [rdLK_nat] at this; omega⟩) l.length 0 (a - (l.length : Int)) (by omega) (by omega) (by omega)
    refine ⟨r, ev_ext (fun k => ?_) hr, by omega, fun h2 => ⟨by omega, fun x hx => ?_⟩⟩
    · unfold laws_szKnotS.f
      rw [w64 (by omega) (by omega), if_neg h]; rfl
    · obtain ⟨i, hi, rfl⟩ := List.getElem_of_mem hx
      have := hq h2 i (by omega) hi
      rwa [List.getD_eq_getElem?_getD, List.getElem?_eq_getElem hi] at this
theorem szArena_ev (l : List S144) (a : Int) (h0 : 0 ≤ a) (h1 : a ≤ 1048576) (hn : l.length ≤ 9223372036854775807) (hk : ∀ x ∈ l, x.f1.length ≤ 9223372036854775807) :
    ∃ r, Ev (fun k => laws_szArena.f k l a) r ∧ r ≤ a ∧ (0 ≤ r → (l.length : Int) ≤ a ∧ ∀ x ∈ l, (x.f1.length : Int) ≤ 1048576) := by
  obtain ⟨r, hr, hra, hq⟩ := szKnotS_ev l a h0 h1 hn hk
  by_cases h : r < 0
  · exact ⟨-1, by unfold laws_szArena.f; exact ev_bind hr (by simp only [if_pos h]; exact Ev.now _), by omega, fun h2 => by omega⟩
  · exact ⟨r, by unfold laws_szArena.f; exact ev_bind hr (by simp only [if_neg h]; exact Ev.now _), hra, hq⟩
end Go.Proofs.Ytklkhnomnanpoaa.Pu

/- When an arena is right, as one test; the program's and the reference's ArenaOk answer it. -/
namespace Go.Proofs.Ytklkhnomnanpoaa.Pu
open Go.RowKit Go.Proofs.Ytklkhnomnanpoaa.PK Go.Proofs.YtklkhnomnanpoaaW.PrintWords
theorem in_eq (a l h : Int) : impl_in.f a l h = some (decide (l ≤ a ∧ a ≤ h)) := by
  unfold impl_in.f
  by_cases h1 : a ≥ l
  · rw [if_pos h1]; congr 1; simp; omega
  · rw [if_neg h1]; congr 1; simp; omega
theorem l01In_eq (a l h : Int) : spec_l01In.f a l h = some (decide (l ≤ a ∧ a ≤ h)) := by
  unfold spec_l01In.f
  by_cases h1 : a ≥ l
  · rw [if_pos h1]; congr 1; simp; omega
  · rw [if_neg h1]; congr 1; simp; omega

/-- A kid of the knot at place i. -/
def kidB (l : List S147) (i : Nat) (leaf : Bool) (n : Int) : Bool :=
  if leaf = true then decide (0 ≤ n) else decide (n = -1) || (decide (0 ≤ n ∧ n ≤ (i : Int) - 1) && (l.getD n.toNat z147).f0)
def knotB (l : List S147) (i : Nat) (x : S147) : Bool := decide (x.f1.length = 4) && x.f1.all (kidB l i x.f0)
def arenaB (l : List S147) : Bool := (List.range' 0 l.length).all fun i => knotB l i (l.getD i z147)

theorem sArena_step (k : Nat) (kids : List Int) (i j : Nat) (a : List S147) (leaf : Bool) (hi : i < a.length) (hn : a.length ≤ 9223372036854775807) (hj : j < 4) (hk : kids.length = 4) :
    spec_ArenaOk.l1 (k + 1) i j a leaf kids = if kidB a i leaf (kids.getD j 0) = true then spec_ArenaOk.l1 k i ((j + 1 : Nat) : Int) a leaf kids else some false := by
  simp only [spec_ArenaOk.l1]
  rw [if_pos (by omega), if_pos (by omega), if_pos (by omega), wsucc (n := 4) hj (by omega), w64 (x := (i : Int) - 1) (by omega) (by omega), rd_nat]
  generalize kids.getD j 0 = n
  unfold kidB
  cases leaf with
  | true => by_cases h : n < 0 <;> simp [h] <;> omega
  | false =>
    simp only [Bool.false_eq_true, if_false, l01In_eq, Option.bind_some, decide_eq_true_eq]
    by_cases h1 : n = -1
    · simp [h1]
    · by_cases h2 : 0 ≤ n ∧ n ≤ (i : Int) - 1
      · rw [if_neg h1, if_pos h2, if_pos h2.1, if_pos (by omega)]
        simp [h1, h2, rd_T147]
      · simp [h1, h2]
theorem iArena_step (k : Nat) (kids : List Int) (i j : Nat) (a : List S147) (leaf : Bool) (hi : i < a.length) (hn : a.length ≤ 9223372036854775807) (hj : j < 4) (hk : kids.length = 4) :
    impl_ArenaOk.l1 (k + 1) i a a.length i kids kids.length j a leaf kids = if kidB a i leaf (kids.getD j 0) = true then impl_ArenaOk.l1 k i a a.length i kids kids.length ((j + 1 : Nat) : Int) a leaf kids else some false := by
  simp only [impl_ArenaOk.l1]
  rw [if_pos (by omega), if_pos (by omega), if_pos (by omega), wsucc (n := 4) hj (by omega), w64 (x := (i : Int) - 1) (by omega) (by omega), rd_nat]
  generalize kids.getD j 0 = n
  unfold kidB
  cases leaf with
  | true => by_cases h : n < 0 <;> simp [h] <;> omega
  | false =>
    simp only [Bool.false_eq_true, if_false, in_eq, Option.bind_some, decide_eq_true_eq]
    by_cases h1 : n = -1
    · simp [h1]
    · by_cases h2 : 0 ≤ n ∧ n ≤ (i : Int) - 1
      · rw [if_neg h1, if_pos h2, if_pos h2.1, if_pos (by omega)]
        simp [h1, h2, rd_T147]
      · simp [h1, h2]
/-- The kids of one knot, tried in order; then what comes. -/
theorem ev_kids {L : Nat → Int → Option Bool} {g : Nat → Option Bool} {kids : List Int} {T : Int → Bool} {r : Bool} (hk : kids.length = 4)
    (hs : ∀ k j, j < 4 → L (k + 1) ((j : Nat) : Int) = if T (kids.getD j 0) = true then L k ((j + 1 : Nat) : Int) else some false) (he : ∀ k, L (k + 1) 4 = g k) (hr : Ev g r) :
    ∀ (d j : Nat), j + d = 4 → Ev (fun k => L k (j : Int)) ((kids.drop j).all T && r) := by
  intro d
  induction d with
  | zero =>
    intro j hj
    obtain rfl : j = 4 := by omega
    refine Ev.step (f := g) (fun k => he k) ?_
    rw [List.drop_eq_nil_of_le (by omega)]
    exact hr
  | succ d ih =>
    intro j hj
    have hjl : j < kids.length := by omega
    rw [List.drop_eq_getElem_cons hjl, List.all_cons]
    have e : kids.getD j 0 = kids[j] := by rw [List.getD_eq_getElem?_getD, List.getElem?_eq_getElem hjl]; rfl
    by_cases h : T kids[j] = true
    · rw [h, Bool.true_and]
      exact Ev.step (f := fun k => L k ((j + 1 : Nat) : Int)) (fun k => by rw [hs k j (by omega), e, if_pos h]) (ih (j + 1) (by omega))
    · rw [Bool.eq_false_iff.mpr h, Bool.false_and, Bool.false_and]
      exact ev_some fun k => by rw [hs k j (by omega), e, if_neg h]
theorem sArena_ev (a : List S147) (hn : a.length ≤ 9223372036854775807) : Ev (fun k => spec_ArenaOk.f k a) (arenaB a) := by
  have main : ∀ (d i : Nat), i + d = a.length → Ev (fun k => spec_ArenaOk.l0 k (i : Int) a) ((List.range' i d).all fun i => knotB a i (a.getD i z147)) := by
    intro d
    induction d with
    | zero => intro i hi; exact ev_some fun k => by simp only [spec_ArenaOk.l0]; rw [if_neg (by omega)]; rfl
    | succ d ih =>
      intro i hi
      rw [List.range'_succ, List.all_cons]
      unfold knotB
      by_cases h4 : (a.getD i z147).f1.length = 4
      · rw [decide_eq_true h4, Bool.true_and]
        have h := ev_kids (L := fun k j => spec_ArenaOk.l1 k i j a (a.getD i z147).f0 (a.getD i z147).f1) (T := kidB a i (a.getD i z147).f0) h4 (fun k j hj => sArena_step k (a.getD i z147).f1 i j a _ (by omega) hn hj h4)
          (g := fun k => spec_ArenaOk.l0 k ((i + 1 : Nat) : Int) a) (fun k => by simp only [spec_ArenaOk.l1]; rw [if_neg (by omega), wsucc (n := a.length) (by omega) hn]) (ih (i + 1) (by omega)) 4 0 rfl
        refine Ev.step (fun k => ?_) h
        simp only [spec_ArenaOk.l0]
        rw [if_pos (by omega), if_pos (by omega), rdIK_nat, if_pos (by omega)]
        rfl
      · rw [decide_eq_false h4, Bool.false_and, Bool.false_and]
        refine ev_some fun k => ?_
        simp only [spec_ArenaOk.l0]
        rw [if_pos (by omega), if_pos (by omega), rdIK_nat, if_neg (by omega)]
  exact main a.length 0 (by omega)
theorem iArena_ev (a : List S147) (hn : a.length ≤ 9223372036854775807) : Ev (fun k => impl_ArenaOk.f k a) (arenaB a) := by
  have main : ∀ (d i : Nat), i + d = a.length → Ev (fun k => impl_ArenaOk.l0 k a a.length (i : Int) a) ((List.range' i d).all fun i => knotB a i (a.getD i z147)) := by
    intro d
    induction d with
    | zero => intro i hi; exact ev_some fun k => by simp only [impl_ArenaOk.l0]; rw [if_neg (by omega)]; rfl
    | succ d ih =>
      intro i hi
      rw [List.range'_succ, List.all_cons]
      unfold knotB
      by_cases h4 : (a.getD i z147).f1.length = 4
      · rw [decide_eq_true h4, Bool.true_and]
        have h := ev_kids (L := fun k j => impl_ArenaOk.l1 k i a a.length i (a.getD i z147).f1 (a.getD i z147).f1.length j a (a.getD i z147).f0 (a.getD i z147).f1) (T := kidB a i (a.getD i z147).f0) h4 (fun k j hj => iArena_step k (a.getD i z147).f1 i j a _ (by omega) hn hj h4)
          (g := fun k => impl_ArenaOk.l0 k a a.length ((i + 1 : Nat) : Int) a) (fun k => by simp only [impl_ArenaOk.l1]; rw [if_neg (by omega), wsucc (n := a.length) (by omega) hn]) (ih (i + 1) (by omega)) 4 0 rfl
        refine Ev.step (fun k => ?_) h
        simp only [impl_ArenaOk.l0]
        rw [if_pos (by omega), if_pos (by omega), if_pos (by omega), rdIK_nat, if_pos (by omega)]
        rfl
      · rw [decide_eq_false h4, Bool.false_and, Bool.false_and]
        refine ev_some fun k => ?_
        simp only [impl_ArenaOk.l0]
        rw [if_pos (by omega), if_pos (by omega), if_pos (by omega), rdIK_nat, if_neg (by omega)]
  exact main a.length 0 (by omega)
end Go.Proofs.Ytklkhnomnanpoaa.Pu

/- The number of a sector of a tree, as one function; the program's and the reference's GetAt answer it. -/
namespace Go.Proofs.Ytklkhnomnanpoaa.Pu
open Go.RowKit Go.Proofs.Ytklkhnomnanpoaa.PK Go.Proofs.YtklkhnomnanpoaaW.PrintWords
def rootB (a : List S147) (r : Int) : Bool := decide (0 ≤ r ∧ r ≤ (a.length : Int) - 1) && !(a.getD r.toNat z147).f0
def numB (a : List S147) (r s : Int) : Int := if (a.getD r.toNat z147).f1.getD (s / 4).toNat 0 < 0 then 0 else (a.getD ((a.getD r.toNat z147).f1.getD (s / 4).toNat 0).toNat z147).f1.getD (s % 4).toNat 0
def getB (a : List S147) (r s : Int) : Int := if (0 ≤ s ∧ s ≤ 15) ∧ rootB a r = true ∧ arenaB a = true then numB a r s else 0

theorem knot_of {a : List S147} (h : arenaB a = true) {i : Nat} (hi : i < a.length) : (a.getD i z147).f1.length = 4 ∧ ∀ n ∈ (a.getD i z147).f1, kidB a i (a.getD i z147).f0 n = true := by
  unfold arenaB at h
  rw [List.all_eq_true] at h
  have h1 := h i (by simp; omega)
  unfold knotB at h1
  rw [Bool.and_eq_true, decide_eq_true_eq, List.all_eq_true] at h1
  exact h1
theorem getD_mem {α : Type} {l : List α} {i : Nat} {z : α} (hi : i < l.length) : l.getD i z ∈ l := by
  rw [List.getD_eq_getElem?_getD, List.getElem?_eq_getElem hi]; exact List.getElem_mem hi
/-- A kid of a knot that is no leaf: -1, or the place of a leaf. -/
theorem kid_of {a : List S147} (h : arenaB a = true) {r : Nat} (hr : r < a.length) (hf : (a.getD r z147).f0 = false) {j : Nat} (hj : j < 4) :
    (a.getD r z147).f1.getD j 0 = -1 ∨ (0 ≤ (a.getD r z147).f1.getD j 0 ∧ (a.getD r z147).f1.getD j 0 < r ∧ (a.getD ((a.getD r z147).f1.getD j 0).toNat z147).f0 = true) := by
  obtain ⟨h4, hk⟩ := knot_of h hr
  have h1 := hk _ (getD_mem (i := j) (z := 0) (by omega))
  unfold kidB at h1
  rw [hf] at h1
  simp only [Bool.false_eq_true, if_false, Bool.or_eq_true, decide_eq_true_eq, Bool.and_eq_true] at h1
  rcases h1 with h1 | ⟨h1, h2⟩
  · exact .inl h1
  · exact .inr ⟨h1.1, by omega, h2⟩
theorem iRoot_eq (a : List S147) (r : Int) (hn : a.length ≤ 9223372036854775807) : impl_isRoot.f a r = some (rootB a r) := by
  unfold impl_isRoot.f rootB
  rw [w64 (by omega) (by omega), in_eq]
  simp only [Option.bind_some]
  by_cases h : 0 ≤ r ∧ r ≤ (a.length : Int) - 1
  · rw [decide_eq_true h, if_pos rfl, if_pos h.1, if_pos (by omega), Bool.true_and]; rfl
  · rw [decide_eq_false h, if_neg (by decide), Bool.false_and]
theorem sRoot_eq (a : List S147) (r : Int) (hn : a.length ≤ 9223372036854775807) : spec_l11Root.f a r = some (decide (r = -1) || rootB a r) := by
  unfold spec_l11Root.f rootB
  by_cases h0 : r = -1
  · rw [if_pos h0, decide_eq_true h0, Bool.true_or]
  · rw [if_neg h0, decide_eq_false h0, Bool.false_or, w64 (by omega) (by omega), l01In_eq]
    simp only [Option.bind_some]
    by_cases h : 0 ≤ r ∧ r ≤ (a.length : Int) - 1
    · rw [decide_eq_true h, if_pos rfl, if_pos h.1, if_pos (by omega), Bool.true_and]; rfl
    · rw [decide_eq_false h, if_neg (by decide), Bool.false_and]
theorem div4 {s : Int} (h0 : 0 ≤ s) (h1 : s ≤ 15) : wrap64 (Int.tdiv s 4) = s / 4 ∧ Int.tmod s 4 = s % 4 ∧ 0 ≤ s / 4 ∧ s / 4 < 4 ∧ 0 ≤ s % 4 ∧ s % 4 < 4 := by
  rw [Int.tdiv_eq_ediv_of_nonneg h0, Int.tmod_eq_emod_of_nonneg h0, w64 (by omega) (by omega)]
  omega
theorem root_lt {a : List S147} {r : Int} (h : rootB a r = true) : 0 ≤ r ∧ r.toNat < a.length ∧ (a.getD r.toNat z147).f0 = false := by
  unfold rootB at h
  rw [Bool.and_eq_true, decide_eq_true_eq, Bool.not_eq_true'] at h
  exact ⟨h.1.1, by omega, h.2⟩
theorem iNumber_eq (a : List S147) (r s : Int) (ha : arenaB a = true) (hr : rootB a r = true) (h0 : 0 ≤ s) (h1 : s ≤ 15) : impl_numberAt.f a r s = some (numB a r s) := by
  obtain ⟨r0, rl, rf⟩ := root_lt hr
  obtain ⟨d1, d2, d3, d4, d5, d6⟩ := div4 h0 h1
  have h4 := (knot_of ha rl).1
  have hk := kid_of ha rl rf (j := (s / 4).toNat) (by omega)
  unfold impl_numberAt.f numB
  simp only [d1, d2]
  show (if 0 ≤ r then if r < (a.length : Int) then if 0 ≤ s / 4 then if s / 4 < (((a.getD r.toNat z147).f1.length : Nat) : Int) then if (a.getD r.toNat z147).f1.getD (s / 4).toNat 0 < 0 then some 0 else if 0 ≤ (a.getD r.toNat z147).f1.getD (s / 4).toNat 0 then if (a.getD r.toNat z147).f1.getD (s / 4).toNat 0 < (a.length : Int) then if 0 ≤ s % 4 then if s % 4 < (((a.getD ((a.getD r.toNat z147).f1.getD (s / 4).toNat 0).toNat z147).f1.length : Nat) : Int) then some ((a.getD ((a.getD r.toNat z147).f1.getD (s / 4).toNat 0).toNat z147).f1.getD (s % 4).toNat 0) else none else none else none else none else none else none else none else none) = _
  rw [if_pos r0, if_pos (by omega), if_pos d3, if_pos (by omega)]
  rcases hk with hk | ⟨k0, k1, _⟩
  · rw [if_pos (by omega), if_pos (by omega)]
  · have h5 := (knot_of ha (i := ((a.getD r.toNat z147).f1.getD (s / 4).toNat 0).toNat) (by omega)).1
    rw [if_neg (by omega), if_pos k0, if_pos (by omega), if_pos d5, if_pos (by omega), if_neg (by omega)]
theorem sGet_eq (a : List S147) (r s : Int) (ha : arenaB a = true) (hr : rootB a r = true) (h0 : 0 ≤ s) (h1 : s ≤ 15) : spec_l11Get.f a r s = some (numB a r s) := by
  obtain ⟨r0, rl, rf⟩ := root_lt hr
  have h := iNumber_eq a r s ha hr h0 h1
  unfold impl_numberAt.f at h
  unfold spec_l11Get.f
  rw [if_neg (by omega)]
  exact h
theorem iGetAt_ev (a : List S147) (r s : Int) (hn : a.length ≤ 9223372036854775807) : Ev (fun k => impl_GetAt.f k a r s) (getB a r s) := by
  unfold impl_GetAt.f getB
  simp only [in_eq, iRoot_eq a r hn, Option.bind_some, decide_eq_true_eq]
  by_cases h1 : 0 ≤ s ∧ s ≤ 15
  · by_cases h2 : rootB a r = true
    · simp only [if_pos h1, if_pos h2]
      refine ev_bind (iArena_ev a hn) ?_
      by_cases h3 : arenaB a = true
      · simp only [if_pos h3, if_pos (show (0 ≤ s ∧ s ≤ 15) ∧ rootB a r = true ∧ arenaB a = true from ⟨h1, h2, h3⟩)]
        rw [iNumber_eq a r s h3 h2 h1.1 h1.2]
        exact Ev.now _
      · simp only [if_neg h3, if_neg (show ¬ ((0 ≤ s ∧ s ≤ 15) ∧ rootB a r = true ∧ arenaB a = true) from fun h => h3 h.2.2)]
        exact Ev.now _
    · simp only [if_pos h1, if_neg h2, if_neg (show ¬ ((0 ≤ s ∧ s ≤ 15) ∧ rootB a r = true ∧ arenaB a = true) from fun h => h2 h.2.1)]
      exact Ev.now _
  · simp only [if_neg h1, if_neg (show ¬ ((0 ≤ s ∧ s ≤ 15) ∧ rootB a r = true ∧ arenaB a = true) from fun h => h1 h.1)]
    exact Ev.now _
theorem sGetAt_ev (a : List S147) (r s : Int) (hn : a.length ≤ 9223372036854775807) : Ev (fun k => spec_GetAt.f k a r s) (getB a r s) := by
  unfold spec_GetAt.f getB
  refine ev_bind (sArena_ev a hn) ?_
  by_cases h3 : arenaB a = true
  · simp only [if_pos h3, l01In_eq, sRoot_eq a r hn, Option.bind_some]
    by_cases h2 : rootB a r = true
    · simp only [h2, Bool.or_true, if_true]
      by_cases h1 : 0 ≤ s ∧ s ≤ 15
      · simp only [decide_eq_true h1, if_true, if_pos (show (0 ≤ s ∧ s ≤ 15) ∧ True ∧ arenaB a = true from ⟨h1, trivial, h3⟩)]
        rw [sGet_eq a r s h3 h2 h1.1 h1.2]
        exact Ev.now _
      · simp only [decide_eq_false h1, Bool.false_eq_true, if_false, if_neg (show ¬ ((0 ≤ s ∧ s ≤ 15) ∧ True ∧ arenaB a = true) from fun h => h1 h.1)]
        exact Ev.now _
    · have e : getB a r s = 0 := by unfold getB; exact if_neg fun h => h2 h.2.1
      unfold getB at e
      rw [e]
      by_cases h0 : r = -1
      · simp only [decide_eq_true h0, Bool.true_or, if_true]
        by_cases h1 : 0 ≤ s ∧ s ≤ 15
        · simp only [decide_eq_true h1, if_true]
          unfold spec_l11Get.f
          simp only [if_pos (show r < 0 by omega), Option.bind_some]
          exact Ev.now _
        · simp only [decide_eq_false h1, Bool.false_eq_true, if_false]
          exact Ev.now _
      · simp only [decide_eq_false h0, Bool.eq_false_iff.mpr h2, Bool.or_self, Bool.false_eq_true, if_false]
        exact Ev.now _
  · simp only [if_neg h3, if_neg (show ¬ ((0 ≤ s ∧ s ≤ 15) ∧ rootB a r = true ∧ arenaB a = true) from fun h => h3 h.2.2)]
    exact Ev.now _
end Go.Proofs.Ytklkhnomnanpoaa.Pu

/- What the functions on stores answer: sizes, copies, comparison, the place of a volume, a sector's chunk. -/
namespace Go.Proofs.Ytklkhnomnanpoaa.Pu
open Go.RowKit Go.Proofs.Ytklkhnomnanpoaa.PK Go.Proofs.YtklkhnomnanpoaaW.PrintWords
theorem rdLV_nat (l : List S121) (i : Nat) : rd_T121 l (i : Int) = l.getD i z121 := rfl
theorem rdIV_nat (l : List S89) (i : Nat) : rd_T89 l (i : Int) = l.getD i z89 := rfl
def toVl (x : S121) : S89 := ⟨x.f0, x.f1⟩

theorem toVolS_ev (l : List S121) (h : l.length ≤ 1048576) : Ev (fun k => laws_toVolS.f k l) (l.map toVl) := by
  have h1 := ev_fill_all (E := fun _ i => (laws_toVol.f (rd_T121 l i).f0 (rd_T121 l i).f1).bind fun bt => some (⟨bt.1, bt.2⟩ : S89)) (l := l) (z := z121) (g := toVl) (xs := List.replicate l.length z89) (L := fun k xs i => laws_toVolS.l0 k l xs i) (by omega) (fun k xs i => by
    simp only [laws_toVolS.l0, Option.bind_assoc, Option.bind_some]) (fun i hi => by rw [rdLV_nat]; exact Ev.now _) (by simp)
  refine ev_ext (fun k => ?_) h1
  unfold laws_toVolS.f
  rw [if_pos (by omega), if_pos (by simp; omega)]
  simp
theorem toStore_ev (v : List S121) (a : List S144) (n : Int) (hv : v.length ≤ 1048576) (h : a.length ≤ 1048576) (hk : ∀ x ∈ a, x.f1.length ≤ 1048576) : Ev (fun k => laws_toStore.f k v a n) (v.map toVl, toA a, n) := by
  unfold laws_toStore.f
  exact ev_bind (toVolS_ev v hv) (ev_bind (toArena_ev a (by omega) (fun x hx => by have := hk x hx; omega)) (Ev.now _))
theorem eqVolS_ev (l : List S89) (hn : l.length ≤ 1048576) : Ev (fun k => laws_eqVolS.f k l l) true := by
  have h1 := ev_all (n := l.length) (m := l.length) (L := fun k i => laws_eqVolS.l0 k l l i) (E := fun _ i => laws_eqVol.f (rd_T89 l i).f0 (rd_T89 l i).f1 (rd_T89 l i).f0 (rd_T89 l i).f1) (by omega) (Nat.le_refl _) (fun k i => by simp only [laws_eqVolS.l0])
    (fun i _ => ev_const (by simp [laws_eqVol.f])) l.length 0 (by omega)
  refine ev_ext (fun k => ?_) h1
  unfold laws_eqVolS.f
  rw [if_pos rfl]; rfl
theorem eqStore_ev (v : List S89) (a : List S147) (n : Int) (hv : v.length ≤ 1048576) (hn : a.length ≤ 9223372036854775807) (hk : ∀ x ∈ a, x.f1.length ≤ 9223372036854775807) : Ev (fun k => laws_eqStore.f k v a n v a n) true := by
  unfold laws_eqStore.f
  refine ev_bind (eqVolS_ev v hv) ?_
  simp only [if_true]
  refine ev_bind (eqArena_ev a hn hk) ?_
  simp only [if_true]
  exact Ev.now _
theorem szStore_ev (v : List S121) (l : List S144) (n a : Int) (h0 : 0 ≤ a) (h1 : a ≤ 1048576) (hv : v.length ≤ 9223372036854775807) (hn : l.length ≤ 9223372036854775807) (hk : ∀ x ∈ l, x.f1.length ≤ 9223372036854775807) :
    ∃ r, Ev (fun k => laws_szStore.f k v l n a) r ∧ r ≤ a ∧ (0 ≤ r → v.length ≤ 1048576 ∧ l.length ≤ 1048576 ∧ ∀ x ∈ l, x.f1.length ≤ 1048576) := by
  unfold laws_szStore.f laws_szVolS.f
  rw [w64 (by omega) (by omega)]
  by_cases h : a - (v.length : Int) < 0
  · exact ⟨-1, by simp only [if_pos h, Option.bind_some, if_pos (show (-1 : Int) < 0 by omega)]; exact Ev.now _, by omega, fun h2 => by omega⟩
  · simp only [if_neg h, Option.bind_some]
    obtain ⟨r, hr, hra, hq⟩ := szArena_ev l (a - (v.length : Int)) (by omega) (by omega) hn hk
    by_cases h2 : r < 0
    · exact ⟨-1, ev_bind hr (by simp only [if_pos h2]; exact Ev.now _), by omega, fun h3 => by omega⟩
    · refine ⟨r, ev_bind hr (by simp only [if_neg h2]; exact Ev.now _), by omega, fun h3 => ?_⟩
      obtain ⟨a1, a2⟩ := hq h3
      exact ⟨by omega, by omega, fun x hx => by have := a2 x hx; omega⟩
/-- What a law on a store begins with. -/
theorem store_start {v : List S121} {l : List S144} {n a : Int} (h0 : 0 ≤ a) (h1 : a ≤ 1048576) (hv : v.length ≤ maxLen) (hl : l.length ≤ maxLen) (hx : ∀ x ∈ l, x.f1.length ≤ maxLen) :
    ∃ r, Ev (fun k => laws_szStore.f k v l n a) r ∧ r ≤ a ∧ (0 ≤ r → Ev (fun k => laws_toStore.f k v l n) (v.map toVl, toA l, n) ∧ Ev (fun k => laws_eqStore.f k (v.map toVl) (toA l) n (v.map toVl) (toA l) n) true ∧ (v.map toVl).length ≤ 1048576 ∧ (toA l).length ≤ 1048576 ∧ ∀ x ∈ toA l, x.f1.length ≤ 1048576) := by
  unfold maxLen at hv hl hx
  obtain ⟨r, hr, hra, hq⟩ := szStore_ev v l n a h0 h1 (by omega) (by omega) (fun x h => by have := hx x h; omega)
  refine ⟨r, hr, hra, fun h2 => ?_⟩
  obtain ⟨a1, a2, a3⟩ := hq h2
  have hlen : (toA l).length = l.length := by unfold toA; exact List.length_map _
  have hlv : (v.map toVl).length = v.length := List.length_map _
  have hm : ∀ x ∈ toA l, x.f1.length ≤ 1048576 := by
    intro x h
    unfold toA at h
    obtain ⟨y, hy, rfl⟩ := List.mem_map.1 h
    exact a3 y hy
  exact ⟨toStore_ev v l n a1 a2 a3, eqStore_ev _ _ n (by omega) (by omega) (fun x h => by have := hm x h; omega), by omega, by omega, hm⟩

end Go.Proofs.Ytklkhnomnanpoaa.Pu

/- The numbers of all sectors of a tree, as one list; the program's and the reference's AllAt tell it. -/
namespace Go.Proofs.Ytklkhnomnanpoaa.Pu
open Go.RowKit Go.Proofs.Ytklkhnomnanpoaa.PK Go.Proofs.YtklkhnomnanpoaaW.PrintWords
def allB (a : List S147) (r : Int) : List Int := (List.range' 0 16).map fun (i : Nat) => getB a r (i : Int)
theorem allB_len (a : List S147) (r : Int) : (allB a r).length = 16 := by simp [allB]
theorem allB_get (a : List S147) (r : Int) {i : Nat} (hi : i < 16) : (allB a r).getD i 0 = getB a r (i : Int) := by
  rw [List.getD_eq_getElem?_getD, List.getElem?_eq_getElem (by rw [allB_len]; exact hi)]
  simp [allB]
theorem iAllAt_ev (a : List S147) (r : Int) (hn : a.length ≤ 9223372036854775807) : Ev (fun k => impl_AllAt.f k a r) (allB a r) := by
  have main : ∀ (d i : Nat) (acc : List Int), i + d = 16 → acc.length = i → Ev (fun k => impl_AllAt.l0 k r acc (i : Int) a) (acc ++ (List.range' i d).map fun (i : Nat) => getB a r (i : Int)) := by
    intro d
    induction d with
    | zero => intro i acc hi hl; exact ev_some fun k => by simp only [impl_AllAt.l0]; rw [if_neg (by omega)]; simp
    | succ d ih =>
      intro i acc hi hl
      have h := ih (i + 1) (acc ++ [getB a r (i : Int)]) (by omega) (by simp; omega)
      rw [List.append_assoc, List.singleton_append] at h
      rw [List.range'_succ, List.map_cons]
      refine Ev.step (f := fun k => (impl_GetAt.f k a r (i : Int)).bind fun t => impl_AllAt.l0 k r (acc ++ [t]) ((i + 1 : Nat) : Int) a) (fun k => ?_) (ev_bind (iGetAt_ev a r i hn) h)
      simp only [impl_AllAt.l0]
      rw [if_pos (by omega), wsucc (n := 16) (by omega) (by omega)]
      simp only [if_pos (show acc.length < 17592186044416 by omega)]
  exact main 16 0 [] rfl rfl
theorem sAllAt_ev (a : List S147) (r : Int) (hn : a.length ≤ 9223372036854775807) : Ev (fun k => spec_AllAt.f k a r) (allB a r) := by
  have main : ∀ (d i : Nat) (acc : List Int), i + d = 16 → acc.length = i → Ev (fun k => spec_AllAt.l0 k r acc (i : Int) a) (acc ++ (List.range' i d).map fun (i : Nat) => getB a r (i : Int)) := by
    intro d
    induction d with
    | zero => intro i acc hi hl; exact ev_some fun k => by simp only [spec_AllAt.l0]; rw [if_neg (by omega)]; simp
    | succ d ih =>
      intro i acc hi hl
      have h := ih (i + 1) (acc ++ [getB a r (i : Int)]) (by omega) (by simp; omega)
      rw [List.append_assoc, List.singleton_append] at h
      rw [List.range'_succ, List.map_cons]
      refine Ev.step (f := fun k => (spec_GetAt.f k a r (i : Int)).bind fun t => spec_AllAt.l0 k r (acc ++ [t]) ((i + 1 : Nat) : Int) a) (fun k => ?_) (ev_bind (sGetAt_ev a r i hn) h)
      simp only [spec_AllAt.l0]
      rw [if_pos (by omega), wsucc (n := 16) (by omega) (by omega)]
      simp only [if_pos (show acc.length < 17592186044416 by omega)]
  exact main 16 0 [] rfl rfl
theorem drop_get {α : Type} {l : List α} {i : Nat} (z : α) (h : i < l.length) : l.drop i = l.getD i z :: l.drop (i + 1) := by
  rw [List.drop_eq_getElem_cons h, List.getD_eq_getElem?_getD, List.getElem?_eq_getElem h]; rfl
end Go.Proofs.Ytklkhnomnanpoaa.Pu

/- How many sectors have a chunk, as one number; the program's and the reference's RefsOf tell it. -/
namespace Go.Proofs.Ytklkhnomnanpoaa.Pu
open Go.RowKit Go.Proofs.Ytklkhnomnanpoaa.PK Go.Proofs.YtklkhnomnanpoaaW.PrintWords
def cnt (c : Int) (l : List Int) : Nat := (l.filter fun x => decide (x = c)).length
theorem cnt_le (c : Int) (l : List Int) : cnt c l ≤ l.length := List.length_filter_le _ _
theorem cnt_append (c : Int) (l m : List Int) : cnt c (l ++ m) = cnt c l + cnt c m := by unfold cnt; rw [List.filter_append, List.length_append]
theorem cnt_cons (c x : Int) (l : List Int) : cnt c (x :: l) = (if x = c then 1 else 0) + cnt c l := by
  unfold cnt
  by_cases h : x = c <;> simp [List.filter_cons, h] <;> omega
/-- The chunks of all sectors that have one, volume by volume. -/
def posL (l : List Int) : List Int := l.filter fun x => decide (x > 0)
def chunksB (v : List S89) (a : List S147) : List Int := v.flatMap fun x => posL (allB a x.f1)
def refsB (v : List S89) (a : List S147) (c : Int) : Nat := cnt c (chunksB v a)
theorem posL_len (l : List Int) : (posL l).length ≤ l.length := List.length_filter_le _ _
theorem cnt_pos {c : Int} (hc : c > 0) (l : List Int) : cnt c (posL l) = cnt c l := by
  unfold cnt posL
  rw [List.filter_filter]
  congr 1
  apply List.filter_congr
  intro x _
  by_cases h : x = c
  · subst h; simp [hc]
  · simp [h]
theorem cnt_neg {c : Int} (hc : ¬ c > 0) (l : List Int) : cnt c (posL l) = 0 := by
  unfold cnt posL
  rw [List.filter_filter, List.length_eq_zero_iff, List.filter_eq_nil_iff]
  intro x _
  simp
  omega
theorem chunks_neg {c : Int} (hc : ¬ c > 0) (a : List S147) : ∀ v : List S89, refsB v a c = 0
  | [] => rfl
  | x :: v => by
    have ih := chunks_neg hc a v
    unfold refsB chunksB at *
    rw [List.flatMap_cons, cnt_append, ih, cnt_neg hc]
/-- All sectors' chunks, gathered. -/
theorem iChunks_ev (v : List S89) (a : List S147) (n : Int) (hv : v.length ≤ 1048576) (ha : a.length ≤ 9223372036854775807) : Ev (fun k => impl_chunksOf.f k v a n) (chunksB v a) := by
  have main : ∀ (d i : Nat) (acc : List Int), i + d = v.length → acc.length ≤ 16 * i → Ev (fun k => impl_chunksOf.l0 k acc v (v.length : Int) (i : Int) v a n) (acc ++ chunksB (v.drop i) a) := by
    intro d
    induction d with
    | zero =>
      intro i acc hi hl
      refine ev_some fun k => ?_
      simp only [impl_chunksOf.l0]
      rw [if_neg (by omega), List.drop_eq_nil_of_le (by omega)]
      simp [chunksB]
    | succ d ih =>
      intro i acc hi hl
      have hil : i < v.length := by omega
      have inner : ∀ (e j : Nat) (ac : List Int), j + e = 16 → ac.length ≤ 16 * i + j → ac ++ posL ((allB a (v.getD i z89).f1).drop j) = acc ++ posL (allB a (v.getD i z89).f1) → Ev (fun k => impl_chunksOf.l1 k ac v (v.length : Int) (i : Int) (allB a (v.getD i z89).f1) 16 (j : Int) v a n) (acc ++ chunksB (v.drop i) a) := by
        intro e
        induction e with
        | zero =>
          intro j ac hj hac he
          rw [List.drop_eq_nil_of_le (by rw [allB_len]; omega)] at he
          have h := ih (i + 1) ac (by omega) (by omega)
          rw [show ac = acc ++ posL (allB a (v.getD i z89).f1) by simpa [posL] using he, List.append_assoc] at h
          rw [drop_get z89 hil]
          refine Ev.step (fun k => ?_) h
          simp only [impl_chunksOf.l1]
          rw [if_neg (by omega), wsucc (n := v.length) hil (by omega), show ac = acc ++ posL (allB a (v.getD i z89).f1) by simpa [posL] using he]
        | succ e ihe =>
          intro j ac hj hac he
          have hj2 : j < (allB a (v.getD i z89).f1).length := by rw [allB_len]; omega
          rw [drop_get 0 hj2] at he
          have st : ∀ k, impl_chunksOf.l1 (k + 1) ac v (v.length : Int) (i : Int) (allB a (v.getD i z89).f1) 16 (j : Int) v a n = impl_chunksOf.l1 k (if (allB a (v.getD i z89).f1).getD j 0 > 0 then ac ++ [(allB a (v.getD i z89).f1).getD j 0] else ac) v (v.length : Int) (i : Int) (allB a (v.getD i z89).f1) 16 ((j + 1 : Nat) : Int) v a n := fun k => by
            simp only [impl_chunksOf.l1]
            rw [if_pos (by omega), if_pos (by omega), if_pos (by omega), rd_nat, wsucc (n := 16) (by omega) (by omega)]
            by_cases h : (allB a (v.getD i z89).f1).getD j 0 > 0
            · rw [if_pos h, if_pos h, if_pos (by omega)]
            · rw [if_neg h, if_neg h]
          refine Ev.step st ?_
          by_cases h : (allB a (v.getD i z89).f1).getD j 0 > 0
          · rw [if_pos h]
            refine ihe (j + 1) _ (by omega) (by simp; omega) ?_
            rw [← he]
            show _ = ac ++ List.filter _ (_ :: _)
            rw [List.filter_cons, if_pos (decide_eq_true h), List.append_assoc]; rfl
          · rw [if_neg h]
            refine ihe (j + 1) _ (by omega) (by omega) ?_
            rw [← he]
            show _ = ac ++ List.filter _ (_ :: _)
            rw [List.filter_cons, if_neg (by simpa using h)]; rfl
      refine Ev.step (f := fun k => (impl_AllAt.f k a (v.getD i z89).f1).bind fun t => impl_chunksOf.l1 k acc v (v.length : Int) (i : Int) t (t.length : Int) 0 v a n) (fun k => ?_) (ev_bind (iAllAt_ev a _ ha) ?_)
      · simp only [impl_chunksOf.l0]
        rw [if_pos (by omega), if_pos (by omega), if_pos (by omega), rdIV_nat]
      · have h := inner 16 0 acc rfl (by omega) (by rw [List.drop_zero])
        simp only [allB_len]
        exact h
  have h := main v.length 0 [] (by omega) (by simp)
  rw [List.nil_append, List.drop_zero] at h
  exact h
theorem chunksB_len (a : List S147) : ∀ v : List S89, (chunksB v a).length ≤ 16 * v.length
  | [] => by simp [chunksB]
  | x :: v => by
    have ih := chunksB_len a v
    have h := posL_len (allB a x.f1)
    rw [allB_len] at h
    unfold chunksB at *
    rw [List.flatMap_cons, List.length_append, List.length_cons]
    omega
end Go.Proofs.Ytklkhnomnanpoaa.Pu

/- Ascending lists of numbers. -/
namespace Go.Proofs.Ytklkhnomnanpoaa.Pu
open Go.RowKit Go.Proofs.Ytklkhnomnanpoaa.PK Go.Proofs.YtklkhnomnanpoaaW.PrintWords
def sortB (l : List Int) : List Int := l.mergeSort fun x y => decide (x ≤ y)
/-- A number put into an ascending list. -/
def insB (s : List Int) (x : Int) : List Int := (s.filter fun y => decide (y < x)) ++ [x] ++ s.filter fun y => decide (y > x)
def Asc (l : List Int) : Prop := l.Pairwise (· < ·)
theorem ins_asc {s : List Int} (x : Int) (h : Asc s) : Asc (insB s x) := by
  unfold Asc insB
  rw [List.append_assoc, List.pairwise_append]
  refine ⟨List.Pairwise.filter _ h, ?_, ?_⟩
  · rw [List.singleton_append, List.pairwise_cons]
    exact ⟨fun y hy => by have := (List.mem_filter.1 hy).2; simpa using this, List.Pairwise.filter _ h⟩
  · intro a ha b hb
    have h1 : a < x := by have := (List.mem_filter.1 ha).2; simpa using this
    rcases List.mem_cons.1 hb with rfl | hb
    · exact h1
    · have h2 : b > x := by have := (List.mem_filter.1 hb).2; simpa using this
      omega
theorem ins_mem {s : List Int} {x y : Int} : y ∈ insB s x ↔ y ∈ s ∨ y = x := by
  unfold insB
  simp only [List.mem_append, List.mem_filter, List.mem_singleton, decide_eq_true_eq]
  constructor
  · rintro ((⟨h, _⟩ | h) | ⟨h, _⟩)
    · exact .inl h
    · exact .inr h
    · exact .inl h
  · rintro (h | h)
    · rcases Int.lt_trichotomy y x with h2 | h2 | h2
      · exact .inl (.inl ⟨h, h2⟩)
      · exact .inl (.inr h2)
      · exact .inr ⟨h, h2⟩
    · exact .inl (.inr h)
theorem ins_len {s : List Int} (x : Int) : (insB s x).length ≤ s.length * 2 + 1 := by
  unfold insB
  have h1 := List.length_filter_le (fun y => decide (y < x)) s
  have h2 := List.length_filter_le (fun y => decide (y > x)) s
  simp only [List.length_append, List.length_singleton]
  omega
theorem asc_len : ∀ {s : List Int} {m : List Int}, Asc s → (∀ y ∈ s, y ∈ m) → s.length ≤ m.length
  | [], _, _, _ => Nat.zero_le _
  | x :: s, m, h, hm => by
    obtain ⟨h1, h2⟩ := List.pairwise_cons.1 h
    have hx := hm x List.mem_cons_self
    have := asc_len (s := s) (m := m.erase x) h2 fun y hy => (List.mem_erase_of_ne (by have := h1 y hy; omega)).2 (hm y (List.mem_cons_of_mem _ hy))
    rw [List.length_erase_of_mem hx] at this
    have hp := List.length_pos_of_mem hx
    simp only [List.length_cons]
    omega
/-- Ascending lists of the same numbers are one. -/
theorem asc_eq : ∀ {s t : List Int}, Asc s → Asc t → (∀ y, y ∈ s ↔ y ∈ t) → s = t
  | [], [], _, _, _ => rfl
  | [], y :: t, _, _, h => by have := (h y).2 List.mem_cons_self; cases this
  | x :: s, [], _, _, h => by have := (h x).1 List.mem_cons_self; cases this
  | x :: s, y :: t, hs, ht, h => by
    obtain ⟨s1, s2⟩ := List.pairwise_cons.1 hs
    obtain ⟨t1, t2⟩ := List.pairwise_cons.1 ht
    have e : x = y := by
      have h1 := (h x).1 List.mem_cons_self
      have h2 := (h y).2 List.mem_cons_self
      rcases List.mem_cons.1 h1 with h1 | h1
      · exact h1
      · rcases List.mem_cons.1 h2 with h2 | h2
        · exact h2.symm
        · have := t1 x h1; have := s1 y h2; omega
    subst e
    rw [asc_eq s2 t2 fun z => by
      constructor
      · intro hz
        rcases List.mem_cons.1 ((h z).1 (List.mem_cons_of_mem _ hz)) with rfl | h3
        · have := s1 z hz; omega
        · exact h3
      · intro hz
        rcases List.mem_cons.1 ((h z).2 (List.mem_cons_of_mem _ hz)) with rfl | h3
        · have := t1 z hz; omega
        · exact h3]
theorem sort_asc {l : List Int} (h : l.Nodup) : Asc (sortB l) := by
  have hs : (sortB l).Pairwise fun a b => decide (a ≤ b) = true := List.pairwise_mergeSort (le := fun x y : Int => decide (x ≤ y)) (fun a b c h1 h2 => by simp at *; omega) (fun a b => by simp; omega) l
  have hn : (sortB l).Nodup := (List.mergeSort_perm l _).nodup_iff.2 h
  unfold Asc
  refine (List.Pairwise.and hs hn).imp fun ⟨h1, h2⟩ => ?_
  have h1 : _ ≤ _ := of_decide_eq_true h1
  have h2 : _ ≠ _ := h2
  omega
end Go.Proofs.Ytklkhnomnanpoaa.Pu

/- The chunks that sectors have, ascending, each once; the program's and the reference's LiveOf tell them. -/
namespace Go.Proofs.Ytklkhnomnanpoaa.Pu
open Go.RowKit Go.Proofs.Ytklkhnomnanpoaa.PK Go.Proofs.YtklkhnomnanpoaaW.PrintWords
/-- What stands behind the number p in a list that ascends, each number once. -/
def dedA : Int → List Int → List Int
  | _, [] => []
  | p, x :: l => if p = x then dedA x l else x :: dedA x l
def dedB : List Int → List Int
  | [] => []
  | x :: l => x :: dedA x l
theorem ded_mem : ∀ (l : List Int) (p y : Int), y ∈ p :: dedA p l ↔ y ∈ p :: l
  | [], p, y => Iff.rfl
  | x :: l, p, y => by
    have ih := ded_mem l x y
    unfold dedA
    by_cases h : p = x
    · subst h
      rw [if_pos rfl, ih]
      constructor
      · exact fun h => List.mem_cons_of_mem _ h
      · intro h
        rcases List.mem_cons.1 h with rfl | h
        · exact List.mem_cons_self
        · exact h
    · rw [if_neg h, List.mem_cons, ih, List.mem_cons (a := y) (b := p)]
theorem ded_asc : ∀ (l : List Int) (p : Int), (p :: l).Pairwise (fun a b => a ≤ b) → Asc (p :: dedA p l)
  | [], p, _ => List.pairwise_singleton _ _
  | x :: l, p, h => by
    obtain ⟨h1, h2⟩ := List.pairwise_cons.1 h
    have ih := ded_asc l x h2
    unfold dedA
    by_cases hx : p = x
    · subst hx; rw [if_pos rfl]; exact ih
    · rw [if_neg hx]
      refine List.pairwise_cons.2 ⟨fun y hy => ?_, ih⟩
      have h3 := h1 x List.mem_cons_self
      rcases List.mem_cons.1 hy with rfl | hy
      · omega
      · have := (List.pairwise_cons.1 ih).1 y hy
        omega
theorem dedB_mem (l : List Int) (y : Int) : y ∈ dedB l ↔ y ∈ l := by
  cases l with
  | nil => exact Iff.rfl
  | cons x l => exact ded_mem l x y
theorem dedB_asc (l : List Int) : Asc (dedB (sortB l)) := by
  have hs : (sortB l).Pairwise fun a b => a ≤ b := (List.pairwise_mergeSort (le := fun x y : Int => decide (x ≤ y)) (fun a b c h1 h2 => by simp at *; omega) (fun a b => by simp; omega) l).imp fun h => of_decide_eq_true h
  cases h : sortB l with
  | nil => exact List.Pairwise.nil
  | cons x m => rw [h] at hs; exact ded_asc m x hs
theorem sortB_mem (l : List Int) (y : Int) : y ∈ sortB l ↔ y ∈ l := (List.mergeSort_perm l _).mem_iff
theorem sortB_len (l : List Int) : (sortB l).length = l.length := List.length_mergeSort l
/-- The chunks that sectors have. -/
def liveB (v : List S89) (a : List S147) : List Int := dedB (sortB (chunksB v a))
theorem live_mem (v : List S89) (a : List S147) (y : Int) : y ∈ liveB v a ↔ y ∈ chunksB v a := by unfold liveB; rw [dedB_mem, sortB_mem]
theorem live_asc (v : List S89) (a : List S147) : Asc (liveB v a) := dedB_asc _
theorem live_len (v : List S89) (a : List S147) : (liveB v a).length ≤ 16 * v.length := by
  have h1 := asc_len (live_asc v a) (m := chunksB v a) (fun y h => (live_mem v a y).1 h)
  have h2 := chunksB_len a v
  omega
/-- The program's LiveOf. -/
theorem iLive_ev (v : List S89) (a : List S147) (n : Int) (hv : v.length ≤ 1048576) (ha : a.length ≤ 9223372036854775807) : Ev (fun k => impl_LiveOf.f k v a n) (liveB v a) := by
  have hl := chunksB_len a v
  unfold impl_LiveOf.f liveB
  refine ev_bind (iChunks_ev v a n hv ha) (ev_bind (g := fun k => sort_Ints.f k (chunksB v a)) (a := sortB (chunksB v a)) (ev_const (if_pos (by omega))) ?_)
  have hs := sortB_len (chunksB v a)
  rw [← hs]
  generalize sortB (chunksB v a) = s at hs ⊢
  have main : ∀ (d i : Nat) (acc : List Int), i + 1 + d = s.length → acc.length ≤ i + 1 → Ev (fun k => impl_LiveOf.l0 k s acc s (s.length : Int) ((i + 1 : Nat) : Int)) (acc ++ dedA (s.getD i 0) (s.drop (i + 1))) := by
    intro d
    induction d with
    | zero =>
      intro i acc hi hc
      refine ev_some fun k => ?_
      simp only [impl_LiveOf.l0]
      rw [if_neg (by omega), List.drop_eq_nil_of_le (by omega)]
      simp [dedA]
    | succ d ih =>
      intro i acc hi hc
      have hil : i + 1 < s.length := by omega
      rw [drop_get 0 hil]
      unfold dedA
      have w1 : wrap64 (((i + 1 : Nat) : Int) - 1) = (i : Int) := by rw [show ((i + 1 : Nat) : Int) - 1 = (i : Int) by omega]; exact w64 (by omega) (by omega)
      by_cases h : s.getD i 0 = s.getD (i + 1) 0
      · rw [if_pos h]
        have := ih (i + 1) acc (by omega) (by omega)
        refine Ev.step (fun k => ?_) this
        simp only [impl_LiveOf.l0]
        rw [if_pos (by omega), if_pos (by omega), if_pos (by omega), if_neg (by omega), w1, if_pos (by omega), if_pos (by omega), rd_nat, rd_nat, if_pos h, wsucc (n := s.length) hil (by omega)]
      · rw [if_neg h]
        have := ih (i + 1) (acc ++ [s.getD (i + 1) 0]) (by omega) (by simp; omega)
        rw [List.append_assoc] at this
        refine Ev.step (fun k => ?_) this
        simp only [impl_LiveOf.l0]
        rw [if_pos (by omega), if_pos (by omega), if_pos (by omega), if_neg (by omega), w1, if_pos (by omega), if_pos (by omega), rd_nat, rd_nat, if_neg h, if_pos (by omega), wsucc (n := s.length) hil (by omega)]
  cases hm : s with
  | nil => exact ev_some fun k => by simp only [impl_LiveOf.l0]; rw [if_neg (by simp)]; rfl
  | cons x m =>
    have h := main m.length 0 [x] (by rw [hm]; simp; omega) (by simp)
    rw [hm] at h
    refine Ev.step (fun k => ?_) h
    simp only [impl_LiveOf.l0]
    rw [if_pos (by simp only [List.length_cons]; omega), if_pos (by omega), if_pos (by simp only [List.length_cons]; omega)]
    rw [if_pos trivial, if_pos (show ([] : List Int).length < 17592186044416 by decide), show wrap64 (0 + 1) = ((0 + 1 : Nat) : Int) from w64 (x := 0 + 1) (by omega) (by omega)]
    rfl
/-- The reference's: each chunk is put in. -/
theorem sIns_ev (l : List Int) (x : Int) (hl : l.length ≤ 1073741824) : Ev (fun k => spec_l12Insert.f k l x) ((l.filter fun y => decide (y < x)) ++ (if x > 0 then [x] else []) ++ l.filter fun y => decide (y > x)) := by
  have two : ∀ (b : List Int), b.length ≤ 1073741825 → ∀ (d j : Nat), j + d = l.length → Ev (fun k => spec_l12Insert.l1 k l x (b ++ (l.take j).filter fun y => decide (y > x)) (j : Int)) (b ++ l.filter fun y => decide (y > x)) := by
    intro b hb d
    induction d with
    | zero =>
      intro j hj
      rw [List.take_of_length_le (by omega)]
      exact ev_some fun k => by simp only [spec_l12Insert.l1]; rw [if_neg (by omega)]
    | succ d ih =>
      intro j hj
      have hjl : j < l.length := by omega
      have h := ih (j + 1) (by omega)
      have e : rd l (j : Int) = l[j] := by show l.getD j 0 = _; rw [List.getD_eq_getElem?_getD, List.getElem?_eq_getElem hjl]; rfl
      rw [List.take_succ_eq_append_getElem hjl, List.filter_append] at h
      have h2 := List.length_filter_le (fun y => decide (y > x)) (l.take j)
      have h3 : (l.take j).length ≤ l.length := by rw [List.length_take]; omega
      refine Ev.step (fun k => ?_) h
      simp only [spec_l12Insert.l1]
      rw [if_pos (by omega), if_pos (by omega), e, wsucc (n := l.length) hjl (by omega)]
      by_cases hg : l[j] > x
      · rw [if_pos hg, if_pos (by simp only [List.length_append]; omega), show [l[j]].filter (fun y => decide (y > x)) = [l[j]] by rw [List.filter_cons, if_pos (decide_eq_true hg)]; rfl, List.append_assoc]
      · rw [if_neg hg, show [l[j]].filter (fun y => decide (y > x)) = [] by rw [List.filter_cons, if_neg (by rw [decide_eq_false hg]; decide)]; rfl, List.append_nil]
  have one : ∀ (d j : Nat), j + d = l.length → Ev (fun k => spec_l12Insert.l0 k l x ((l.take j).filter fun y => decide (y < x)) (j : Int)) ((l.filter fun y => decide (y < x)) ++ (if x > 0 then [x] else []) ++ l.filter fun y => decide (y > x)) := by
    intro d
    induction d with
    | zero =>
      intro j hj
      rw [List.take_of_length_le (by omega)]
      have h1 := List.length_filter_le (fun y => decide (y < x)) l
      have t := two ((l.filter fun y => decide (y < x)) ++ (if x > 0 then [x] else [])) (by rw [List.length_append]; split <;> simp <;> omega) l.length 0 (by omega)
      rw [List.take_zero, List.filter_nil, List.append_nil] at t
      refine Ev.step (f := fun k => spec_l12Insert.j1 k l x ((l.filter fun y => decide (y < x)) ++ (if x > 0 then [x] else []))) (fun k => ?_) (Ev.step (fun k => ?_) t)
      · simp only [spec_l12Insert.l0]
        rw [if_neg (by omega)]
        by_cases hx : x > 0
        · rw [if_pos hx, if_pos (by omega), if_pos hx]
        · rw [if_neg hx, if_neg hx, List.append_nil]
      · simp only [spec_l12Insert.j1]; rfl
    | succ d ih =>
      intro j hj
      have hjl : j < l.length := by omega
      have h := ih (j + 1) (by omega)
      have e : rd l (j : Int) = l[j] := by show l.getD j 0 = _; rw [List.getD_eq_getElem?_getD, List.getElem?_eq_getElem hjl]; rfl
      rw [List.take_succ_eq_append_getElem hjl, List.filter_append] at h
      have h2 := List.length_filter_le (fun y => decide (y < x)) (l.take j)
      have h3 : (l.take j).length ≤ l.length := by rw [List.length_take]; omega
      refine Ev.step (fun k => ?_) h
      simp only [spec_l12Insert.l0]
      rw [if_pos (by omega), if_pos (by omega), e, wsucc (n := l.length) hjl (by omega)]
      by_cases hg : l[j] < x
      · rw [if_pos hg, if_pos (by omega), show [l[j]].filter (fun y => decide (y < x)) = [l[j]] by rw [List.filter_cons, if_pos (decide_eq_true hg)]; rfl]
      · rw [if_neg hg, show [l[j]].filter (fun y => decide (y < x)) = [] by rw [List.filter_cons, if_neg (by rw [decide_eq_false hg]; decide)]; rfl, List.append_nil]
  have h := one l.length 0 (by omega)
  rw [List.take_zero, List.filter_nil] at h
  exact h
def liveF (s : List Int) (x : Int) : List Int := if x > 0 then insB s x else s
theorem sIns2_ev (l : List Int) (x : Int) (hl : l.length ≤ 1073741824) (hp : ∀ y ∈ l, y > 0) : Ev (fun k => spec_l12Insert.f k l x) (liveF l x) := by
  have h := sIns_ev l x hl
  unfold liveF insB
  by_cases hx : x > 0
  · rw [if_pos hx] at h ⊢; exact h
  · rw [if_neg hx] at h ⊢
    rw [List.filter_eq_nil_iff.2 (fun y hy => by have := hp y hy; simp; omega), List.filter_eq_self.2 (fun y hy => by have := hp y hy; simp; omega)] at h
    exact h
/-- What has been put in so far: it ascends, its numbers are above 0 and of the list. -/
def LiveI (m s : List Int) : Prop := Asc s ∧ (∀ y ∈ s, y > 0) ∧ ∀ y ∈ s, y ∈ m
theorem liveF_I {m s : List Int} {x : Int} (h : LiveI m s) (hx : x ∈ m) : LiveI m (liveF s x) := by
  unfold liveF
  by_cases hp : x > 0
  · rw [if_pos hp]
    refine ⟨ins_asc x h.1, fun y hy => ?_, fun y hy => ?_⟩
    · rcases ins_mem.1 hy with hy | rfl
      · exact h.2.1 y hy
      · exact hp
    · rcases ins_mem.1 hy with hy | rfl
      · exact h.2.2 y hy
      · exact hx
  · rw [if_neg hp]; exact h
theorem liveF_mem : ∀ (l s : List Int) (y : Int), y ∈ l.foldl liveF s ↔ y ∈ s ∨ y ∈ l ∧ y > 0
  | [], s, y => by simp
  | x :: l, s, y => by
    rw [List.foldl_cons, liveF_mem l]
    unfold liveF
    by_cases hp : x > 0
    · rw [if_pos hp, ins_mem, List.mem_cons]
      constructor
      · rintro ((h | rfl) | h)
        · exact .inl h
        · exact .inr ⟨.inl rfl, hp⟩
        · exact .inr ⟨.inr h.1, h.2⟩
      · rintro (h | ⟨rfl | h, h2⟩)
        · exact .inl (.inl h)
        · exact .inl (.inr rfl)
        · exact .inr ⟨h, h2⟩
    · rw [if_neg hp, List.mem_cons]
      constructor
      · rintro (h | h)
        · exact .inl h
        · exact .inr ⟨.inr h.1, h.2⟩
      · rintro (h | ⟨rfl | h, h2⟩)
        · exact .inl h
        · exact absurd h2 hp
        · exact .inr ⟨h, h2⟩
theorem foldF_I {m : List Int} : ∀ (l s : List Int), (∀ y ∈ l, y ∈ m) → LiveI m s → LiveI m (l.foldl liveF s)
  | [], s, _, h => h
  | x :: l, s, hl, h => by
    rw [List.foldl_cons]
    exact foldF_I l _ (fun y hy => hl y (List.mem_cons_of_mem _ hy)) (liveF_I h (hl x List.mem_cons_self))
def allsB (v : List S89) (a : List S147) : List Int := v.flatMap fun x => allB a x.f1
theorem allsB_len (a : List S147) : ∀ v : List S89, (allsB v a).length = 16 * v.length
  | [] => by simp [allsB]
  | x :: v => by
    have ih := allsB_len a v
    unfold allsB at *
    rw [List.flatMap_cons, List.length_append, allB_len, ih, List.length_cons]
    omega
theorem lives_eq (v : List S89) (a : List S147) : (allsB v a).foldl liveF [] = liveB v a := by
  refine asc_eq (foldF_I (m := allsB v a) (allsB v a) [] (fun y h => h) ⟨List.Pairwise.nil, (fun y h => by cases h), fun y h => by cases h⟩).1 (live_asc v a) fun y => ?_
  rw [liveF_mem, live_mem]
  unfold allsB chunksB posL
  simp only [List.mem_flatMap, List.mem_filter, decide_eq_true_eq]
  constructor
  · rintro (h | ⟨⟨x, h1, h2⟩, h3⟩)
    · cases h
    · exact ⟨x, h1, h2, h3⟩
  · rintro ⟨x, h1, h2, h3⟩
    exact .inr ⟨⟨x, h1, h2⟩, h3⟩
theorem sLive_ev (v : List S89) (a : List S147) (n : Int) (hv : v.length ≤ 1048576) (ha : a.length ≤ 9223372036854775807) : Ev (fun k => spec_LiveOf.f k v a n) (liveB v a) := by
  rw [← lives_eq]
  have hm := allsB_len a v
  have small : ∀ s, LiveI (allsB v a) s → s.length ≤ 1073741824 := fun s h => by have := asc_len h.1 h.2.2; omega
  have hin : ∀ (x : S89), x ∈ v → ∀ y ∈ allB a x.f1, y ∈ allsB v a := fun x hx y hy => List.mem_flatMap.2 ⟨x, hx, hy⟩
  have main : ∀ (d i : Nat) (s : List Int), i + d = v.length → LiveI (allsB v a) s → Ev (fun k => spec_LiveOf.l0 k s (i : Int) v a n) ((allsB (v.drop i) a).foldl liveF s) := by
    intro d
    induction d with
    | zero =>
      intro i s hi hs
      refine ev_some fun k => ?_
      simp only [spec_LiveOf.l0]
      rw [if_neg (by omega), List.drop_eq_nil_of_le (by omega)]
      rfl
    | succ d ih =>
      intro i s hi hs
      have hil : i < v.length := by omega
      have hmem : v.getD i z89 ∈ v := getD_mem' hil
      rw [drop_get z89 hil]
      unfold allsB
      rw [List.flatMap_cons, List.foldl_append]
      have hA := allB_len a (v.getD i z89).f1
      have hI := hin _ hmem
      refine Ev.step (f := fun k => (spec_AllAt.f k a (v.getD i z89).f1).bind fun t => spec_LiveOf.l1 k s (i : Int) t 0 v a n) (fun k => ?_) (ev_bind (sAllAt_ev a _ ha) ?_)
      · simp only [spec_LiveOf.l0]
        rw [if_pos (by omega), if_pos (by omega), rdIV_nat]
      · generalize allB a (v.getD i z89).f1 = A at hA hI ⊢
        have inner : ∀ (e j : Nat) (s : List Int), j + e = A.length → LiveI (allsB v a) s → Ev (fun k => spec_LiveOf.l1 k s (i : Int) A (j : Int) v a n) ((allsB (v.drop (i + 1)) a).foldl liveF ((A.drop j).foldl liveF s)) := by
          intro e
          induction e with
          | zero =>
            intro j s hj hs
            rw [List.drop_eq_nil_of_le (by omega)]
            refine Ev.step (fun k => ?_) (ih (i + 1) s (by omega) hs)
            simp only [spec_LiveOf.l1]
            rw [if_neg (by omega), wsucc (n := v.length) hil (by omega)]
          | succ e ihe =>
            intro j s hj hs
            have hjl : j < A.length := by omega
            rw [drop_get 0 hjl, List.foldl_cons]
            refine Ev.step (f := fun k => (spec_l12Insert.f k s (A.getD j 0)).bind fun t => spec_LiveOf.l1 k t (i : Int) A ((j + 1 : Nat) : Int) v a n) (fun k => ?_) (ev_bind (sIns2_ev s _ (small s hs) hs.2.1) (ihe (j + 1) _ (by omega) (liveF_I hs (hI _ (getD_mem' hjl)))))
            simp only [spec_LiveOf.l1]
            rw [if_pos (by omega), if_pos (by omega), rd_nat, wsucc (n := A.length) hjl (by omega)]
        exact inner A.length 0 s (by omega) hs
  have h := main v.length 0 [] (by omega) ⟨List.Pairwise.nil, (fun y h => by cases h), fun y h => by cases h⟩
  rw [List.drop_zero] at h
  exact h
end Go.Proofs.Ytklkhnomnanpoaa.Pu

/- Marks: what a row's places are marked with is held there again, and the count goes on alike. -/
namespace Go.Proofs.Ytklkhnomnanpoaa.Pu
open Go.RowKit Go.Proofs.Ytklkhnomnanpoaa.PK Go.Proofs.YtklkhnomnanpoaaW.PrintWords
theorem getD_set_self {α : Type} {xs : List α} {i : Nat} {x z : α} (h : i < xs.length) : (xs.set i x).getD i z = x := by
  rw [List.getD_eq_getElem?_getD, List.getElem?_set_self h]; rfl
theorem getD_set_ne {α : Type} {xs : List α} {i j : Nat} {x z : α} (h : i ≠ j) : (xs.set i x).getD j z = xs.getD j z := by
  rw [List.getD_eq_getElem?_getD, List.getD_eq_getElem?_getD, List.getElem?_set_ne h]
/-- A row that is marked place by place, and held so. -/
theorem ev_mark {α : Type} (z : α) {L : Nat → List α → Int → Int → Option (Int × List α)} {Hd : Nat → List α → Int → Int → Option Int} (E : Nat → α → Int → Option (Int × α)) (G : Nat → α → Int → Option Int) (c : Int) (P : α → Prop)
    (hL : ∀ k (xs : List α) (a : Int) (i : Nat), i < xs.length → 0 ≤ a → a + c ≤ 4611686018427387904 → L (k + 1) xs a (i : Int) = (E k (xs.getD i z) a).bind fun b => L k (xs.set i b.2) b.1 (wrap64 ((i : Int) + 1)))
    (hL0 : ∀ k (xs : List α) (a : Int) (i : Nat), xs.length ≤ i → L (k + 1) xs a (i : Int) = some (a, xs))
    (hH : ∀ k (xs : List α) (a : Int) (i : Nat), i < xs.length → 0 ≤ a → a + c ≤ 4611686018427387904 → Hd (k + 1) xs a (i : Int) = (G k (xs.getD i z) a).bind fun t => if t < 0 then some (-1) else Hd k xs t (wrap64 ((i : Int) + 1)))
    (hH0 : ∀ k (xs : List α) (a : Int) (i : Nat), xs.length ≤ i → Hd (k + 1) xs a (i : Int) = some a)
    (hc : 0 ≤ c)
    (hE : ∀ x a, P x → 0 ≤ a → a + c ≤ 4611686018427387904 → ∃ a' x', Ev (fun k => E k x a) (a', x') ∧ Ev (fun k => G k x' a) a' ∧ a ≤ a' ∧ a' ≤ a + c) :
    ∀ (d i : Nat) (xs : List α) (a : Int), i + d = xs.length → xs.length ≤ 9223372036854775807 → (∀ j, i ≤ j → j < xs.length → P (xs.getD j z)) → 0 ≤ a → a + d * c ≤ 4611686018427387904 →
      ∃ a' xs', xs'.length = xs.length ∧ (∀ j, j < i → xs'.getD j z = xs.getD j z) ∧ Ev (fun k => L k xs a (i : Int)) (a', xs') ∧ Ev (fun k => Hd k xs' a (i : Int)) a' ∧ a ≤ a' ∧ a' ≤ a + d * c := by
  intro d
  induction d with
  | zero =>
    intro i xs a hi hn hP ha hM
    exact ⟨a, xs, rfl, fun _ _ => rfl, ev_some fun k => hL0 k xs a i (by omega), ev_some fun k => hH0 k xs a i (by omega), Int.le_refl _, by simp⟩
  | succ d ih =>
    intro i xs a hi hn hP ha hM
    have hdc : 0 ≤ (d : Int) * c := Int.mul_nonneg (by omega) hc
    have hds : ((d + 1 : Nat) : Int) * c = (d : Int) * c + c := by rw [Int.natCast_add, Int.add_mul]; simp
    rw [hds] at hM
    obtain ⟨a1, x1, hE1, hG1, h1, h2⟩ := hE (xs.getD i z) a (hP i (Nat.le_refl _) (by omega)) ha (by omega)
    have hlen : (xs.set i x1).length = xs.length := List.length_set
    obtain ⟨a', xs', hl', hb', hL', hH', h3, h4⟩ := ih (i + 1) (xs.set i x1) a1 (by rw [hlen]; omega) (by rw [hlen]; exact hn) (fun j hj hj2 => by
      rw [hlen] at hj2
      rw [getD_set_ne (by omega)]
      exact hP j (by omega) hj2) (by omega) (by omega)
    have hxi : xs'.getD i z = x1 := by rw [hb' i (by omega), getD_set_self (by omega)]
    refine ⟨a', xs', by rw [hl', hlen], fun j hj => by rw [hb' j (by omega), getD_set_ne (by omega)], ?_, ?_, by omega, by rw [hds]; omega⟩
    · refine Ev.step (fun k => hL k xs a i (by omega) ha (by omega)) (ev_bind hE1 ?_)
      simp only [wsucc (n := xs.length) (i := i) (by omega) hn]
      exact hL'
    · refine Ev.step (fun k => hH k xs' a i (by rw [hl', hlen]; omega) ha (by omega)) ?_
      rw [hxi]
      refine ev_bind hG1 ?_
      simp only [if_neg (show ¬ a1 < 0 by omega), wsucc (n := xs.length) (i := i) (by omega) hn]
      exact hH'

/-- A row that is marked place by place. -/
theorem ev_mark1 {α : Type} (z : α) {L : Nat → List α → Int → Int → Option (Int × List α)} (E : Nat → α → Int → Option (Int × α)) (c : Int)
    (hL : ∀ k (xs : List α) (a : Int) (i : Nat), i < xs.length → 0 ≤ a → a + c ≤ 4611686018427387904 → L (k + 1) xs a (i : Int) = (E k (xs.getD i z) a).bind fun b => L k (xs.set i b.2) b.1 (wrap64 ((i : Int) + 1)))
    (hL0 : ∀ k (xs : List α) (a : Int) (i : Nat), xs.length ≤ i → L (k + 1) xs a (i : Int) = some (a, xs)) (hc : 0 ≤ c)
    (hE : ∀ x a, 0 ≤ a → a + c ≤ 4611686018427387904 → ∃ a' x', Ev (fun k => E k x a) (a', x') ∧ a ≤ a' ∧ a' ≤ a + c) :
    ∀ (d i : Nat) (xs : List α) (a : Int), i + d = xs.length → xs.length ≤ 9223372036854775807 → 0 ≤ a → a + d * c ≤ 4611686018427387904 →
      ∃ a' xs', Ev (fun k => L k xs a (i : Int)) (a', xs') ∧ a ≤ a' ∧ a' ≤ a + d * c := by
  intro d
  induction d with
  | zero =>
    intro i xs a hi hn ha hM
    exact ⟨a, xs, ev_some fun k => hL0 k xs a i (by omega), Int.le_refl _, by simp⟩
  | succ d ih =>
    intro i xs a hi hn ha hM
    have hdc : 0 ≤ (d : Int) * c := Int.mul_nonneg (by omega) hc
    have hds : ((d + 1 : Nat) : Int) * c = (d : Int) * c + c := by rw [Int.natCast_add, Int.add_mul]; simp
    rw [hds] at hM
    obtain ⟨a1, x1, hE1, h1, h2⟩ := hE (xs.getD i z) a ha (by omega)
    have hlen : (xs.set i x1).length = xs.length := List.length_set
    obtain ⟨a', xs', hL', h3, h4⟩ := ih (i + 1) (xs.set i x1) a1 (by rw [hlen]; omega) (by rw [hlen]; exact hn) (by omega) (by omega)
    refine ⟨a', xs', ?_, by omega, by rw [hds]; omega⟩
    refine Ev.step (fun k => hL k xs a i (by omega) ha (by omega)) (ev_bind hE1 ?_)
    simp only [wsucc (n := xs.length) (i := i) (by omega) hn]
    exact hL'

/-- Whole numbers. -/
theorem mark_int (l : List Int) (a : Int) (hn : (l.length : Int) ≤ 1099511627776) (ha : 0 ≤ a) (hM : a + l.length ≤ 4611686018427387904) :
    ∃ a' l', l'.length = l.length ∧ Ev (fun k => laws_markIntS.f k l a) (a', l') ∧ Ev (fun k => laws_heldIntS.f k l' a) a' ∧ a ≤ a' ∧ a' ≤ a + l.length := by
  obtain ⟨a', l', h1, _, h2, h3, h4, h5⟩ := ev_mark (0 : Int) (L := fun k xs a i => laws_markIntS.l0 k xs a i) (Hd := fun k xs a i => laws_heldIntS.l0 k xs a i)
    (fun _ _ a => some (wrap64 (a + 1), a)) (fun _ x a => if x = a then some (wrap64 (a + 1)) else some (-1)) 1 (fun _ => True)
    (fun k xs a i hi _ _ => by
      simp only [laws_markIntS.l0]
      rw [if_pos (by omega), if_pos (by omega)]
      rfl)
    (fun k xs a i hi => by
      simp only [laws_markIntS.l0]
      rw [if_neg (by omega)])
    (fun k xs a i hi h0 h1 => by
      simp only [laws_heldIntS.l0]
      rw [if_pos (by omega), if_pos (by omega)]
      show (if xs.getD i 0 = a then _ else _) = _
      by_cases h : xs.getD i 0 = a
      · rw [if_pos h, if_pos h, w64 (by omega) (by omega)]
        simp only [Option.bind_some]
        rw [if_neg (by omega)]
      · rw [if_neg h, if_neg h]
        rfl)
    (fun k xs a i hi => by
      simp only [laws_heldIntS.l0]
      rw [if_neg (by omega)])
    (by omega)
    (fun x a _ h0 h1 => ⟨a + 1, a, ev_const (by rw [w64 (by omega) (by omega)]), ev_const (by rw [if_pos rfl, w64 (by omega) (by omega)]), by omega, by omega⟩)
    l.length 0 l a (by omega) (by omega) (fun _ _ _ => trivial) ha (by omega)
  exact ⟨a', l', h1, h2, h3, h4, by omega⟩
end Go.Proofs.Ytklkhnomnanpoaa.Pu

/- Marks of a store without what tells them again. -/
namespace Go.Proofs.Ytklkhnomnanpoaa.Pu
open Go.RowKit Go.Proofs.Ytklkhnomnanpoaa.PK Go.Proofs.YtklkhnomnanpoaaW.PrintWords
theorem ev_markP {α : Type} (z : α) {L : Nat → List α → Int → Int → Option (Int × List α)} (E : Nat → α → Int → Option (Int × α)) (c : Int) (P : α → Prop)
    (hL : ∀ k (xs : List α) (a : Int) (i : Nat), i < xs.length → 0 ≤ a → a + c ≤ 4611686018427387904 → L (k + 1) xs a (i : Int) = (E k (xs.getD i z) a).bind fun b => L k (xs.set i b.2) b.1 (wrap64 ((i : Int) + 1)))
    (hL0 : ∀ k (xs : List α) (a : Int) (i : Nat), xs.length ≤ i → L (k + 1) xs a (i : Int) = some (a, xs)) (hc : 0 ≤ c)
    (hE : ∀ x a, P x → 0 ≤ a → a + c ≤ 4611686018427387904 → ∃ a' x', Ev (fun k => E k x a) (a', x') ∧ a ≤ a' ∧ a' ≤ a + c) :
    ∀ (d i : Nat) (xs : List α) (a : Int), i + d = xs.length → xs.length ≤ 9223372036854775807 → (∀ j, i ≤ j → j < xs.length → P (xs.getD j z)) → 0 ≤ a → a + d * c ≤ 4611686018427387904 →
      ∃ a' xs', Ev (fun k => L k xs a (i : Int)) (a', xs') ∧ a ≤ a' ∧ a' ≤ a + d * c := by
  intro d
  induction d with
  | zero =>
    intro i xs a hi hn _ ha hM
    exact ⟨a, xs, ev_some fun k => hL0 k xs a i (by omega), Int.le_refl _, by simp⟩
  | succ d ih =>
    intro i xs a hi hn hP ha hM
    have hdc : 0 ≤ (d : Int) * c := Int.mul_nonneg (by omega) hc
    have hds : ((d + 1 : Nat) : Int) * c = (d : Int) * c + c := by rw [Int.natCast_add, Int.add_mul]; simp
    rw [hds] at hM
    obtain ⟨a1, x1, hE1, h1, h2⟩ := hE (xs.getD i z) a (hP i (Nat.le_refl _) (by omega)) ha (by omega)
    have hlen : (xs.set i x1).length = xs.length := List.length_set
    obtain ⟨a', xs', hL', h3, h4⟩ := ih (i + 1) (xs.set i x1) a1 (by rw [hlen]; omega) (by rw [hlen]; exact hn) (fun j hj hl => by rw [getD_set_ne (by omega)]; exact hP j (by omega) (by rw [hlen] at hl; exact hl)) (by omega) (by omega)
    refine ⟨a', xs', ?_, by omega, by rw [hds]; omega⟩
    refine Ev.step (fun k => hL k xs a i (by omega) ha (by omega)) (ev_bind hE1 ?_)
    simp only [wsucc (n := xs.length) (i := i) (by omega) hn]
    exact hL'
theorem marked_int (l : List Int) (a : Int) (hn : (l.length : Int) ≤ 1099511627776) (ha : 0 ≤ a) (hM : a + l.length ≤ 4611686018427387904) :
    ∃ a' l', Ev (fun k => laws_markIntS.f k l a) (a', l') ∧ a ≤ a' ∧ a' ≤ a + l.length := by
  obtain ⟨a', l', h1, h2, h3⟩ := ev_markP (0 : Int) (L := fun k xs a i => laws_markIntS.l0 k xs a i) (fun _ _ a => some (wrap64 (a + 1), a)) 1 (fun _ => True)
    (fun k xs a i hi _ _ => by
      simp only [laws_markIntS.l0]
      rw [if_pos (by omega), if_pos (by omega)]
      simp only [Option.bind_some, Int.toNat_natCast])
    (fun k xs a i hi => by
      simp only [laws_markIntS.l0]
      rw [if_neg (by omega)])
    (by omega)
    (fun x a _ h0 h1 => ⟨a + 1, a, by simp only [w64 (x := a + 1) (by omega) (by omega)]; exact Ev.now _, by omega, by omega⟩)
    l.length 0 l a (by omega) (by omega) (fun _ _ _ => trivial) ha (by omega)
  exact ⟨a', l', h1, h2, by omega⟩
theorem marked_knots (l : List S147) (a : Int) (hn : l.length ≤ 1048576) (hk : ∀ x ∈ l, x.f1.length ≤ 1048576) (ha : 0 ≤ a) (hM : a ≤ 1099511627776) :
    ∃ a' l', Ev (fun k => laws_markKnotS.f k l a) (a', l') ∧ a ≤ a' ∧ a' ≤ a + l.length * 1048577 := by
  obtain ⟨a', l', h1, h2, h3⟩ := ev_markP z147 (L := fun k xs a i => laws_markKnotS.l0 k xs a i)
    (fun k x a => (laws_markIntS.f k x.f1 (wrap64 (a + 1))).bind fun b => some (b.1, (⟨Int.tmod a 3 == 0, b.2⟩ : S147))) 1048577 (fun x => x.f1.length ≤ 1048576)
    (fun k xs a i hi _ _ => by
      have e1 : rd_T147 (xs.set i (⟨Int.tmod a 3 == 0, (rd_T147 xs (i : Int)).f1⟩ : S147)) (i : Int) = ⟨Int.tmod a 3 == 0, (rd_T147 xs (i : Int)).f1⟩ := getD_set_self hi
      simp only [laws_markKnotS.l0]
      rw [if_pos (by omega), if_pos (by omega)]
      simp only [Option.bind_some, Int.toNat_natCast, e1, List.set_set, Option.bind_assoc]
      rfl)
    (fun k xs a i hi => by
      simp only [laws_markKnotS.l0]
      rw [if_neg (by omega)])
    (by omega)
    (fun x a hx h0 h1 => by
      obtain ⟨a1, l1, g2, g4, g5⟩ := marked_int x.f1 (a + 1) (by omega) (by omega) (by omega)
      refine ⟨a1, ⟨Int.tmod a 3 == 0, l1⟩, ?_, by omega, by omega⟩
      simp only [w64 (x := a + 1) (by omega) (by omega)]
      exact ev_bind g2 (Ev.now _))
    l.length 0 l a (by omega) (by omega) (fun j _ hj => hk _ (by rw [List.getD_eq_getElem?_getD, List.getElem?_eq_getElem hj]; exact List.getElem_mem hj)) ha (by omega)
  exact ⟨a', l', h1, h2, h3⟩
theorem marked_vols (l : List S89) (a : Int) (hn : (l.length : Int) ≤ 1099511627776) (ha : 0 ≤ a) (hM : a + l.length * 2 ≤ 4611686018427387904) :
    ∃ a' l', Ev (fun k => laws_markVolS.f k l a) (a', l') ∧ a ≤ a' ∧ a' ≤ a + l.length * 2 := by
  obtain ⟨a', l', h1, h2, h3⟩ := ev_markP z89 (L := fun k xs a i => laws_markVolS.l0 k xs a i)
    (fun _ x a => some (wrap64 ((wrap64 (a + 1)) + 1), (⟨a, wrap64 (a + 1)⟩ : S89))) 2 (fun _ => True)
    (fun k xs a i hi _ _ => by
      have e1 : ∀ v, rd_T89 (xs.set i v) (i : Int) = v := fun v => getD_set_self hi
      simp only [laws_markVolS.l0]
      rw [if_pos (by omega), if_pos (by omega)]
      simp only [Option.bind_some, Int.toNat_natCast, e1, List.set_set])
    (fun k xs a i hi => by
      simp only [laws_markVolS.l0]
      rw [if_neg (by omega)])
    (by omega)
    (fun x a _ h0 h1 => by
      have ew : wrap64 ((wrap64 (a + 1)) + 1) = a + 2 := by rw [w64 (x := a + 1) (by omega) (by omega)]; rw [w64 (x := a + 1 + 1) (by omega) (by omega)]; omega
      exact ⟨a + 2, ⟨a, wrap64 (a + 1)⟩, by simp only [ew]; exact Ev.now _, by omega, by omega⟩)
    l.length 0 l a (by omega) (by omega) (fun _ _ _ => trivial) ha (by omega)
  exact ⟨a', l', h1, h2, h3⟩
theorem marked_store (v : List S89) (l : List S147) (n a : Int) (hv : v.length ≤ 1048576) (hn : l.length ≤ 1048576) (hk : ∀ x ∈ l, x.f1.length ≤ 1048576) (ha : 0 ≤ a) (hM : a ≤ 1048576) :
    ∃ a' v' l', Ev (fun k => laws_markStore.f k v l n a) (a', v', l') ∧ a ≤ a' := by
  obtain ⟨a1, v1, g2, g3, g4⟩ := marked_vols v a (by omega) ha (by omega)
  obtain ⟨a2, l2, k2, k3, _⟩ := marked_knots l a1 hn hk (by omega) (by omega)
  refine ⟨a2, v1, l2, ?_, by omega⟩
  unfold laws_markStore.f
  refine ev_bind g2 (ev_bind (g := fun k => laws_markArena.f k l a1) (a := (a2, l2)) ?_ (Ev.now _))
  unfold laws_markArena.f
  exact ev_bind k2 (Ev.now _)
end Go.Proofs.Ytklkhnomnanpoaa.Pu

/- FnExactLiveOf: the program's and the reference's chunks that sectors have are the same, and the program's list is its own. -/
namespace Go.Proofs.Ytklkhnomnanpoaa.Pure
open Go.RowKit Go.Proofs.Ytklkhnomnanpoaa.PK Go.Proofs.YtklkhnomnanpoaaW.PrintWords Go.Proofs.Ytklkhnomnanpoaa.Pu
theorem FnExactLiveOf : ∀ (l0_0 : List S121) (l0_1 : List S144) (a0_2 : Int), (l0_0.length ≤ maxLen ∧ ∀ x_l0_0 ∈ l0_0, ((Lit.int .i64 x_l0_0.f0).wf = true ∧ (Lit.int .i64 x_l0_0.f1).wf = true)) → (l0_1.length ≤ maxLen ∧ ∀ x_l0_1 ∈ l0_1, (True ∧ (x_l0_1.f1.length ≤ maxLen ∧ ∀ x_x_l0_1f1 ∈ x_l0_1.f1, (Lit.int .i64 x_x_l0_1f1).wf = true))) → (Lit.int .i64 a0_2).wf = true → ∃ k, laws_FnExactLiveOf.f k l0_0 l0_1 a0_2 = some true := by
  intro v l n ⟨hv, _⟩ ⟨hl, hx⟩ _
  refine Ev.rounds (g := fun k => laws_FnExactLiveOf.f k v l n) ?_
  obtain ⟨r, hr, _, hq⟩ := store_start (n := n) (a := 1048576) (by omega) (by omega) hv hl (fun x h => (hx x h).2.1)
  unfold laws_FnExactLiveOf.f
  refine ev_bind hr ?_
  by_cases h : r < 0
  · simp only [if_pos h]; exact Ev.now _
  · simp only [if_neg h]
    obtain ⟨hto, heq, hn, ha, hk⟩ := hq (by omega)
    have ha2 : (toA l).length ≤ 9223372036854775807 := by omega
    have hs := sLive_ev _ _ n hn ha2
    have hi := iLive_ev _ _ n hn ha2
    have hL := live_len (v.map toVl) (toA l)
    have eqi := eqIntS_ev (liveB (v.map toVl) (toA l)) (by omega)
    obtain ⟨ka, v', l', hmk, hk0⟩ := marked_store (v.map toVl) (toA l) n 1 hn (by omega) hk (by omega) (by omega)
    obtain ⟨m, g', _, hm1, hm2, hm0, _⟩ := mark_int (liveB (v.map toVl) (toA l)) 1 (by omega) (by omega) (by omega)
    refine ev_bind hto (ev_bind hs (ev_bind hto (ev_bind hi (ev_bind eqi ?_))))
    simp only [if_true]
    refine ev_bind hto (ev_bind heq ?_)
    simp only [if_true]
    refine ev_bind hmk (ev_bind eqi ?_)
    simp only [if_true, if_neg (show ¬ ka < 0 by omega)]
    refine ev_bind hm1 (ev_bind hm2 ?_)
    simp only [if_true, if_neg (show ¬ m < 0 by omega)]
    refine ev_bind hto (ev_bind hi (ev_bind eqi ?_))
    simp only [if_true]
    refine ev_bind hm2 ?_
    simp only [if_true, if_neg (show ¬ m < 0 by omega)]
    exact Ev.now _
end Go.Proofs.Ytklkhnomnanpoaa.Pure

/- FnExactLiveOf: whatever the input, the law returns true, and its arguments read as they did. The row, out of the law's own walk and the pure statement. -/
namespace Go.Proofs.Ytklkhnomnanpoaa.fnExactLiveOf
open Go.ChangeShapes Go.WideShapes Go.ChangeAt Go.RowKit Go.Proofs.Ytklkhnomnanpoaa.Open Go.Proofs.YtklkhnomnanpoaaW.PrintWords Go.Proofs.Ytklkhnomnanpoaa.PK
open Go.ChangeMaps (open_string shut_string)
theorem own : ownKnob Try.prog.godebug = none := by kernel_rfl
theorem laidOut : laidOutB Try.prog = true := by kernel_rfl
set_option maxRecDepth 100000 in
theorem o144 : Opn Try.prog 144 k144 (fun x => (True ∧ (x.f1.length ≤ maxLen ∧ ∀ x_xf1 ∈ x.f1, (Lit.int .i64 x_xf1).wf = true))) := opn_struct (d := (Kd.pair Kd.bool (Kd.slice 3 (Kd.int .i64)))) (wf := fun (y : Bool × (List Int)) => (True ∧ (y.2.length ≤ maxLen ∧ ∀ x_y2 ∈ y.2, (Lit.int .i64 x_y2).wf = true))) (fun x : S144 => (x.f0, x.f1)) (fun y => (⟨y.1, y.2⟩ : S144)) (fun _ => rfl) Try.underlying144 (by kernel_rfl) (opnF_cons rfl (by kernel_rfl) (opn_bool Try.underlying4) (opnF_one rfl (by kernel_rfl) (opn_slice Try.underlying29 (by kernel_rfl) (opn_int Try.underlying3))))
set_option maxRecDepth 100000 in
theorem p25 : Opn Try.prog 25 (Kd.slice 144 k144) (fun (y : (List S144)) => (y.length ≤ maxLen ∧ ∀ x_y ∈ y, (True ∧ (x_y.f1.length ≤ maxLen ∧ ∀ x_x_yf1 ∈ x_y.f1, (Lit.int .i64 x_x_yf1).wf = true)))) := opn_tuple Try.underlying25 (by kernel_rfl) (opnF_one rfl (by kernel_rfl) (opn_slice Try.underlying23 (by kernel_rfl) o144))
set_option maxRecDepth 100000 in
theorem o121 : Opn Try.prog 121 k121 (fun x => ((Lit.int .i64 x.f0).wf = true ∧ (Lit.int .i64 x.f1).wf = true)) := opn_struct (d := (Kd.pair (Kd.int .i64) (Kd.int .i64))) (wf := fun (y : Int × Int) => ((Lit.int .i64 y.1).wf = true ∧ (Lit.int .i64 y.2).wf = true)) (fun x : S121 => (x.f0, x.f1)) (fun y => (⟨y.1, y.2⟩ : S121)) (fun _ => rfl) Try.underlying121 (by kernel_rfl) (opnF_cons rfl (by kernel_rfl) (opn_int Try.underlying3) (opnF_one rfl (by kernel_rfl) (opn_int Try.underlying3)))
set_option maxRecDepth 100000 in
theorem p27 : Opn Try.prog 27 (Kd.pair (Kd.slice 121 k121) (Kd.pair (Kd.slice 144 k144) (Kd.int .i64))) (fun (y : ((List S121) × (List S144) × Int)) => ((y.1.length ≤ maxLen ∧ ∀ x_y1 ∈ y.1, ((Lit.int .i64 x_y1.f0).wf = true ∧ (Lit.int .i64 x_y1.f1).wf = true)) ∧ ((y.2.1.length ≤ maxLen ∧ ∀ x_y21 ∈ y.2.1, (True ∧ (x_y21.f1.length ≤ maxLen ∧ ∀ x_x_y21f1 ∈ x_y21.f1, (Lit.int .i64 x_x_y21f1).wf = true))) ∧ (Lit.int .i64 y.2.2).wf = true))) := opn_tuple Try.underlying27 (by kernel_rfl) (opnF_cons rfl (by kernel_rfl) (opn_slice Try.underlying22 (by kernel_rfl) o121) (opnF_cons (a := (Kd.slice 144 k144)) (wa := fun (y : (List S144)) => (y.length ≤ maxLen ∧ ∀ x_y ∈ y, (True ∧ (x_y.f1.length ≤ maxLen ∧ ∀ x_x_yf1 ∈ x_y.f1, (Lit.int .i64 x_x_yf1).wf = true)))) rfl (by kernel_rfl) p25 (opnF_one rfl (by kernel_rfl) (opn_int Try.underlying3))))
set_option maxRecDepth 100000 in
set_option maxHeartbeats 4000000 in
theorem lifted (os : Os) (started : os.Started) (H : Type) (enc : TypeId × Value → H) :
    ReturnsInHanded {} Try.checked os 3 .any (Rows.fnExactLiveOfSpec.pre6 enc Try.prog Try.f3 Rows.fnExactLiveOfRow.domain false) (Rows.fnExactLiveOfSpec.post enc Try.prog Try.f3 false true false false) := by
  refine returnsInHanded_of_change_sized (C := Try.checked) own started (by kernel_rfl) Try.func3
    (ChangeSpec.witness6 (enc := enc) (C := Try.checked) false ⟨#[], #[.agg #[.slice none 0 0, .slice none 0 0, .int .i64 0]], []⟩ 8 (by kernel_rfl) (by kernel_rfl) (by kernel_rfl) (by kernel_rfl)) ?_
  intro W base args ds gs before hval0 hW hcnd hsz0 _
  have hval : ∀ (j : Nat) t v, Try.f3.params[j]? = some t → args[j]? = some v → Value.okWide Try.prog W .any base t v := hval0
  have hW' := hW
  obtain ⟨p, q, hA0, hV, rfl, hfz, hnd⟩ := hW
  have hA : DataW.TrodAll enc Try.prog W 0 (fun _ => true) true Try.f3.params.toList args.toList ds p := hA0
  rw [Try.params3] at hA hval
  obtain ⟨v0, vs0, d0, ds0, p0, q0, hargs, rfl, rfl, h0, r0⟩ := trodAll_cons hA
  obtain ⟨rfl, rfl, rfl⟩ := trodAll_nil r0
  obtain rfl : args = #[v0] := by cases args; simp_all
  obtain ⟨rfl, rfl⟩ := trodVars_none hV
  have k0 := h0
  have lt0 : ∀ x ∈ p0, x.block < W.heap.size := by obtain ⟨m, hm⟩ := k0; exact DataW.trod_lt m _ _ _ hm
  obtain ⟨fu0, hf0⟩ := h0
  obtain ⟨y0, K0, Y0⟩ := p27 H enc W 0 (fun _ => true) true fu0 _ _ hf0
  obtain ⟨cs0, rfl, sz0⟩ := okWide_struct Try.underlying27 (hval 0 27 v0 rfl rfl)
  obtain ⟨c0_0, c0_r0, ec0_r0, hc0_0, hc0_r0⟩ := K0
  obtain ⟨Ac0_0, Cc0_0, Ec0_0, Lc0_0, Gc0_0⟩ := hc0_0
  obtain ⟨c0_r0_1, c0_r0_r1, ec0_r0_r1, hc0_r0_1, hc0_r0_r1⟩ := hc0_r0
  obtain ⟨Ac0_r0_1, Cc0_r0_1, Ec0_r0_1, Lc0_r0_1, Gc0_r0_1⟩ := hc0_r0_1
  have Ec0_r0_r1 := hc0_r0_r1
  have E0 : cs0 = #[.slice Ac0_0 y0.1.length Cc0_0, .slice Ac0_r0_1 y0.2.1.length Cc0_r0_1, .int .i64 y0.2.2] := by
    apply Array.toList_inj.1
    have z : cs0.toList = _ := ec0_r0
    rw [z]
    rw [ec0_r0_r1, Ec0_0, Ec0_r0_1, Ec0_r0_r1]
    rfl
  subst E0
  obtain ⟨k, hp⟩ := Pure.FnExactLiveOf y0.1 y0.2.1 y0.2.2 Y0.1 Y0.2.1 Y0.2.2
  clear hA0 hval0 hsz0
  refine (laws_FnExactLiveOf.calls k Ac0_0 Cc0_0 y0.1 Ac0_r0_1 Cc0_r0_1 y0.2.1 y0.2.2 true ⟨rfl⟩ W Gc0_0 Lc0_0 Gc0_r0_1 Lc0_r0_1 hp).mono fun e W' ⟨he, bel0⟩ => ?_
  have bel : Below W.heap.size W W' := bel0
  subst he
  exact ⟨_, rfl, _, _, _, [], _, [], hW', trodAll_mk1 (shut_bool Try.underlying4 _), (trodAll_cons_mk (Below.trod laidOut (by kernel_rfl) (of_decide_eq_true (by kernel_rfl)) k0 bel lt0) trodAll_mk0), rfl, bel.frame _, fun h => by cases h⟩
theorem over : Rows.fnExactLiveOfRow.holds Try.pinned (OpenSpec.ofChange Rows.fnExactLiveOfSpec) :=
  OpenClaim.holds_of_wide 3 Try.f3 rfl rfl rfl rfl rfl rfl rfl ⟨rfl, rfl, rfl, rfl, rfl⟩ rfl rfl rfl rfl rfl (by kernel_rfl) Try.func3 (by kernel_rfl)
    (of_decide_eq_true (by kernel_rfl)) (by unfold Func.isWrapper; first | (rw [if_pos (by decide +kernel)]; kernel_rfl) | (rw [if_neg (by decide +kernel)]; exact ⟨rfl, rfl⟩))
    (fun os started H enc _ => lifted os started H enc)
theorem proved : Rows.FnExactLiveOfSaid := over
#print axioms proved
end Go.Proofs.Ytklkhnomnanpoaa.fnExactLiveOf
namespace Go.Proofs.Ytklkhnomnanpoaa
/-- The row, under a short name, for the claim. -/
theorem fnExactLiveOf_holds : Rows.FnExactLiveOfSaid := fnExactLiveOf.proved
end Go.Proofs.Ytklkhnomnanpoaa
