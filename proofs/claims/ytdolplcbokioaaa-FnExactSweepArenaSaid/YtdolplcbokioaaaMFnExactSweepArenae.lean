/- FnExactSweepArena: functions of the translation as Lean functions with what their calls come to, plain lemmas on them, and, at the end, the row. Parts of one proof, merged by a program of this session; each part's own sentence stands at its head. -/
import Derived.Test.YtdolplcbokioaaaRows
import Derived.WalkKit
import Derived.ProofKit
import Derived.OpenShut
import Derived.ShutString
import Derived.ChangeOld
import Derived.Below
import Derived.SizedLaws
import Derived.Test.YtdolplcbokioaaaMFnExactSweepArenad
namespace Go.Proofs.Ytdolplcbokioaaa.PB
open Go.RowKit Go.Proofs.YtdolplcbokioaaaW.PrintWords Go.Proofs.YtdolplcbokioaaaW.PrintLast Go.Proofs.YtdolplcbokioaaaW.PrintMore
attribute [local go_sem] max2_int min2_int max_two min_two max_three min_three max_four min_four   -- for this text's walks alone
set_option linter.unusedVariables false
set_option linter.unusedSimpArgs false
def spec_l11Get.f (l0_0 : List (S133)) (a1 : Int) (a2 : Int) : Option (Int):=if a1 < 0 then (some 0) else (if 0 ≤ a1 then (if a1 < (l0_0.length : Int) then (if 0 ≤ (wrap64 (Int.tdiv a2 4)) then (if (wrap64 (Int.tdiv a2 4)) < (((rd_T133 l0_0 a1).f1).length : Int) then (if (rd ((rd_T133 l0_0 a1).f1) (wrap64 (Int.tdiv a2 4))) < 0 then (some 0) else (if 0 ≤ (rd ((rd_T133 l0_0 a1).f1) (wrap64 (Int.tdiv a2 4))) then (if (rd ((rd_T133 l0_0 a1).f1) (wrap64 (Int.tdiv a2 4))) < (l0_0.length : Int) then (if 0 ≤ (Int.tmod a2 4) then (if (Int.tmod a2 4) < (((rd_T133 l0_0 (rd ((rd_T133 l0_0 a1).f1) (wrap64 (Int.tdiv a2 4)))).f1).length : Int) then (some (rd ((rd_T133 l0_0 (rd ((rd_T133 l0_0 a1).f1) (wrap64 (Int.tdiv a2 4)))).f1) (Int.tmod a2 4))) else (none)) else (none)) else (none)) else (none))) else (none)) else (none)) else (none)) else (none))
set_option maxHeartbeats 8000000 in
set_option maxRecDepth 100000 in
theorem spec_l11Get.calls (A0_0 : Option Addr) (c0_0 : Nat) (l0_0 : List (S133)) (a1 : Int) (a2 : Int) (r : Int) (w : World) (hr0_0 : Kd.C k133 w A0_0 l0_0.length l0_0) (hc0_0 : l0_0.length ≤ c0_0) (h : spec_l11Get.f l0_0 a1 a2 = some r) :
  Calls Try.prog 135 #[.agg #[.slice A0_0 l0_0.length c0_0],.int .i64 a1,.int .i64 a2] w fun e w'=>e = .returned (.int .i64 r) ∧ Below w.heap.size w w':=by
 have hu44:=Try.underlying44;have HR0_0:=Aside0.mk hr0_0;have HC0_0:=Aside0.mk hc0_0;clear hr0_0 hc0_0;have HB:=Aside0.mk (Below.refl w.heap.size w);have H : (if a1 < 0 then (some 0) else (if 0 ≤ a1 then (if a1 < (l0_0.length : Int) then (if 0 ≤ (wrap64 (Int.tdiv a2 4)) then (if (wrap64 (Int.tdiv a2 4)) < (((rd_T133 l0_0 a1).f1).length : Int) then (if (rd ((rd_T133 l0_0 a1).f1) (wrap64 (Int.tdiv a2 4))) < 0 then (some 0) else (if 0 ≤ (rd ((rd_T133 l0_0 a1).f1) (wrap64 (Int.tdiv a2 4))) then (if (rd ((rd_T133 l0_0 a1).f1) (wrap64 (Int.tdiv a2 4))) < (l0_0.length : Int) then (if 0 ≤ (Int.tmod a2 4) then (if (Int.tmod a2 4) < (((rd_T133 l0_0 (rd ((rd_T133 l0_0 a1).f1) (wrap64 (Int.tdiv a2 4)))).f1).length : Int) then (some (rd ((rd_T133 l0_0 (rd ((rd_T133 l0_0 a1).f1) (wrap64 (Int.tdiv a2 4)))).f1) (Int.tmod a2 4))) else (none)) else (none)) else (none)) else (none))) else (none)) else (none)) else (none)) else (none))) = some r:=h;clear h
 by_cases c4 : a1 < 0
 ·rw [if_pos c4] at H;have c4b0 : decide (a1 < 0) = true:=decide_eq_true c4;clear c4;obtain rfl:=Option.some.inj H
  go_enter Try.func135,Try.ntmps135
  go_wp2_with (first | ((with_reducible refine gate_dst (N:=3) rfl ?_);refine box_event ?hg (N:=3) ?hd (cs:=#[.slice A0_0 l0_0.length c0_0]) (t:=44) ?hr ?_;(case hd=>rfl);(case hg=>rfl);(case hr=>first | (go_simp;done) | (go_simp;rfl));intro gb699 hg w5 hbox hb;have n0_:=Aside0.mk (below_step (hs HB) hb);have n1_:=Aside0.mk (hbox);have n2_:=Aside0.mk ((by rw [hg];exact (below_size (hs HB)) : w.heap.size ≤ gb699));have n3_:=Aside0.mk ((by rw [hg];exact (below_size (hs HB)) : w.heap.size ≤ gb699));clear HB;have HB:=n0_;have BK699:=n1_;have GW699:=n2_;have GE699:=n3_;clear n0_ n1_ n2_ n3_;clear hb hbox hg))
  go_ret
  exact ⟨by first | rfl | (simp [errW_none,errW_some] <;> rfl) | (simp [*,errW_none,errW_some] <;> rfl),hs1 HB GE699⟩
 rw [if_neg c4] at H;have c4b0 : decide (a1 < 0) = false:=decide_eq_false c4;clear c4
 by_cases c6 : 0 ≤ a1
 ·rw [if_pos c6] at H;have c6b0 : decide (0 ≤ a1) = true:=decide_eq_true c6;clear c6
  by_cases c7 : a1 < (l0_0.length : Int)
  ·rw [if_pos c7] at H;have c7b0 : decide (a1 < (l0_0.length : Int)) = true:=decide_eq_true c7;clear c7;obtain ⟨ji8,hji8⟩ : ∃ j_ : Int,(wrap64 (Int.tdiv a2 4)) = j_:=⟨_,rfl⟩;replace H : (if 0 ≤ (ji8) then (if (ji8) < (((rd_T133 l0_0 a1).f1).length : Int) then (if (rd ((rd_T133 l0_0 a1).f1) (ji8)) < 0 then (some 0) else (if 0 ≤ (rd ((rd_T133 l0_0 a1).f1) (ji8)) then (if (rd ((rd_T133 l0_0 a1).f1) (ji8)) < (l0_0.length : Int) then (if 0 ≤ (Int.tmod a2 4) then (if (Int.tmod a2 4) < (((rd_T133 l0_0 (rd ((rd_T133 l0_0 a1).f1) (ji8))).f1).length : Int) then (some (rd ((rd_T133 l0_0 (rd ((rd_T133 l0_0 a1).f1) (ji8))).f1) (Int.tmod a2 4))) else (none)) else (none)) else (none)) else (none))) else (none)) else (none)) = some r:=by first | (rw [hji8] at H;exact H) | (simp only [hji8] at H ⊢;exact H)
   have hji8w : (IntKind.i64.wrap (Int.tdiv a2 4)) = ji8:=(i64_w _).trans hji8
   by_cases c9 : 0 ≤ (ji8)
   ·rw [if_pos c9] at H;have c9b0 : decide (0 ≤ (ji8)) = true:=decide_eq_true c9;clear c9
    by_cases c10 : (ji8) < (((rd_T133 l0_0 a1).f1).length : Int)
    ·rw [if_pos c10] at H;have c10b0 : decide ((ji8) < (((rd_T133 l0_0 a1).f1).length : Int)) = true:=decide_eq_true c10;clear c10
     by_cases c11 : (rd ((rd_T133 l0_0 a1).f1) (ji8)) < 0
     ·rw [if_pos c11] at H;have c11b0 : decide ((rd ((rd_T133 l0_0 a1).f1) (ji8)) < 0) = true:=decide_eq_true c11;clear c11;obtain rfl:=Option.some.inj H
      go_enter Try.func135,Try.ntmps135
      go_wp2_with (first | ((with_reducible refine gate_dst (N:=3) rfl ?_);refine box_event ?hg (N:=3) ?hd (cs:=#[.slice A0_0 l0_0.length c0_0]) (t:=44) ?hr ?_;(case hd=>rfl);(case hg=>rfl);(case hr=>first | (go_simp;done) | (go_simp;rfl));intro gb699 hg w12 hbox hb;have n0_:=Aside0.mk (below_step (hs HB) hb);have n1_:=Aside0.mk (hbox);have n2_:=Aside0.mk ((by rw [hg];exact (below_size (hs HB)) : w.heap.size ≤ gb699));have n3_:=Aside0.mk ((by rw [hg];exact (below_size (hs HB)) : w.heap.size ≤ gb699));clear HB;have HB:=n0_;have BK699:=n1_;have GW699:=n2_;have GE699:=n3_;clear n0_ n1_ n2_ n3_;clear hb hbox hg;have hcz13_0 : w12.cell? ⟨gb699,0,none⟩ = some (.slice A0_0 l0_0.length c0_0):=(blk_cell BK699.out 0).trans rfl;have hfz13_0:=blk_frozen BK699.out 0;have p700 : 0 ≤ (a1 : Int):=of_decide_eq_true (by first | (with_reducible assumption) | assumption);have q700 : a1 < (l0_0.length : Int):=of_decide_eq_true (by first | (with_reducible assumption) | assumption);obtain ⟨ad700,A700_1,c700_1,e700,hx700_0,hx700_1,hl700_1,hi700_1⟩:=at_T133 HR0_0.out a1 p700 q700;cases e700;replace hx700_0:=(HB.out.cell (World.block_lt_of_cell? w _ hx700_0)).trans hx700_0;replace hx700_1:=(HB.out.cell (World.block_lt_of_cell? w _ hx700_1)).trans hx700_1;have HR700_1:=Aside0.mk hi700_1;have HC700_1:=Aside0.mk hl700_1;clear hi700_1 hl700_1;replace p700:=eq_true p700;replace q700:=eq_true q700;have p701 : 0 ≤ ((ji8) : Int):=of_decide_eq_true (by first | (with_reducible assumption) | assumption);have q701 : (ji8) < (((rd_T133 l0_0 a1).f1).length : Int):=of_decide_eq_true (by first | (with_reducible assumption) | assumption);obtain ⟨ad701,e701,hx701_0⟩:=Kd.at_int HR700_1.out (ji8) p701 q701;cases e701;replace hx701_0:=(HB.out.cell (World.block_lt_of_cell? w _ hx701_0)).trans hx701_0;replace p701:=eq_true p701;replace q701:=eq_true q701))
      go_ret
      exact ⟨by first | rfl | (simp [errW_none,errW_some] <;> rfl) | (simp only [← hji8];first | rfl | (simp [errW_none,errW_some] <;> rfl)) | (simp [*,errW_none,errW_some] <;> rfl),hs1 HB GE699⟩
     rw [if_neg c11] at H;have c11b0 : decide ((rd ((rd_T133 l0_0 a1).f1) (ji8)) < 0) = false:=decide_eq_false c11;clear c11
     by_cases c14 : 0 ≤ (rd ((rd_T133 l0_0 a1).f1) (ji8))
     ·rw [if_pos c14] at H;have c14b0 : decide (0 ≤ (rd ((rd_T133 l0_0 a1).f1) (ji8))) = true:=decide_eq_true c14;clear c14
      by_cases c15 : (rd ((rd_T133 l0_0 a1).f1) (ji8)) < (l0_0.length : Int)
      ·rw [if_pos c15] at H;have c15b0 : decide ((rd ((rd_T133 l0_0 a1).f1) (ji8)) < (l0_0.length : Int)) = true:=decide_eq_true c15;clear c15;obtain ⟨ji16,hji16⟩ : ∃ j_ : Int,(Int.tmod a2 4) = j_:=⟨_,rfl⟩;replace H : (if 0 ≤ (ji16) then (if (ji16) < (((rd_T133 l0_0 (rd ((rd_T133 l0_0 a1).f1) (ji8))).f1).length : Int) then (some (rd ((rd_T133 l0_0 (rd ((rd_T133 l0_0 a1).f1) (ji8))).f1) (ji16))) else (none)) else (none)) = some r:=by first | (rw [hji16] at H;exact H) | (simp only [hji16] at H ⊢;exact H)
       by_cases c17 : 0 ≤ (ji16)
       ·rw [if_pos c17] at H;have c17b0 : decide (0 ≤ (ji16)) = true:=decide_eq_true c17;clear c17
        by_cases c18 : (ji16) < (((rd_T133 l0_0 (rd ((rd_T133 l0_0 a1).f1) (ji8))).f1).length : Int)
        ·rw [if_pos c18] at H;have c18b0 : decide ((ji16) < (((rd_T133 l0_0 (rd ((rd_T133 l0_0 a1).f1) (ji8))).f1).length : Int)) = true:=decide_eq_true c18;clear c18;obtain rfl:=Option.some.inj H
         go_enter Try.func135,Try.ntmps135
         go_wp2_with (first | ((with_reducible refine gate_dst (N:=3) rfl ?_);refine box_event ?hg (N:=3) ?hd (cs:=#[.slice A0_0 l0_0.length c0_0]) (t:=44) ?hr ?_;(case hd=>rfl);(case hg=>rfl);(case hr=>first | (go_simp;done) | (go_simp;rfl));intro gb699 hg w19 hbox hb;have n0_:=Aside0.mk (below_step (hs HB) hb);have n1_:=Aside0.mk (hbox);have n2_:=Aside0.mk ((by rw [hg];exact (below_size (hs HB)) : w.heap.size ≤ gb699));have n3_:=Aside0.mk ((by rw [hg];exact (below_size (hs HB)) : w.heap.size ≤ gb699));clear HB;have HB:=n0_;have BK699:=n1_;have GW699:=n2_;have GE699:=n3_;clear n0_ n1_ n2_ n3_;clear hb hbox hg;have hcz20_0 : w19.cell? ⟨gb699,0,none⟩ = some (.slice A0_0 l0_0.length c0_0):=(blk_cell BK699.out 0).trans rfl;have hfz20_0:=blk_frozen BK699.out 0;have p700 : 0 ≤ (a1 : Int):=of_decide_eq_true (by first | (with_reducible assumption) | assumption);have q700 : a1 < (l0_0.length : Int):=of_decide_eq_true (by first | (with_reducible assumption) | assumption);obtain ⟨ad700,A700_1,c700_1,e700,hx700_0,hx700_1,hl700_1,hi700_1⟩:=at_T133 HR0_0.out a1 p700 q700;cases e700;replace hx700_0:=(HB.out.cell (World.block_lt_of_cell? w _ hx700_0)).trans hx700_0;replace hx700_1:=(HB.out.cell (World.block_lt_of_cell? w _ hx700_1)).trans hx700_1;have HR700_1:=Aside0.mk hi700_1;have HC700_1:=Aside0.mk hl700_1;clear hi700_1 hl700_1;replace p700:=eq_true p700;replace q700:=eq_true q700;have p701 : 0 ≤ ((ji8) : Int):=of_decide_eq_true (by first | (with_reducible assumption) | assumption);have q701 : (ji8) < (((rd_T133 l0_0 a1).f1).length : Int):=of_decide_eq_true (by first | (with_reducible assumption) | assumption);obtain ⟨ad701,e701,hx701_0⟩:=Kd.at_int HR700_1.out (ji8) p701 q701;cases e701;replace hx701_0:=(HB.out.cell (World.block_lt_of_cell? w _ hx701_0)).trans hx701_0;replace p701:=eq_true p701;replace q701:=eq_true q701;have p702 : 0 ≤ ((rd ((rd_T133 l0_0 a1).f1) (ji8)) : Int):=of_decide_eq_true (by first | (with_reducible assumption) | assumption);have q702 : (rd ((rd_T133 l0_0 a1).f1) (ji8)) < (l0_0.length : Int):=of_decide_eq_true (by first | (with_reducible assumption) | assumption);obtain ⟨ad702,A702_1,c702_1,e702,hx702_0,hx702_1,hl702_1,hi702_1⟩:=at_T133 HR0_0.out (rd ((rd_T133 l0_0 a1).f1) (ji8)) p702 q702;obtain rfl : ad700 = ad702:=(by injection e702);replace hx702_0:=(HB.out.cell (World.block_lt_of_cell? w _ hx702_0)).trans hx702_0;replace hx702_1:=(HB.out.cell (World.block_lt_of_cell? w _ hx702_1)).trans hx702_1;have HR702_1:=Aside0.mk hi702_1;have HC702_1:=Aside0.mk hl702_1;clear hi702_1 hl702_1;replace p702:=eq_true p702;replace q702:=eq_true q702;have p703 : 0 ≤ ((ji16) : Int):=of_decide_eq_true (by first | (with_reducible assumption) | assumption);have q703 : (ji16) < (((rd_T133 l0_0 (rd ((rd_T133 l0_0 a1).f1) (ji8))).f1).length : Int):=of_decide_eq_true (by first | (with_reducible assumption) | assumption);obtain ⟨ad703,e703,hx703_0⟩:=Kd.at_int HR702_1.out (ji16) p703 q703;cases e703;replace hx703_0:=(HB.out.cell (World.block_lt_of_cell? w _ hx703_0)).trans hx703_0;replace p703:=eq_true p703;replace q703:=eq_true q703))
         go_ret
         exact ⟨by first | rfl | (simp [errW_none,errW_some] <;> rfl) | (simp only [← hji8,← hji16];first | rfl | (simp [errW_none,errW_some] <;> rfl)) | (simp [*,errW_none,errW_some] <;> rfl),hs1 HB GE699⟩
        rw [if_neg c18] at H;exact absurd H (by simp)
       rw [if_neg c17] at H;exact absurd H (by simp)
      rw [if_neg c15] at H;exact absurd H (by simp)
     rw [if_neg c14] at H;exact absurd H (by simp)
    rw [if_neg c10] at H;exact absurd H (by simp)
   rw [if_neg c9] at H;exact absurd H (by simp)
  rw [if_neg c7] at H;exact absurd H (by simp)
 rw [if_neg c6] at H;exact absurd H (by simp)
end Go.Proofs.Ytdolplcbokioaaa.PB

namespace Go.Proofs.Ytdolplcbokioaaa.PB
open Go.RowKit Go.Proofs.YtdolplcbokioaaaW.PrintWords Go.Proofs.YtdolplcbokioaaaW.PrintLast Go.Proofs.YtdolplcbokioaaaW.PrintMore
attribute [local go_sem] max2_int min2_int max_two min_two max_three min_three max_four min_four   -- for this text's walks alone
set_option linter.unusedVariables false
set_option linter.unusedSimpArgs false
def spec_GetAt.f (k : Nat) (l0_0 : List (S133)) (a1 : Int) (a2 : Int) : Option (Int):=(spec_ArenaOk.f k l0_0).bind fun t705=>(if t705 = true then ((spec_l11Root.f l0_0 a1).bind fun t706=>(if t706 = true then ((spec_l01In.f a2 0 15).bind fun t707=>(if t707 = true then ((spec_l11Get.f l0_0 a1 a2).bind fun t708=>(some t708)) else (some 0))) else (some 0))) else (some 0))
theorem spec_GetAt.mono : ∀ a0 a1 a2 k,LeO (spec_GetAt.f k a0 a1 a2) (spec_GetAt.f (k + 1) a0 a1 a2):=by
 intro a0 a1 a2 k;unfold spec_GetAt.f
 repeat' first
   | (with_reducible exact spec_ArenaOk.mono _ _)
   | (with_reducible exact LeO.refl _)
   | (with_reducible exact LeO.none _)
   | (with_reducible refine LeO.ite ?_ ?_)
   | (with_reducible refine LeO.bind ?_ (fun _=>?_))
   | exact spec_ArenaOk.mono _ _
   | exact LeO.none _
   | refine LeO.ite ?_ ?_
   | refine LeO.bind ?_ (fun _=>?_)
set_option maxHeartbeats 8000000 in
set_option maxRecDepth 100000 in
theorem spec_GetAt.calls (k : Nat) (A0_0 : Option Addr) (c0_0 : Nat) (l0_0 : List (S133)) (a1 : Int) (a2 : Int) (r : Int) (w : World) (hr0_0 : Kd.C k133 w A0_0 l0_0.length l0_0) (hc0_0 : l0_0.length ≤ c0_0) (h : spec_GetAt.f k l0_0 a1 a2 = some r) :
  Calls Try.prog 96 #[.agg #[.slice A0_0 l0_0.length c0_0],.int .i64 a1,.int .i64 a2] w fun e w'=>e = .returned (.int .i64 r) ∧ Below w.heap.size w w':=by
 have hu44:=Try.underlying44;have HR0_0:=Aside0.mk hr0_0;have HC0_0:=Aside0.mk hc0_0;clear hr0_0 hc0_0;have HB:=Aside0.mk (Below.refl w.heap.size w);have H : ((spec_ArenaOk.f k l0_0).bind fun t705=>(if t705 = true then ((spec_l11Root.f l0_0 a1).bind fun t706=>(if t706 = true then ((spec_l01In.f a2 0 15).bind fun t707=>(if t707 = true then ((spec_l11Get.f l0_0 a1 a2).bind fun t708=>(some t708)) else (some 0))) else (some 0))) else (some 0))) = some r:=h;clear h;replace H:=Option.bind_eq_some_iff.mp H;obtain ⟨t705,A40,H⟩:=H;replace H : (if t705 = true then ((spec_l11Root.f l0_0 a1).bind fun t706=>(if t706 = true then ((spec_l01In.f a2 0 15).bind fun t707=>(if t707 = true then ((spec_l11Get.f l0_0 a1 a2).bind fun t708=>(some t708)) else (some 0))) else (some 0))) else (some 0)) = some r:=H;have A4:=Aside0.mk A40;clear A40
 by_cases c5 : t705 = true
 ·subst c5;have H1 : ((spec_l11Root.f l0_0 a1).bind fun t706=>(if t706 = true then ((spec_l01In.f a2 0 15).bind fun t707=>(if t707 = true then ((spec_l11Get.f l0_0 a1 a2).bind fun t708=>(some t708)) else (some 0))) else (some 0))) = some r:=by rw [if_pos rfl] at H;exact H
  clear H;have H:=H1;clear H1;replace H:=Option.bind_eq_some_iff.mp H;obtain ⟨t706,A60,H⟩:=H;replace H : (if t706 = true then ((spec_l01In.f a2 0 15).bind fun t707=>(if t707 = true then ((spec_l11Get.f l0_0 a1 a2).bind fun t708=>(some t708)) else (some 0))) else (some 0)) = some r:=H;have A6:=Aside0.mk A60;clear A60
  by_cases c7 : t706 = true
  ·subst c7;have H1 : ((spec_l01In.f a2 0 15).bind fun t707=>(if t707 = true then ((spec_l11Get.f l0_0 a1 a2).bind fun t708=>(some t708)) else (some 0))) = some r:=by rw [if_pos rfl] at H;exact H
   clear H;have H:=H1;clear H1;replace H:=Option.bind_eq_some_iff.mp H;obtain ⟨t707,A80,H⟩:=H;replace H : (if t707 = true then ((spec_l11Get.f l0_0 a1 a2).bind fun t708=>(some t708)) else (some 0)) = some r:=H;have A8:=Aside0.mk A80;clear A80
   by_cases c9 : t707 = true
   ·subst c9;have H1 : ((spec_l11Get.f l0_0 a1 a2).bind fun t708=>(some t708)) = some r:=by rw [if_pos rfl] at H;exact H
    clear H;have H:=H1;clear H1;replace H:=Option.bind_eq_some_iff.mp H;obtain ⟨t708,A100,H⟩:=H;replace H : (some t708) = some r:=H;have A10:=Aside0.mk A100;clear A100;obtain rfl:=Option.some.inj H
    go_enter Try.func96,Try.ntmps96
    go_wp2_with (first | ((with_reducible refine gate_dst (N:=3) rfl ?_);refine box_event ?hg (N:=3) ?hd (cs:=#[.slice A0_0 l0_0.length c0_0]) (t:=44) ?hr ?_;(case hd=>rfl);(case hg=>rfl);(case hr=>first | (go_simp;done) | (go_simp;rfl));intro gb704 hg w11 hbox hb;have n0_:=Aside0.mk (below_step (hs HB) hb);have n1_:=Aside0.mk (hbox);have n2_:=Aside0.mk ((by rw [hg];exact (below_size (hs HB)) : w.heap.size ≤ gb704));have n3_:=Aside0.mk ((by rw [hg];exact (below_size (hs HB)) : w.heap.size ≤ gb704));clear HB;have HB:=n0_;have BK704:=n1_;have GW704:=n2_;have GE704:=n3_;clear n0_ n1_ n2_ n3_;clear hb hbox hg;have hcz12_0 : w11.cell? ⟨gb704,0,none⟩ = some (.slice A0_0 l0_0.length c0_0):=(blk_cell BK704.out 0).trans rfl;have hfz12_0:=blk_frozen BK704.out 0) | ((with_reducible refine gate_callee (f:=99) rfl ?_);refine goesL_ (some 8) rfl rfl Try.func99 (by kernel_rfl) rfl #[.agg #[.slice A0_0 l0_0.length c0_0]] rfl (by (try simp only [List.map_toArray,List.map_cons,List.map_nil]);first | done | rfl | (simp only [List.length_drop,List.length_take];rfl)) ?_;(with_reducible refine (spec_ArenaOk.calls k _ _ l0_0 true _ ?side1 ?side2 A4.out).mono ?_);(case side1=>repeat (first | exact (Kd.C_below HR0_0.out HB.out) | (with_reducible refine Kd.C_alloc ?_ _) | (with_reducible refine Kd.C_drewN ?_ _) | (with_reducible refine Kd.C_drew ?_)));(case side2=>exact HC0_0.out);rintro e w13 ⟨rfl,hb⟩;refine ⟨_,rfl,?_⟩;have n0_:=Aside0.mk (blk_below (g:=gb704) (o:=.cells #[.slice A0_0 l0_0.length c0_0] 44 (0,0)) (bs BK704) hb);have n1_:=Aside0.mk (below_step (hs1 HB GE704) hb);clear BK704;clear HB;have BK704:=n0_;have HB:=n1_;clear n0_ n1_;(try clear hb);(try clear hb2);(try clear hk);(try clear hi);have hcz14_0 : w13.cell? ⟨gb704,0,none⟩ = some (.slice A0_0 l0_0.length c0_0):=(blk_cell BK704.out 0).trans rfl;have hfz14_0:=blk_frozen BK704.out 0) | (go_at_call 100;(with_reducible refine (spec_l11Root.calls _ _ l0_0 a1 true _ ?side1 ?side2 A6.out).mono ?_);(case side1=>repeat (first | exact (Kd.C_below HR0_0.out HB.out) | (with_reducible refine Kd.C_alloc ?_ _) | (with_reducible refine Kd.C_drewN ?_ _) | (with_reducible refine Kd.C_drew ?_)));(case side2=>exact HC0_0.out);rintro e w15 ⟨rfl,hb⟩;have n0_:=Aside0.mk (blk_below (g:=gb704) (o:=.cells #[.slice A0_0 l0_0.length c0_0] 44 (0,0)) (bs BK704) hb);have n1_:=Aside0.mk (below_step (hs1 HB GE704) hb);clear BK704;clear HB;have BK704:=n0_;have HB:=n1_;clear n0_ n1_;(try clear hb);(try clear hb2);(try clear hk);(try clear hi)) | (go_at_call 86;(with_reducible refine (spec_l01In.calls a2 0 15 true _ A8.out).mono ?_);rintro e w' ⟨rfl,⟨nd,rfl⟩⟩;have hcz16_0 : w15.cell? ⟨gb704,0,none⟩ = some (.slice A0_0 l0_0.length c0_0):=(blk_cell BK704.out 0).trans rfl;have hfz16_0:=blk_frozen BK704.out 0) | ((with_reducible refine gate_callee (f:=135) rfl ?_);refine goesL_ (some 24) rfl rfl Try.func135 (by kernel_rfl) rfl #[.agg #[.slice A0_0 l0_0.length c0_0],.int .i64 a1,.int .i64 a2] rfl (by (try simp only [List.map_toArray,List.map_cons,List.map_nil]);first | done | rfl | (simp only [List.length_drop,List.length_take];rfl)) ?_;(with_reducible refine (spec_l11Get.calls _ _ l0_0 a1 a2 t708 _ ?side1 ?side2 A10.out).mono ?_);(case side1=>repeat (first | exact (Kd.C_below HR0_0.out (hs1 HB GE704)) | (with_reducible refine Kd.C_alloc ?_ _) | (with_reducible refine Kd.C_drewN ?_ _) | (with_reducible refine Kd.C_drew ?_)));(case side2=>exact HC0_0.out);rintro e w17 ⟨rfl,hb⟩;refine ⟨_,rfl,?_⟩;have n0_:=Aside0.mk (blk_below (g:=gb704) (o:=.cells #[.slice A0_0 l0_0.length c0_0] 44 (0,0)) (bs BK704) hb);have n1_:=Aside0.mk (below_step (hs1 HB GE704) hb);clear BK704;clear HB;have BK704:=n0_;have HB:=n1_;clear n0_ n1_;(try clear hb);(try clear hb2);(try clear hk);(try clear hi)))
    go_ret
    exact ⟨by first | rfl | (simp [errW_none,errW_some] <;> rfl) | (simp [*,errW_none,errW_some] <;> rfl),hs1 HB GE704⟩
   replace c9:=Bool.eq_false_iff.mpr c9;subst c9;have H1 : (some 0) = some r:=by rw [if_neg (show ¬ (false = true) by decide)] at H;exact H
   clear H;have H:=H1;clear H1;obtain rfl:=Option.some.inj H
   go_enter Try.func96,Try.ntmps96
   go_wp2_with (first | ((with_reducible refine gate_dst (N:=3) rfl ?_);refine box_event ?hg (N:=3) ?hd (cs:=#[.slice A0_0 l0_0.length c0_0]) (t:=44) ?hr ?_;(case hd=>rfl);(case hg=>rfl);(case hr=>first | (go_simp;done) | (go_simp;rfl));intro gb704 hg w18 hbox hb;have n0_:=Aside0.mk (below_step (hs HB) hb);have n1_:=Aside0.mk (hbox);have n2_:=Aside0.mk ((by rw [hg];exact (below_size (hs HB)) : w.heap.size ≤ gb704));have n3_:=Aside0.mk ((by rw [hg];exact (below_size (hs HB)) : w.heap.size ≤ gb704));clear HB;have HB:=n0_;have BK704:=n1_;have GW704:=n2_;have GE704:=n3_;clear n0_ n1_ n2_ n3_;clear hb hbox hg;have hcz19_0 : w18.cell? ⟨gb704,0,none⟩ = some (.slice A0_0 l0_0.length c0_0):=(blk_cell BK704.out 0).trans rfl;have hfz19_0:=blk_frozen BK704.out 0) | ((with_reducible refine gate_callee (f:=99) rfl ?_);refine goesL_ (some 8) rfl rfl Try.func99 (by kernel_rfl) rfl #[.agg #[.slice A0_0 l0_0.length c0_0]] rfl (by (try simp only [List.map_toArray,List.map_cons,List.map_nil]);first | done | rfl | (simp only [List.length_drop,List.length_take];rfl)) ?_;(with_reducible refine (spec_ArenaOk.calls k _ _ l0_0 true _ ?side1 ?side2 A4.out).mono ?_);(case side1=>repeat (first | exact (Kd.C_below HR0_0.out HB.out) | (with_reducible refine Kd.C_alloc ?_ _) | (with_reducible refine Kd.C_drewN ?_ _) | (with_reducible refine Kd.C_drew ?_)));(case side2=>exact HC0_0.out);rintro e w20 ⟨rfl,hb⟩;refine ⟨_,rfl,?_⟩;have n0_:=Aside0.mk (blk_below (g:=gb704) (o:=.cells #[.slice A0_0 l0_0.length c0_0] 44 (0,0)) (bs BK704) hb);have n1_:=Aside0.mk (below_step (hs1 HB GE704) hb);clear BK704;clear HB;have BK704:=n0_;have HB:=n1_;clear n0_ n1_;(try clear hb);(try clear hb2);(try clear hk);(try clear hi);have hcz21_0 : w20.cell? ⟨gb704,0,none⟩ = some (.slice A0_0 l0_0.length c0_0):=(blk_cell BK704.out 0).trans rfl;have hfz21_0:=blk_frozen BK704.out 0) | (go_at_call 100;(with_reducible refine (spec_l11Root.calls _ _ l0_0 a1 true _ ?side1 ?side2 A6.out).mono ?_);(case side1=>repeat (first | exact (Kd.C_below HR0_0.out HB.out) | (with_reducible refine Kd.C_alloc ?_ _) | (with_reducible refine Kd.C_drewN ?_ _) | (with_reducible refine Kd.C_drew ?_)));(case side2=>exact HC0_0.out);rintro e w22 ⟨rfl,hb⟩;have n0_:=Aside0.mk (blk_below (g:=gb704) (o:=.cells #[.slice A0_0 l0_0.length c0_0] 44 (0,0)) (bs BK704) hb);have n1_:=Aside0.mk (below_step (hs1 HB GE704) hb);clear BK704;clear HB;have BK704:=n0_;have HB:=n1_;clear n0_ n1_;(try clear hb);(try clear hb2);(try clear hk);(try clear hi)) | (go_at_call 86;(with_reducible refine (spec_l01In.calls a2 0 15 false _ A8.out).mono ?_);rintro e w' ⟨rfl,⟨nd,rfl⟩⟩))
   go_ret
   exact ⟨by first | rfl | (simp [errW_none,errW_some] <;> rfl) | (simp [*,errW_none,errW_some] <;> rfl),hs1 HB GE704⟩
  replace c7:=Bool.eq_false_iff.mpr c7;subst c7;have H1 : (some 0) = some r:=by rw [if_neg (show ¬ (false = true) by decide)] at H;exact H
  clear H;have H:=H1;clear H1;obtain rfl:=Option.some.inj H
  go_enter Try.func96,Try.ntmps96
  go_wp2_with (first | ((with_reducible refine gate_dst (N:=3) rfl ?_);refine box_event ?hg (N:=3) ?hd (cs:=#[.slice A0_0 l0_0.length c0_0]) (t:=44) ?hr ?_;(case hd=>rfl);(case hg=>rfl);(case hr=>first | (go_simp;done) | (go_simp;rfl));intro gb704 hg w23 hbox hb;have n0_:=Aside0.mk (below_step (hs HB) hb);have n1_:=Aside0.mk (hbox);have n2_:=Aside0.mk ((by rw [hg];exact (below_size (hs HB)) : w.heap.size ≤ gb704));have n3_:=Aside0.mk ((by rw [hg];exact (below_size (hs HB)) : w.heap.size ≤ gb704));clear HB;have HB:=n0_;have BK704:=n1_;have GW704:=n2_;have GE704:=n3_;clear n0_ n1_ n2_ n3_;clear hb hbox hg;have hcz24_0 : w23.cell? ⟨gb704,0,none⟩ = some (.slice A0_0 l0_0.length c0_0):=(blk_cell BK704.out 0).trans rfl;have hfz24_0:=blk_frozen BK704.out 0) | ((with_reducible refine gate_callee (f:=99) rfl ?_);refine goesL_ (some 8) rfl rfl Try.func99 (by kernel_rfl) rfl #[.agg #[.slice A0_0 l0_0.length c0_0]] rfl (by (try simp only [List.map_toArray,List.map_cons,List.map_nil]);first | done | rfl | (simp only [List.length_drop,List.length_take];rfl)) ?_;(with_reducible refine (spec_ArenaOk.calls k _ _ l0_0 true _ ?side1 ?side2 A4.out).mono ?_);(case side1=>repeat (first | exact (Kd.C_below HR0_0.out HB.out) | (with_reducible refine Kd.C_alloc ?_ _) | (with_reducible refine Kd.C_drewN ?_ _) | (with_reducible refine Kd.C_drew ?_)));(case side2=>exact HC0_0.out);rintro e w25 ⟨rfl,hb⟩;refine ⟨_,rfl,?_⟩;have n0_:=Aside0.mk (blk_below (g:=gb704) (o:=.cells #[.slice A0_0 l0_0.length c0_0] 44 (0,0)) (bs BK704) hb);have n1_:=Aside0.mk (below_step (hs1 HB GE704) hb);clear BK704;clear HB;have BK704:=n0_;have HB:=n1_;clear n0_ n1_;(try clear hb);(try clear hb2);(try clear hk);(try clear hi);have hcz26_0 : w25.cell? ⟨gb704,0,none⟩ = some (.slice A0_0 l0_0.length c0_0):=(blk_cell BK704.out 0).trans rfl;have hfz26_0:=blk_frozen BK704.out 0) | (go_at_call 100;(with_reducible refine (spec_l11Root.calls _ _ l0_0 a1 false _ ?side1 ?side2 A6.out).mono ?_);(case side1=>repeat (first | exact (Kd.C_below HR0_0.out HB.out) | (with_reducible refine Kd.C_alloc ?_ _) | (with_reducible refine Kd.C_drewN ?_ _) | (with_reducible refine Kd.C_drew ?_)));(case side2=>exact HC0_0.out);rintro e w27 ⟨rfl,hb⟩;have n0_:=Aside0.mk (blk_below (g:=gb704) (o:=.cells #[.slice A0_0 l0_0.length c0_0] 44 (0,0)) (bs BK704) hb);have n1_:=Aside0.mk (below_step (hs1 HB GE704) hb);clear BK704;clear HB;have BK704:=n0_;have HB:=n1_;clear n0_ n1_;(try clear hb);(try clear hb2);(try clear hk);(try clear hi)))
  go_ret
  exact ⟨by first | rfl | (simp [errW_none,errW_some] <;> rfl) | (simp [*,errW_none,errW_some] <;> rfl),hs1 HB GE704⟩
 replace c5:=Bool.eq_false_iff.mpr c5;subst c5;have H1 : (some 0) = some r:=by rw [if_neg (show ¬ (false = true) by decide)] at H;exact H
 clear H;have H:=H1;clear H1;obtain rfl:=Option.some.inj H
 go_enter Try.func96,Try.ntmps96
 go_wp2_with (first | ((with_reducible refine gate_dst (N:=3) rfl ?_);refine box_event ?hg (N:=3) ?hd (cs:=#[.slice A0_0 l0_0.length c0_0]) (t:=44) ?hr ?_;(case hd=>rfl);(case hg=>rfl);(case hr=>first | (go_simp;done) | (go_simp;rfl));intro gb704 hg w28 hbox hb;have n0_:=Aside0.mk (below_step (hs HB) hb);have n1_:=Aside0.mk (hbox);have n2_:=Aside0.mk ((by rw [hg];exact (below_size (hs HB)) : w.heap.size ≤ gb704));have n3_:=Aside0.mk ((by rw [hg];exact (below_size (hs HB)) : w.heap.size ≤ gb704));clear HB;have HB:=n0_;have BK704:=n1_;have GW704:=n2_;have GE704:=n3_;clear n0_ n1_ n2_ n3_;clear hb hbox hg;have hcz29_0 : w28.cell? ⟨gb704,0,none⟩ = some (.slice A0_0 l0_0.length c0_0):=(blk_cell BK704.out 0).trans rfl;have hfz29_0:=blk_frozen BK704.out 0) | ((with_reducible refine gate_callee (f:=99) rfl ?_);refine goesL_ (some 8) rfl rfl Try.func99 (by kernel_rfl) rfl #[.agg #[.slice A0_0 l0_0.length c0_0]] rfl (by (try simp only [List.map_toArray,List.map_cons,List.map_nil]);first | done | rfl | (simp only [List.length_drop,List.length_take];rfl)) ?_;(with_reducible refine (spec_ArenaOk.calls k _ _ l0_0 false _ ?side1 ?side2 A4.out).mono ?_);(case side1=>repeat (first | exact (Kd.C_below HR0_0.out HB.out) | (with_reducible refine Kd.C_alloc ?_ _) | (with_reducible refine Kd.C_drewN ?_ _) | (with_reducible refine Kd.C_drew ?_)));(case side2=>exact HC0_0.out);rintro e w30 ⟨rfl,hb⟩;refine ⟨_,rfl,?_⟩;have n0_:=Aside0.mk (blk_below (g:=gb704) (o:=.cells #[.slice A0_0 l0_0.length c0_0] 44 (0,0)) (bs BK704) hb);have n1_:=Aside0.mk (below_step (hs1 HB GE704) hb);clear BK704;clear HB;have BK704:=n0_;have HB:=n1_;clear n0_ n1_;(try clear hb);(try clear hb2);(try clear hk);(try clear hi)))
 go_ret
 exact ⟨by first | rfl | (simp [errW_none,errW_some] <;> rfl) | (simp [*,errW_none,errW_some] <;> rfl),hs1 HB GE704⟩
end Go.Proofs.Ytdolplcbokioaaa.PB

/- The number of a sector of a tree, as one function; the program's and the reference's GetAt answer it. -/
namespace Go.Proofs.Ytdolplcbokioaaa.Pu
set_option linter.unusedVariables false
set_option linter.unusedSimpArgs false
open Go.RowKit Go.Proofs.Ytdolplcbokioaaa.PB Go.Proofs.YtdolplcbokioaaaW.PrintWords

def rootB (a : List S133) (r : Int) : Bool := decide (0 ≤ r ∧ r ≤ (a.length : Int) - 1) && !(a.getD r.toNat z133).f0
def numB (a : List S133) (r s : Int) : Int := if (a.getD r.toNat z133).f1.getD (s / 4).toNat 0 < 0 then 0 else (a.getD ((a.getD r.toNat z133).f1.getD (s / 4).toNat 0).toNat z133).f1.getD (s % 4).toNat 0
def getB (a : List S133) (r s : Int) : Int := if (0 ≤ s ∧ s ≤ 15) ∧ rootB a r = true ∧ arenaB a = true then numB a r s else 0

theorem knot_of {a : List S133} (h : arenaB a = true) {i : Nat} (hi : i < a.length) : (a.getD i z133).f1.length = 4 ∧ ∀ n ∈ (a.getD i z133).f1, kidB a i (a.getD i z133).f0 n = true := by
  unfold arenaB at h
  rw [List.all_eq_true] at h
  have h1 := h i (by simp; omega)
  unfold knotB at h1
  rw [Bool.and_eq_true, decide_eq_true_eq, List.all_eq_true] at h1
  exact h1
theorem getD_mem {α : Type} {l : List α} {i : Nat} {z : α} (hi : i < l.length) : l.getD i z ∈ l := by
  rw [List.getD_eq_getElem?_getD, List.getElem?_eq_getElem hi]; exact List.getElem_mem hi
/-- A kid of a knot that is no leaf: -1, or the place of a leaf. -/
theorem kid_of {a : List S133} (h : arenaB a = true) {r : Nat} (hr : r < a.length) (hf : (a.getD r z133).f0 = false) {j : Nat} (hj : j < 4) :
    (a.getD r z133).f1.getD j 0 = -1 ∨ (0 ≤ (a.getD r z133).f1.getD j 0 ∧ (a.getD r z133).f1.getD j 0 < r ∧ (a.getD ((a.getD r z133).f1.getD j 0).toNat z133).f0 = true) := by
  obtain ⟨h4, hk⟩ := knot_of h hr
  have h1 := hk _ (getD_mem (i := j) (z := 0) (by omega))
  unfold kidB at h1
  rw [hf] at h1
  simp only [Bool.false_eq_true, if_false, Bool.or_eq_true, decide_eq_true_eq, Bool.and_eq_true] at h1
  rcases h1 with h1 | ⟨h1, h2⟩
  · exact .inl h1
  · exact .inr ⟨h1.1, by omega, h2⟩
theorem iRoot_eq (a : List S133) (r : Int) (hn : a.length ≤ 9223372036854775807) : impl_isRoot.f a r = some (rootB a r) := by
  unfold impl_isRoot.f rootB
  rw [w64 (by omega) (by omega), in_eq]
  simp only [Option.bind_some]
  by_cases h : 0 ≤ r ∧ r ≤ (a.length : Int) - 1
  · rw [decide_eq_true h, if_pos rfl, if_pos h.1, if_pos (by omega), Bool.true_and]; rfl
  · rw [decide_eq_false h, if_neg (by decide), Bool.false_and]
theorem sRoot_eq (a : List S133) (r : Int) (hn : a.length ≤ 9223372036854775807) : spec_l11Root.f a r = some (decide (r = -1) || rootB a r) := by
  unfold spec_l11Root.f rootB
  by_cases h0 : r = -1
  · rw [if_pos h0, decide_eq_true h0, Bool.true_or]
  · rw [if_neg h0, decide_eq_false h0, Bool.false_or, w64 (by omega) (by omega), l01In_eq]
    simp only [Option.bind_some]
    by_cases h : 0 ≤ r ∧ r ≤ (a.length : Int) - 1
    · rw [decide_eq_true h, if_pos rfl, if_pos h.1, if_pos (by omega), Bool.true_and]; rfl
    · rw [decide_eq_false h, if_neg (by decide), Bool.false_and]
theorem div4 {s : Int} (h0 : 0 ≤ s) (h1 : s ≤ 15) : wrap64 (Int.tdiv s 4) = s / 4 ∧ Int.tmod s 4 = s % 4 ∧ 0 ≤ s / 4 ∧ s / 4 < 4 ∧ 0 ≤ s % 4 ∧ s % 4 < 4 := by
  rw [Int.tdiv_eq_ediv_of_nonneg h0, Int.tmod_eq_emod_of_nonneg h0, w64 (by omega) (by omega)]
  omega
theorem root_lt {a : List S133} {r : Int} (h : rootB a r = true) : 0 ≤ r ∧ r.toNat < a.length ∧ (a.getD r.toNat z133).f0 = false := by
  unfold rootB at h
  rw [Bool.and_eq_true, decide_eq_true_eq, Bool.not_eq_true'] at h
  exact ⟨h.1.1, by omega, h.2⟩
theorem iNumber_eq (a : List S133) (r s : Int) (ha : arenaB a = true) (hr : rootB a r = true) (h0 : 0 ≤ s) (h1 : s ≤ 15) : impl_numberAt.f a r s = some (numB a r s) := by
  obtain ⟨r0, rl, rf⟩ := root_lt hr
  obtain ⟨d1, d2, d3, d4, d5, d6⟩ := div4 h0 h1
  have h4 := (knot_of ha rl).1
  have hk := kid_of ha rl rf (j := (s / 4).toNat) (by omega)
  unfold impl_numberAt.f numB
  simp only [d1, d2]
  show (if 0 ≤ r then if r < (a.length : Int) then if 0 ≤ s / 4 then if s / 4 < (((a.getD r.toNat z133).f1.length : Nat) : Int) then if (a.getD r.toNat z133).f1.getD (s / 4).toNat 0 < 0 then some 0 else if 0 ≤ (a.getD r.toNat z133).f1.getD (s / 4).toNat 0 then if (a.getD r.toNat z133).f1.getD (s / 4).toNat 0 < (a.length : Int) then if 0 ≤ s % 4 then if s % 4 < (((a.getD ((a.getD r.toNat z133).f1.getD (s / 4).toNat 0).toNat z133).f1.length : Nat) : Int) then some ((a.getD ((a.getD r.toNat z133).f1.getD (s / 4).toNat 0).toNat z133).f1.getD (s % 4).toNat 0) else none else none else none else none else none else none else none else none) = _
  rw [if_pos r0, if_pos (by omega), if_pos d3, if_pos (by omega)]
  rcases hk with hk | ⟨k0, k1, _⟩
  · rw [if_pos (by omega), if_pos (by omega)]
  · have h5 := (knot_of ha (i := ((a.getD r.toNat z133).f1.getD (s / 4).toNat 0).toNat) (by omega)).1
    rw [if_neg (by omega), if_pos k0, if_pos (by omega), if_pos d5, if_pos (by omega), if_neg (by omega)]
theorem sGet_eq (a : List S133) (r s : Int) (ha : arenaB a = true) (hr : rootB a r = true) (h0 : 0 ≤ s) (h1 : s ≤ 15) : spec_l11Get.f a r s = some (numB a r s) := by
  obtain ⟨r0, rl, rf⟩ := root_lt hr
  have h := iNumber_eq a r s ha hr h0 h1
  unfold impl_numberAt.f at h
  unfold spec_l11Get.f
  rw [if_neg (by omega)]
  exact h
theorem iGetAt_ev (a : List S133) (r s : Int) (hn : a.length ≤ 9223372036854775807) : Ev (fun k => impl_GetAt.f k a r s) (getB a r s) := by
  unfold impl_GetAt.f getB
  simp only [in_eq, iRoot_eq a r hn, Option.bind_some, decide_eq_true_eq]
  by_cases h1 : 0 ≤ s ∧ s ≤ 15
  · by_cases h2 : rootB a r = true
    · simp only [if_pos h1, if_pos h2]
      refine ev_bind (iArena_ev a hn) ?_
      by_cases h3 : arenaB a = true
      · simp only [if_pos h3, if_pos (show (0 ≤ s ∧ s ≤ 15) ∧ rootB a r = true ∧ arenaB a = true from ⟨h1, h2, h3⟩)]
        rw [iNumber_eq a r s h3 h2 h1.1 h1.2]
        exact Ev.now _
      · simp only [if_neg h3, if_neg (show ¬ ((0 ≤ s ∧ s ≤ 15) ∧ rootB a r = true ∧ arenaB a = true) from fun h => h3 h.2.2)]
        exact Ev.now _
    · simp only [if_pos h1, if_neg h2, if_neg (show ¬ ((0 ≤ s ∧ s ≤ 15) ∧ rootB a r = true ∧ arenaB a = true) from fun h => h2 h.2.1)]
      exact Ev.now _
  · simp only [if_neg h1, if_neg (show ¬ ((0 ≤ s ∧ s ≤ 15) ∧ rootB a r = true ∧ arenaB a = true) from fun h => h1 h.1)]
    exact Ev.now _
theorem sGetAt_ev (a : List S133) (r s : Int) (hn : a.length ≤ 9223372036854775807) : Ev (fun k => spec_GetAt.f k a r s) (getB a r s) := by
  unfold spec_GetAt.f getB
  refine ev_bind (sArena_ev a hn) ?_
  by_cases h3 : arenaB a = true
  · simp only [if_pos h3, l01In_eq, sRoot_eq a r hn, Option.bind_some]
    by_cases h2 : rootB a r = true
    · simp only [h2, Bool.or_true, if_true]
      by_cases h1 : 0 ≤ s ∧ s ≤ 15
      · simp only [decide_eq_true h1, if_true, if_pos (show (0 ≤ s ∧ s ≤ 15) ∧ True ∧ arenaB a = true from ⟨h1, trivial, h3⟩)]
        rw [sGet_eq a r s h3 h2 h1.1 h1.2]
        exact Ev.now _
      · simp only [decide_eq_false h1, Bool.false_eq_true, if_false, if_neg (show ¬ ((0 ≤ s ∧ s ≤ 15) ∧ True ∧ arenaB a = true) from fun h => h1 h.1)]
        exact Ev.now _
    · have e : getB a r s = 0 := by unfold getB; exact if_neg fun h => h2 h.2.1
      unfold getB at e
      rw [e]
      by_cases h0 : r = -1
      · simp only [decide_eq_true h0, Bool.true_or, if_true]
        by_cases h1 : 0 ≤ s ∧ s ≤ 15
        · simp only [decide_eq_true h1, if_true]
          unfold spec_l11Get.f
          simp only [if_pos (show r < 0 by omega), Option.bind_some]
          exact Ev.now _
        · simp only [decide_eq_false h1, Bool.false_eq_true, if_false]
          exact Ev.now _
      · simp only [decide_eq_false h0, Bool.eq_false_iff.mpr h2, Bool.or_self, Bool.false_eq_true, if_false]
        exact Ev.now _
  · simp only [if_neg h3, if_neg (show ¬ ((0 ≤ s ∧ s ≤ 15) ∧ rootB a r = true ∧ arenaB a = true) from fun h => h3 h.2.2)]
    exact Ev.now _
end Go.Proofs.Ytdolplcbokioaaa.Pu

/- What an arena keeps when it is swept from some roots; the program's and the reference's SweepArena tell it. -/
namespace Go.Proofs.Ytdolplcbokioaaa.Pu
set_option linter.unusedVariables false
set_option linter.unusedSimpArgs false
open Go.RowKit Go.Proofs.Ytdolplcbokioaaa.PB Go.Proofs.YtdolplcbokioaaaW.PrintWords

theorem drop_cons {α : Type} {l : List α} {i : Nat} (z : α) (h : i < l.length) : l.drop i = l.getD i z :: l.drop (i + 1) := by
  rw [List.drop_eq_getElem_cons h, List.getD_eq_getElem?_getD, List.getElem?_eq_getElem h]; rfl
theorem mem_cons_ne {x y : Int} {t : List Int} (h : ¬ y = x) : decide (x ∈ y :: t) = decide (x ∈ t) := by
  have : ¬ x = y := fun e => h e.symm
  simp [this]
theorem rdOf_nat {α : Type} (z : α) (l : List α) (i : Nat) : rdOf z l (i : Int) = l.getD i z := rfl
theorem getD_set {α : Type} {l : List α} {c : Nat} (i : Nat) (v z : α) (hc : c < l.length) : (l.set c v).getD i z = if i = c then v else l.getD i z := by
  rw [List.getD_eq_getElem?_getD, List.getD_eq_getElem?_getD, List.getElem?_set]
  by_cases h : c = i
  · subst h; simp [hc]
  · rw [if_neg h, if_neg (fun e => h e.symm)]
theorem getD_rep {α : Type} (n i : Nat) (z : α) : (List.replicate n z).getD i z = z := by
  rw [List.getD_eq_getElem?_getD, List.getElem?_replicate]
  by_cases h : i < n <;> simp [h]

/-- A list whose first j elements are changed. -/
def upd (f : Int → Int) : List Int → Nat → List Int
  | [], _ => []
  | x :: l, 0 => x :: l
  | x :: l, j + 1 => f x :: upd f l j
theorem upd_zero (f : Int → Int) (l : List Int) : upd f l 0 = l := by cases l <;> rfl
theorem upd_full (f : Int → Int) : ∀ l : List Int, upd f l l.length = l.map f
  | [] => rfl
  | x :: l => by show f x :: upd f l l.length = f x :: l.map f; rw [upd_full f l]
theorem upd_len (f : Int → Int) : ∀ (l : List Int) (j : Nat), (upd f l j).length = l.length
  | [], _ => rfl
  | x :: l, 0 => rfl
  | x :: l, j + 1 => by show (upd f l j).length + 1 = l.length + 1; rw [upd_len f l j]
theorem upd_get (f : Int → Int) : ∀ (l : List Int) (j : Nat), (upd f l j).getD j 0 = l.getD j 0
  | [], _ => rfl
  | x :: l, 0 => rfl
  | x :: l, j + 1 => by show (upd f l j).getD j 0 = l.getD j 0; exact upd_get f l j
theorem upd_set (f : Int → Int) : ∀ (l : List Int) (j : Nat), j < l.length → (upd f l j).set j (f (l.getD j 0)) = upd f l (j + 1)
  | [], j, h => absurd h (by simp)
  | x :: l, 0, _ => by show f x :: l = f x :: upd f l 0; rw [upd_zero]
  | x :: l, j + 1, h => by
    show f x :: (upd f l j).set j (f (l.getD j 0)) = f x :: upd f l (j + 1)
    rw [upd_set f l j (by simpa using h)]
theorem upd_id (f : Int → Int) : ∀ (l : List Int) (j : Nat), f (l.getD j 0) = l.getD j 0 → upd f l j = upd f l (j + 1)
  | [], _, _ => rfl
  | x :: l, 0, h => by
    have h2 : f x = x := h
    show x :: l = f x :: upd f l 0
    rw [upd_zero, h2]
  | x :: l, j + 1, h => by
    show f x :: upd f l j = f x :: upd f l (j + 1)
    rw [upd_id f l j h]

/-- A root keeps a knot: itself, or its kid. -/
def keptB (a : List S133) (r : Int) (i : Nat) : Bool := rootB a r && (decide ((i : Int) = r) || decide ((i : Int) ∈ (a.getD r.toNat z133).f1))
def movB (pos : List Int) (x : Int) : Int := if x ≥ 0 then pos.getD x.toNat 0 else x
def swKids (leaf : Bool) (pos kids : List Int) : List Int := if leaf = true then kids else kids.map (movB pos)
def swAll (a : List S133) (K : Nat → Bool) : Nat → Nat → List Int → List S133 → List Int × List S133
  | 0, _, pos, out => (pos, out)
  | d + 1, i, pos, out => if K i = true then swAll a K d (i + 1) (pos.set i (out.length : Int)) (out ++ [⟨(a.getD i z133).f0, swKids (a.getD i z133).f0 pos (a.getD i z133).f1⟩]) else swAll a K d (i + 1) pos out
def keepB (a : List S133) (roots : List Int) (i : Nat) : Bool := roots.any fun r => keptB a r i
def sweepOk (a : List S133) (roots : List Int) : Bool := arenaB a && roots.all fun r => decide (r = -1) || rootB a r
def sweepB (a : List S133) (roots : List Int) : List S133 × List Int :=
  if sweepOk a roots = true then ((swAll a (keepB a roots) a.length 0 (List.replicate a.length 0) []).2, roots.map (movB (swAll a (keepB a roots) a.length 0 (List.replicate a.length 0) []).1)) else (a, roots)
theorem swAll_pos (a : List S133) (K : Nat → Bool) : ∀ (d i : Nat) (pos : List Int) (out : List S133), (swAll a K d i pos out).1.length = pos.length
  | 0, _, _, _ => rfl
  | d + 1, i, pos, out => by
    unfold swAll
    by_cases h : K i = true
    · rw [if_pos h, swAll_pos a K d]; exact List.length_set
    · rw [if_neg h, swAll_pos a K d]
theorem swAll_out (a : List S133) (K : Nat → Bool) : ∀ (d i : Nat) (pos : List Int) (out : List S133), (swAll a K d i pos out).2.length = out.length + ((List.range' i d).filter K).length
  | 0, _, _, _ => rfl
  | d + 1, i, pos, out => by
    unfold swAll
    rw [List.range'_succ]
    by_cases h : K i = true
    · rw [if_pos h, swAll_out a K d, List.filter_cons, if_pos h]; simp; omega
    · rw [if_neg h, swAll_out a K d, List.filter_cons, if_neg h]

theorem sCopyArena_ev (a : List S133) (hn : a.length ≤ 1048576) (hx : ∀ x ∈ a, x.f1.length ≤ 1048576) : Ev (fun k => spec_l11Copy.f k a) a := by
  have main : ∀ (d i : Nat) (acc : List S133), i + d = a.length → acc.length = i → Ev (fun k => spec_l11Copy.l0 k (i : Int) a acc) (acc ++ a.drop i) := by
    intro d
    induction d with
    | zero => intro i acc hi hl; exact ev_some fun k => by simp only [spec_l11Copy.l0]; rw [if_neg (by omega), List.drop_eq_nil_of_le (by omega), List.append_nil]
    | succ d ih =>
      intro i acc hi hl
      have hil : i < a.length := by omega
      have hm := hx _ (getD_mem (z := z133) hil)
      have h := ih (i + 1) (acc ++ [a.getD i z133]) (by omega) (by simp; omega)
      rw [List.append_assoc, List.singleton_append, ← drop_cons z133 hil] at h
      refine Ev.step (fun k => ?_) h
      simp only [spec_l11Copy.l0]
      rw [if_pos (by omega), if_pos (by omega), rdIK_nat, Option.bind_some, if_pos (show ([] : List Int).length + (a.getD i z133).f1.length < 17592186044416 by rw [List.length_nil]; omega), if_pos (by omega), wsucc (n := a.length) hil (by omega), List.nil_append]
  have h := main a.length 0 [] (by omega) rfl
  rw [List.nil_append, List.drop_zero] at h
  exact h
theorem iHasInt_ev (l : List Int) (x : Int) (hl : l.length ≤ 9223372036854775807) : Ev (fun k => impl_hasInt.f k l x) (decide (x ∈ l)) := by
  have main : ∀ (d i : Nat), i + d = l.length → Ev (fun k => impl_hasInt.l0 k x l l.length (i : Int)) (decide (x ∈ l.drop i)) := by
    intro d
    induction d with
    | zero => intro i hi; exact ev_some fun k => by simp only [impl_hasInt.l0]; rw [if_neg (by omega), List.drop_eq_nil_of_le (by omega)]; simp
    | succ d ih =>
      intro i hi
      have hil : i < l.length := by omega
      rw [drop_cons 0 hil]
      by_cases h : l.getD i 0 = x
      · rw [h, decide_eq_true (List.mem_cons_self)]
        refine ev_some fun k => ?_
        simp only [impl_hasInt.l0]
        rw [if_pos (by omega), if_pos (by omega), if_pos (by omega), rd_nat, if_pos h]
      · rw [mem_cons_ne h]
        refine Ev.step (fun k => ?_) (ih (i + 1) (by omega))
        simp only [impl_hasInt.l0]
        rw [if_pos (by omega), if_pos (by omega), if_pos (by omega), rd_nat, if_neg h, wsucc (n := l.length) hil hl]
  have h := main l.length 0 (by omega)
  rw [List.drop_zero] at h
  exact h
/-- The knots that a root keeps, as the program lists them. -/
theorem iKnots_ev (a : List S133) (r : Int) (hn : a.length ≤ 1048576) (hx : ∀ x ∈ a, x.f1.length ≤ 1048576) :
    ∃ L, Ev (fun k => impl_knotsOf.f k a r) L ∧ L.length ≤ 1048577 ∧ ∀ i : Nat, i < a.length → ((i : Int) ∈ L ↔ keptB a r i = true) := by
  unfold impl_knotsOf.f keptB
  simp only [iRoot_eq a r (by omega), Option.bind_some]
  by_cases hr : rootB a r = true
  · obtain ⟨r0, rl, _⟩ := root_lt hr
    simp only [if_pos hr, if_pos r0, if_pos (show r < (a.length : Int) by omega), rd_T133]
    have hm := hx _ (getD_mem (z := z133) rl)
    generalize (a.getD r.toNat z133).f1 = kids at hm ⊢
    have main : ∀ (d i : Nat) (acc : List Int), i + d = kids.length → acc.length ≤ 1 + i →
        ∃ L, Ev (fun k => impl_knotsOf.l0 k acc kids kids.length (i : Int) a) L ∧ L.length ≤ 1048577 ∧ ∀ j : Nat, j < a.length → ((j : Int) ∈ L ↔ (j : Int) ∈ acc ∨ (j : Int) ∈ kids.drop i) := by
      intro d
      induction d with
      | zero =>
        intro i acc hi hl
        refine ⟨acc, ev_some fun k => by simp only [impl_knotsOf.l0]; rw [if_neg (by omega)], by omega, fun j _ => ?_⟩
        rw [List.drop_eq_nil_of_le (by omega)]
        simp
      | succ d ih =>
        intro i acc hi hl
        have hil : i < kids.length := by omega
        have st : ∀ k, impl_knotsOf.l0 (k + 1) acc kids kids.length (i : Int) a = if 0 ≤ kids.getD i 0 ∧ kids.getD i 0 ≤ (a.length : Int) - 1 then (impl_hasInt.f k acc (kids.getD i 0)).bind fun t => if t = true then impl_knotsOf.l0 k acc kids kids.length ((i + 1 : Nat) : Int) a else impl_knotsOf.l0 k (acc ++ [kids.getD i 0]) kids kids.length ((i + 1 : Nat) : Int) a else impl_knotsOf.l0 k acc kids kids.length ((i + 1 : Nat) : Int) a := fun k => by
          simp only [impl_knotsOf.l0]
          rw [if_pos (by omega), if_pos (by omega), if_pos (by omega), rd_nat, w64 (x := (a.length : Int) - 1) (by omega) (by omega), wsucc (n := kids.length) hil (by omega)]
          simp only [in_eq, Option.bind_some, decide_eq_true_eq, if_pos (show acc.length < 17592186044416 by omega)]
        rw [drop_cons 0 hil]
        by_cases h : 0 ≤ kids.getD i 0 ∧ kids.getD i 0 ≤ (a.length : Int) - 1
        · by_cases h2 : kids.getD i 0 ∈ acc
          · obtain ⟨L, h3, h4, h5⟩ := ih (i + 1) acc (by omega) (by omega)
            refine ⟨L, Ev.step (fun k => by rw [st k, if_pos h]) (ev_bind (iHasInt_ev acc _ (by omega)) ?_), h4, fun j hj => ?_⟩
            · rw [decide_eq_true h2]; simp only [if_true]; exact h3
            · rw [h5 j hj, List.mem_cons]
              constructor
              · rintro (h | h)
                · exact .inl h
                · exact .inr (.inr h)
              · rintro (h | h | h)
                · exact .inl h
                · exact .inl (by rw [h]; exact h2)
                · exact .inr h
          · obtain ⟨L, h3, h4, h5⟩ := ih (i + 1) (acc ++ [kids.getD i 0]) (by omega) (by simp; omega)
            refine ⟨L, Ev.step (fun k => by rw [st k, if_pos h]) (ev_bind (iHasInt_ev acc _ (by omega)) ?_), h4, fun j hj => ?_⟩
            · rw [decide_eq_false h2]; exact h3
            · rw [h5 j hj, List.mem_cons, List.mem_append, List.mem_singleton, or_assoc]
        · obtain ⟨L, h3, h4, h5⟩ := ih (i + 1) acc (by omega) (by omega)
          refine ⟨L, Ev.step (fun k => by rw [st k, if_neg h]) h3, h4, fun j hj => ?_⟩
          rw [h5 j hj, List.mem_cons]
          constructor
          · rintro (h | h)
            · exact .inl h
            · exact .inr (.inr h)
          · rintro (h6 | h6 | h6)
            · exact .inl h6
            · exact absurd (by omega) h
            · exact .inr h6
    obtain ⟨L, h1, h2, h3⟩ := main kids.length 0 [r] (by omega) (by simp)
    refine ⟨L, h1, h2, fun i hi => ?_⟩
    rw [h3 i hi, hr]
    simp
  · simp only [if_neg hr, Bool.eq_false_iff.mpr hr]
    exact ⟨[], Ev.now _, by simp, fun i hi => by simp⟩
/-- The knots that a root keeps, as the reference marks them. -/
theorem sHas_ev (a : List S133) (r : Int) (hn : a.length ≤ 1048576) (ha : arenaB a = true) (hr : (decide (r = -1) || rootB a r) = true) :
    ∃ L, Ev (fun k => spec_l11Has.f k a r) L ∧ L.length = a.length ∧ ∀ i : Nat, i < a.length → L.getD i false = keptB a r i := by
  unfold spec_l11Has.f keptB
  simp only [if_pos (show (0 : Int) ≤ (a.length : Int) by omega), Int.toNat_natCast, if_pos (show a.length ≤ 281474976710656 by omega), Option.bind_some, List.length_replicate]
  by_cases h0 : r < 0
  · refine ⟨_, by simp only [if_pos h0]; exact Ev.now _, by simp, fun i hi => ?_⟩
    rw [getD_rep]
    unfold rootB
    rw [decide_eq_false (by omega)]; rfl
  · have hb : rootB a r = true := by
      rw [Bool.or_eq_true, decide_eq_true_eq] at hr
      rcases hr with h | h
      · omega
      · exact h
    obtain ⟨r0, rl, rf⟩ := root_lt hb
    simp only [if_neg h0, if_pos r0, if_pos (show r < (a.length : Int) by omega), hb, Bool.true_and]
    obtain ⟨h4, _⟩ := knot_of ha rl
    have main : ∀ (d j : Nat) (acc : List Bool), j + d = 4 → acc.length = a.length → ∃ L, Ev (fun k => spec_l11Has.l0 k r acc (j : Int) a) L ∧ L.length = a.length ∧ ∀ i : Nat, i < a.length → L.getD i false = (acc.getD i false || decide ((i : Int) ∈ (a.getD r.toNat z133).f1.drop j)) := by
      intro d
      induction d with
      | zero =>
        intro j acc hj hl
        refine ⟨acc, ev_some fun k => by simp only [spec_l11Has.l0]; rw [if_neg (by omega)], hl, fun i _ => ?_⟩
        rw [List.drop_eq_nil_of_le (by omega)]
        simp
      | succ d ih =>
        intro j acc hj hl
        have hjl : j < (a.getD r.toNat z133).f1.length := by omega
        have hk := kid_of ha rl rf (j := j) (by omega)
        rw [drop_cons 0 hjl]
        have st : ∀ k, spec_l11Has.l0 (k + 1) r acc (j : Int) a = if (a.getD r.toNat z133).f1.getD j 0 ≥ 0 then spec_l11Has.l0 k r (acc.set ((a.getD r.toNat z133).f1.getD j 0).toNat true) ((j + 1 : Nat) : Int) a else spec_l11Has.l0 k r acc ((j + 1 : Nat) : Int) a := fun k => by
          simp only [spec_l11Has.l0]
          rw [show rd_T133 a r = a.getD r.toNat z133 from rfl, if_pos (by omega), if_pos r0, if_pos (by omega), if_pos (by omega), if_pos (by omega), rd_nat, wsucc (i := j) (n := 4) (by omega) (by omega)]
          by_cases h : (a.getD r.toNat z133).f1.getD j 0 ≥ 0
          · rw [if_pos h, if_pos h, if_pos (by omega), if_pos (by omega)]
          · rw [if_neg h, if_neg h]
        rcases hk with hk | ⟨k0, k1, _⟩
        · obtain ⟨L, h3, h5, h6⟩ := ih (j + 1) acc (by omega) hl
          refine ⟨L, Ev.step (fun k => by rw [st k, if_neg (by omega)]) h3, h5, fun i hi => ?_⟩
          rw [h6 i hi, mem_cons_ne (by omega)]
        · obtain ⟨L, h3, h5, h6⟩ := ih (j + 1) (acc.set ((a.getD r.toNat z133).f1.getD j 0).toNat true) (by omega) (by rw [List.length_set]; exact hl)
          refine ⟨L, Ev.step (fun k => by rw [st k, if_pos (by omega)]) h3, h5, fun i hi => ?_⟩
          rw [h6 i hi, getD_set _ _ _ (by omega)]
          by_cases h : (a.getD r.toNat z133).f1.getD j 0 = (i : Int)
          · rw [if_pos (by omega), h, decide_eq_true (List.mem_cons_self)]; simp
          · rw [if_neg (by omega), mem_cons_ne h]
    obtain ⟨L, h1, h2, h3⟩ := main 4 0 ((List.replicate a.length false).set r.toNat true) rfl (by simp)
    refine ⟨L, h1, h2, fun i hi => ?_⟩
    rw [h3 i hi, getD_set _ _ _ (by simp; omega), getD_rep, List.drop_zero]
    by_cases h : (i : Int) = r
    · rw [if_pos (by omega), decide_eq_true h]
    · rw [if_neg (by omega), decide_eq_false h]
end Go.Proofs.Ytdolplcbokioaaa.Pu

/- The reference's SweepArena tells what the sweep keeps. -/
namespace Go.Proofs.Ytdolplcbokioaaa.Pu
set_option linter.unusedVariables false
set_option linter.unusedSimpArgs false
open Go.RowKit Go.Proofs.Ytdolplcbokioaaa.PB Go.Proofs.YtdolplcbokioaaaW.PrintWords

def swRes (roots : List Int) (z : List Int × List S133) : List S133 × List Int := (z.2, roots.map (movB z.1))
theorem sSweep5 (roots pos : List Int) (out : List S133) (hr : roots.length ≤ 1048576) (hok : ∀ m, m < roots.length → roots.getD m 0 ≥ 0 → roots.getD m 0 < (pos.length : Int)) :
    ∀ (d m : Nat), m + d = roots.length → Ev (fun k => spec_SweepArena.l5 k (upd (movB pos) roots m) pos (m : Int) out) (out, roots.map (movB pos)) := by
  intro d
  induction d with
  | zero =>
    intro m hm
    obtain rfl : m = roots.length := by omega
    refine ev_some fun k => ?_
    simp only [spec_SweepArena.l5]
    rw [upd_len, if_neg (by omega), upd_full]
  | succ d ih =>
    intro m hm
    have hml : m < roots.length := by omega
    refine Ev.step (fun k => ?_) (ih (m + 1) (by omega))
    simp only [spec_SweepArena.l5]
    rw [upd_len, if_pos (by omega), if_pos (by omega), rd_nat, upd_get, Int.toNat_natCast, wsucc (n := roots.length) hml (by omega)]
    by_cases h : roots.getD m 0 ≥ 0
    · have e : rd pos (roots.getD m 0) = movB pos (roots.getD m 0) := by unfold movB; rw [if_pos h]; rfl
      have h2 := hok m hml h
      rw [if_pos h, if_pos (by omega), if_pos (by omega), e, upd_set _ _ _ hml]
    · rw [if_neg h, upd_id _ _ _ (by unfold movB; rw [if_neg h])]
theorem sSweep4 (a : List S133) (roots : List Int) (x9 : List Bool) (pos kids : List Int) (i : Nat) (out : List S133) (leaf : Bool) (R : List S133 × List Int)
    (hi : i < a.length) (hn : a.length ≤ 1048576) (hp : pos.length = a.length) (ho : out.length ≤ i) (h4 : kids.length = 4) (hk : leaf = false → ∀ j, j < 4 → kids.getD j 0 ≥ 0 → kids.getD j 0 < (a.length : Int))
    (he : Ev (fun k => spec_SweepArena.l3 k roots x9 (pos.set i (out.length : Int)) ((i + 1 : Nat) : Int) a (out ++ [⟨leaf, swKids leaf pos kids⟩])) R) :
    Ev (fun k => spec_SweepArena.l4 k roots x9 pos (i : Int) 0 a out leaf kids) R := by
  have fin : ∀ (j : Nat), (leaf = true ∨ j = 4) → Ev (fun k => spec_SweepArena.l4 k roots x9 pos (i : Int) (j : Int) a out leaf (swKids leaf pos kids)) R := by
    intro j hj
    refine Ev.step (f := fun k => spec_SweepArena.j6 k roots x9 pos (i : Int) (j : Int) false a out leaf (swKids leaf pos kids)) (fun k => ?_) (Ev.step (fun k => ?_) he)
    · simp only [spec_SweepArena.l4]
      by_cases h : j < 4
      · obtain rfl : leaf = true := by rcases hj with h1 | h1; exact h1; omega
        rw [if_pos (by omega)]; rfl
      · rw [if_neg (by omega)]
    · simp only [spec_SweepArena.j6]
      rw [if_neg (by decide), if_pos (by omega), if_pos (by omega), if_pos (by omega), wsucc (n := a.length) hi (by omega), Int.toNat_natCast]
  cases leaf with
  | true => exact fin 0 (.inl rfl)
  | false =>
    have main : ∀ (e j : Nat), j + e = 4 → Ev (fun k => spec_SweepArena.l4 k roots x9 pos (i : Int) (j : Int) a out false (upd (movB pos) kids j)) R := by
      intro e
      induction e with
      | zero =>
        intro j hj
        obtain rfl : j = 4 := by omega
        have h := fin 4 (.inr rfl)
        rw [show swKids false pos kids = upd (movB pos) kids 4 by rw [← h4, upd_full]; rfl] at h
        exact h
      | succ e ihe =>
        intro j hj
        have hjl : j < kids.length := by omega
        refine Ev.step (f := fun k => spec_SweepArena.j6 k roots x9 pos (i : Int) (j : Int) true a out false (upd (movB pos) kids j)) (fun k => ?_) (Ev.step (fun k => ?_) (ihe (j + 1) (by omega)))
        · simp only [spec_SweepArena.l4]
          rw [if_pos (by omega)]; rfl
        · simp only [spec_SweepArena.j6]
          rw [if_pos trivial, upd_len, if_pos (by omega), if_pos (by omega), rd_nat, upd_get, Int.toNat_natCast, wsucc (i := j) (n := 4) (by omega) (by omega)]
          by_cases h : kids.getD j 0 ≥ 0
          · have e : rd pos (kids.getD j 0) = movB pos (kids.getD j 0) := by unfold movB; rw [if_pos h]; rfl
            have h2 := hk rfl j (by omega) h
            rw [if_pos h, if_pos (by omega), if_pos (by omega), e, upd_set _ _ _ hjl]
          · rw [if_neg h, upd_id _ _ _ (by unfold movB; rw [if_neg h])]
    have h := main 4 0 rfl
    rw [upd_zero] at h
    exact h
theorem sSweep3 (a : List S133) (roots : List Int) (x9 : List Bool) (K : Nat → Bool) (hn : a.length ≤ 1048576) (hr : roots.length ≤ 1048576) (ha : arenaB a = true) (hok : ∀ m, m < roots.length → roots.getD m 0 ≥ 0 → roots.getD m 0 < (a.length : Int))
    (hl : x9.length = a.length) (hK : ∀ i, i < a.length → x9.getD i false = K i) :
    ∀ (d i : Nat) (pos : List Int) (out : List S133), i + d = a.length → pos.length = a.length → out.length ≤ i → Ev (fun k => spec_SweepArena.l3 k roots x9 pos (i : Int) a out) (swRes roots (swAll a K d i pos out)) := by
  intro d
  induction d with
  | zero =>
    intro i pos out hi hp ho
    have h := sSweep5 roots pos out hr (by rw [hp]; exact hok) roots.length 0 (by omega)
    rw [upd_zero] at h
    refine Ev.step (fun k => ?_) h
    simp only [spec_SweepArena.l3]
    rw [if_neg (by omega)]; rfl
  | succ d ih =>
    intro i pos out hi hp ho
    have hil : i < a.length := by omega
    obtain ⟨h4, _⟩ := knot_of ha hil
    unfold swAll
    by_cases h : K i = true
    · rw [if_pos h]
      have he := ih (i + 1) (pos.set i (out.length : Int)) (out ++ [⟨(a.getD i z133).f0, swKids (a.getD i z133).f0 pos (a.getD i z133).f1⟩]) (by omega) (by rw [List.length_set]; exact hp) (by simp; omega)
      refine Ev.step (fun k => ?_) (sSweep4 a roots x9 pos _ i out _ _ hil hn hp ho h4 (fun hf j hj hge => ?_) he)
      · simp only [spec_SweepArena.l3]
        rw [if_pos (by omega), if_pos (by omega), if_pos (by omega), rdOf_nat, hK i hil, if_pos h, rdIK_nat, Option.bind_some, if_pos (show ([] : List Int).length + (a.getD i z133).f1.length < 17592186044416 by rw [h4]; decide), List.nil_append]
      · rcases kid_of ha hil hf hj with h1 | ⟨_, h2, _⟩
        · omega
        · omega
    · rw [if_neg h]
      refine Ev.step (fun k => ?_) (ih (i + 1) pos out (by omega) hp (by omega))
      simp only [spec_SweepArena.l3]
      rw [if_pos (by omega), if_pos (by omega), if_pos (by omega), rdOf_nat, hK i hil, if_neg h, wsucc (n := a.length) hil (by omega)]
theorem okRoots {a : List S133} {roots : List Int} (h : (roots.all fun r => decide (r = -1) || rootB a r) = true) {m : Nat} (hm : m < roots.length) : (decide (roots.getD m 0 = -1) || rootB a (roots.getD m 0)) = true := by
  rw [List.all_eq_true] at h
  exact h _ (getD_mem hm)
theorem okRoots_lt {a : List S133} {roots : List Int} (h : (roots.all fun r => decide (r = -1) || rootB a r) = true) (m : Nat) (hm : m < roots.length) (hge : roots.getD m 0 ≥ 0) : roots.getD m 0 < (a.length : Int) := by
  have h1 := okRoots h hm
  rw [Bool.or_eq_true, decide_eq_true_eq] at h1
  rcases h1 with h1 | h1
  · omega
  · have := root_lt h1; omega
theorem sSweep1 (a : List S133) (roots : List Int) (hn : a.length ≤ 1048576) (hr : roots.length ≤ 1048576) (ha : arenaB a = true) (hok : (roots.all fun r => decide (r = -1) || rootB a r) = true) :
    ∀ (d m : Nat) (x9 : List Bool), m + d = roots.length → x9.length = a.length → (∀ i, i < a.length → (x9.getD i false || (roots.drop m).any fun r => keptB a r i) = keepB a roots i) →
      Ev (fun k => spec_SweepArena.l1 k roots roots x9 (m : Int) a) (swRes roots (swAll a (keepB a roots) a.length 0 (List.replicate a.length 0) [])) := by
  intro d
  induction d with
  | zero =>
    intro m x9 hm hl hK
    refine Ev.step (fun k => ?_) (sSweep3 a roots x9 (keepB a roots) hn hr ha (okRoots_lt hok) hl (fun i hi => ?_) a.length 0 (List.replicate a.length 0) [] (by omega) (by simp) (by simp))
    · simp only [spec_SweepArena.l1]
      rw [if_neg (by omega), if_pos (by omega), Int.toNat_natCast, if_pos (by omega)]; rfl
    · have h := hK i hi
      rw [List.drop_eq_nil_of_le (by omega)] at h
      simpa using h
  | succ d ih =>
    intro m x9 hm hl hK
    have hml : m < roots.length := by omega
    obtain ⟨L, h1, h2, h3⟩ := sHas_ev a (roots.getD m 0) hn ha (okRoots hok hml)
    have main : ∀ (e j : Nat) (y9 : List Bool), j + e = a.length → y9.length = a.length → (∀ i, i < a.length → (y9.getD i false || (if j ≤ i then L.getD i false else false)) = (x9.getD i false || keptB a (roots.getD m 0) i)) →
        Ev (fun k => spec_SweepArena.l2 k roots roots y9 (m : Int) L (j : Int) a) (swRes roots (swAll a (keepB a roots) a.length 0 (List.replicate a.length 0) [])) := by
      intro e
      induction e with
      | zero =>
        intro j y9 hj hy hY
        refine Ev.step (fun k => ?_) (ih (m + 1) y9 (by omega) hy (fun i hi => ?_))
        · simp only [spec_SweepArena.l2]
          rw [if_neg (by omega), wsucc (n := roots.length) hml (by omega)]
        · have h := hY i hi
          rw [if_neg (by omega), Bool.or_false] at h
          rw [h, ← hK i hi, drop_cons 0 hml, List.any_cons, Bool.or_assoc]
      | succ e ihe =>
        intro j y9 hj hy hY
        have hjl : j < a.length := by omega
        refine Ev.step (fun k => ?_) (ihe (j + 1) (y9.set j (if y9.getD j false = true then true else L.getD j false)) (by omega) (by rw [List.length_set]; exact hy) (fun i hi => ?_))
        · simp only [spec_SweepArena.l2]
          rw [if_pos (by omega), if_pos (by omega), if_pos (by omega), rdOf_nat, rdOf_nat, Int.toNat_natCast, wsucc (i := j) (n := a.length) (by omega) (by omega)]
          by_cases h : y9.getD j false = true
          · rw [if_pos h, if_pos h]
          · rw [if_neg h, if_neg h]
        · rw [← hY i hi, getD_set _ _ _ (by omega)]
          by_cases h : i = j
          · subst h
            rw [if_pos rfl, if_neg (show ¬ (i + 1 ≤ i) by omega), if_pos (Nat.le_refl i)]
            by_cases h5 : y9.getD i false = true
            · rw [if_pos h5, h5]; rfl
            · rw [if_neg h5, Bool.eq_false_iff.mpr h5]; cases L.getD i false <;> rfl
          · rw [if_neg h]
            by_cases h5 : j ≤ i
            · rw [if_pos (by omega), if_pos h5]
            · rw [if_neg (by omega), if_neg h5]
    refine Ev.step (f := fun k => (spec_l11Has.f k a (roots.getD m 0)).bind fun t => spec_SweepArena.l2 k roots roots x9 (m : Int) t 0 a) (fun k => ?_) (ev_bind h1 (main a.length 0 x9 (by omega) hl (fun i hi => ?_)))
    · simp only [spec_SweepArena.l1]
      rw [if_pos (by omega), if_pos (by omega), rd_nat]
    · rw [if_pos (by omega), h3 i hi]
theorem sSweep_ev (a : List S133) (roots : List Int) (hn : a.length ≤ 1048576) (hx : ∀ x ∈ a, x.f1.length ≤ 1048576) (hr : roots.length ≤ 1048576) : Ev (fun k => spec_SweepArena.f k a roots) (sweepB a roots) := by
  have j1 : ∀ q : Bool, (q = true → arenaB a = true ∧ (roots.all fun r => decide (r = -1) || rootB a r) = true) → Ev (fun k => spec_SweepArena.j1 k roots roots q a) (if q = true then swRes roots (swAll a (keepB a roots) a.length 0 (List.replicate a.length 0) []) else (a, roots)) := by
    intro q hq
    cases q with
    | false =>
      refine Ev.step (f := fun k => (spec_l11Copy.f k a).bind fun t => some (t, roots)) (fun k => ?_) (ev_bind (sCopyArena_ev a hn hx) (Ev.now _))
      simp only [spec_SweepArena.j1]
      rw [if_neg (by decide)]
    | true =>
      obtain ⟨h1, h2⟩ := hq rfl
      rw [if_pos rfl]
      refine Ev.step (fun k => ?_) (sSweep1 a roots hn hr h1 h2 roots.length 0 (List.replicate a.length false) (by omega) (by simp) (fun i hi => ?_))
      · simp only [spec_SweepArena.j1]
        rw [if_pos trivial, if_pos (by omega), Int.toNat_natCast, if_pos (by omega)]; rfl
      · rw [getD_rep, List.drop_zero]; rfl
  have l0 : ∀ (d m : Nat) (q : Bool), m + d = roots.length → (q = true → arenaB a = true ∧ ∀ r ∈ roots.take m, (decide (r = -1) || rootB a r) = true) →
      Ev (fun k => spec_SweepArena.l0 k roots roots q (m : Int) a) (if (q && (roots.drop m).all fun r => decide (r = -1) || rootB a r) = true then swRes roots (swAll a (keepB a roots) a.length 0 (List.replicate a.length 0) []) else (a, roots)) := by
    intro d
    induction d with
    | zero =>
      intro m q hm hq
      rw [List.drop_eq_nil_of_le (by omega), List.all_nil, Bool.and_true]
      refine Ev.step (fun k => ?_) (j1 q fun h => ⟨(hq h).1, ?_⟩)
      · simp only [spec_SweepArena.l0]
        rw [if_neg (by omega)]
      · have := (hq h).2
        rw [List.take_of_length_le (by omega)] at this
        rw [List.all_eq_true]
        exact this
    | succ d ih =>
      intro m q hm hq
      have hml : m < roots.length := by omega
      cases q with
      | false =>
        rw [Bool.false_and]
        refine Ev.step (fun k => ?_) (j1 false (fun h => absurd h (by decide)))
        simp only [spec_SweepArena.l0]
        rw [if_pos (by omega), if_neg (by decide)]
      | true =>
        rw [Bool.true_and, drop_cons 0 hml, List.all_cons]
        refine Ev.step (fun k => ?_) (ih (m + 1) (decide (roots.getD m 0 = -1) || rootB a (roots.getD m 0)) (by omega) fun h => ⟨(hq rfl).1, fun r hr2 => ?_⟩)
        · simp only [spec_SweepArena.l0]
          rw [if_pos (by omega), if_pos trivial, if_pos (by omega), rd_nat, sRoot_eq a _ (by omega), Option.bind_some, wsucc (n := roots.length) hml (by omega)]
        · rw [List.take_succ_eq_append_getElem hml, List.mem_append, List.mem_singleton] at hr2
          rcases hr2 with h5 | h5
          · exact (hq rfl).2 r h5
          · rw [h5]
            rw [List.getD_eq_getElem?_getD, List.getElem?_eq_getElem hml] at h
            exact h
  unfold spec_SweepArena.f sweepB sweepOk
  simp only [Option.bind_some, List.nil_append]
  simp only [if_pos (show ([] : List Int).length + roots.length < 17592186044416 by rw [List.length_nil]; omega)]
  have h := l0 roots.length 0 (arenaB a) (by omega) (fun h => ⟨h, by simp⟩)
  rw [List.drop_zero] at h
  exact ev_bind (sArena_ev a (by omega)) h
end Go.Proofs.Ytdolplcbokioaaa.Pu

/- The program's SweepArena tells what the sweep keeps. -/
namespace Go.Proofs.Ytdolplcbokioaaa.Pu
set_option linter.unusedVariables false
set_option linter.unusedSimpArgs false
open Go.RowKit Go.Proofs.Ytdolplcbokioaaa.PB Go.Proofs.YtdolplcbokioaaaW.PrintWords

theorem iCopyInts_eq {l : List Int} (h : l.length ≤ 1048576) : impl_copyInts.f l = some l := by
  unfold impl_copyInts.f
  rw [if_pos (by simp; omega), List.nil_append]
theorem app_ok {α : Type} (l : List α) {c : Nat} : l ++ [] = l := List.append_nil l
theorem iCopyArena_ev (a : List S133) (hn : a.length ≤ 1048576) (hx : ∀ x ∈ a, x.f1.length ≤ 1048576) : Ev (fun k => impl_copyArena.f k a) a := by
  have main : ∀ (d i : Nat) (acc : List S133), i + d = a.length → acc.length = i → Ev (fun k => impl_copyArena.l0 k a a.length (i : Int) acc) (acc ++ a.drop i) := by
    intro d
    induction d with
    | zero => intro i acc hi hl; exact ev_some fun k => by simp only [impl_copyArena.l0]; rw [if_neg (by omega), List.drop_eq_nil_of_le (by omega), List.append_nil]
    | succ d ih =>
      intro i acc hi hl
      have hil : i < a.length := by omega
      have h := ih (i + 1) (acc ++ [a.getD i z133]) (by omega) (by simp; omega)
      rw [List.append_assoc, List.singleton_append, ← drop_cons z133 hil] at h
      refine Ev.step (fun k => ?_) h
      simp only [impl_copyArena.l0]
      rw [if_pos (by omega), if_pos (by omega), if_pos (by omega), rdIK_nat, iCopyInts_eq (hx _ (getD_mem hil)), Option.bind_some, if_pos (by omega), wsucc (n := a.length) hil (by omega)]
  have h := main a.length 0 [] (by omega) rfl
  rw [List.nil_append, List.drop_zero] at h
  exact h
theorem iSweep3 (roots pos : List Int) (out : List S133) (hr : roots.length ≤ 1048576) (hok : ∀ m, m < roots.length → roots.getD m 0 ≥ 0 → roots.getD m 0 < (pos.length : Int)) :
    ∀ (d m : Nat), m + d = roots.length → Ev (fun k => impl_SweepArena.l3 k (upd (movB pos) roots m) pos roots (roots.length : Int) (m : Int) out) (out, roots.map (movB pos)) := by
  intro d
  induction d with
  | zero =>
    intro m hm
    obtain rfl : m = roots.length := by omega
    refine ev_some fun k => ?_
    simp only [impl_SweepArena.l3]
    rw [if_neg (by omega), upd_full]
  | succ d ih =>
    intro m hm
    have hml : m < roots.length := by omega
    refine Ev.step (fun k => ?_) (ih (m + 1) (by omega))
    simp only [impl_SweepArena.l3]
    rw [if_pos (by omega), if_pos (by omega), if_pos (by omega), rd_nat, upd_len, Int.toNat_natCast, wsucc (n := roots.length) hml (by omega)]
    by_cases h : roots.getD m 0 ≥ 0
    · have e : rd pos (roots.getD m 0) = movB pos (roots.getD m 0) := by unfold movB; rw [if_pos h]; rfl
      have h2 := hok m hml h
      rw [if_pos h, if_pos (by omega), if_pos (by omega), if_pos (by omega), e, upd_set _ _ _ hml]
    · rw [if_neg h, upd_id _ _ _ (by unfold movB; rw [if_neg h])]
theorem iSweep1 (a : List S133) (roots acc : List Int) (K : Nat → Bool) (hn : a.length ≤ 1048576) (hr : roots.length ≤ 1048576) (ha : arenaB a = true) (hok : ∀ m, m < roots.length → roots.getD m 0 ≥ 0 → roots.getD m 0 < (a.length : Int))
    (hacc : acc.length ≤ 9223372036854775807) (hK : ∀ j : Nat, j < a.length → ((j : Int) ∈ acc ↔ K j = true)) :
    ∀ (d i : Nat) (pos : List Int) (out : List S133), i + d = a.length → pos.length = a.length → out.length ≤ i → Ev (fun k => impl_SweepArena.l1 k roots roots acc pos a (a.length : Int) (i : Int) out) (swRes roots (swAll a K d i pos out)) := by
  intro d
  induction d with
  | zero =>
    intro i pos out hi hp ho
    have h := iSweep3 roots pos out hr (by rw [hp]; exact hok) roots.length 0 (by omega)
    rw [upd_zero] at h
    refine Ev.step (fun k => ?_) h
    simp only [impl_SweepArena.l1]
    rw [if_neg (by omega)]; rfl
  | succ d ih =>
    intro i pos out hi hp ho
    have hil : i < a.length := by omega
    obtain ⟨h4, _⟩ := knot_of ha hil
    unfold swAll
    refine Ev.step (f := fun k => (impl_hasInt.f k acc (i : Int)).bind fun t => if t = true then impl_SweepArena.l2 k roots roots acc (pos.set i (out.length : Int)) a (a.length : Int) (i : Int) (a.getD i z133).f1 ((a.getD i z133).f1.length : Int) 0 out (a.getD i z133).f0 (a.getD i z133).f1 (a.getD i z133).f0 (a.getD i z133).f1 else impl_SweepArena.l1 k roots roots acc pos a (a.length : Int) ((i + 1 : Nat) : Int) out) (fun k => ?_) (ev_bind (iHasInt_ev acc _ hacc) ?_)
    · simp only [impl_SweepArena.l1]
      rw [if_pos (by omega), if_pos (by omega), if_pos (by omega), rdIK_nat, iCopyInts_eq (by omega), Int.toNat_natCast, wsucc (n := a.length) hil (by omega)]
      simp only [if_pos (show (i : Int) < (pos.length : Int) by omega), Option.bind_some]
    · by_cases h : K i = true
      · rw [if_pos h, decide_eq_true ((hK i hil).2 h)]
        simp only [if_true]
        have he := ih (i + 1) (pos.set i (out.length : Int)) (out ++ [⟨(a.getD i z133).f0, swKids (a.getD i z133).f0 pos (a.getD i z133).f1⟩]) (by omega) (by rw [List.length_set]; exact hp) (by simp; omega)
        have kid := fun (hf : (a.getD i z133).f0 = false) {j : Nat} (hj : j < 4) => kid_of ha hil hf hj
        generalize (a.getD i z133).f1 = kids at he h4 kid ⊢
        generalize (a.getD i z133).f0 = leaf at he kid ⊢
        have hpl : (pos.set i (out.length : Int)).length = a.length := by rw [List.length_set]; exact hp
        have main : ∀ (e j : Nat), j + e = 4 → Ev (fun k => impl_SweepArena.l2 k roots roots acc (pos.set i (out.length : Int)) a (a.length : Int) (i : Int) kids (kids.length : Int) (j : Int) out leaf kids leaf (if leaf = true then kids else upd (movB pos) kids j)) (swRes roots (swAll a K d (i + 1) (pos.set i (out.length : Int)) (out ++ [⟨leaf, swKids leaf pos kids⟩]))) := by
          intro e
          induction e with
          | zero =>
            intro j hj
            obtain rfl : j = 4 := by omega
            refine Ev.step (fun k => ?_) he
            simp only [impl_SweepArena.l2]
            rw [if_neg (by omega), if_pos (by omega), wsucc (n := a.length) hil (by omega)]
            have e2 : (if leaf = true then kids else upd (movB pos) kids 4) = swKids leaf pos kids := by
              unfold swKids
              rw [show upd (movB pos) kids 4 = kids.map (movB pos) by rw [← h4, upd_full]]
            rw [e2]
          | succ e ihe =>
            intro j hj
            have hjl : j < kids.length := by omega
            refine Ev.step (fun k => ?_) (ihe (j + 1) (by omega))
            simp only [impl_SweepArena.l2]
            rw [if_pos (by omega), if_pos (by omega), if_pos (by omega), rd_nat, wsucc (i := j) (n := 4) (by omega) (by omega), Int.toNat_natCast]
            cases leaf with
            | true => rw [if_pos rfl, if_pos rfl, if_pos rfl]
            | false =>
              rw [if_neg (show ¬ false = true by decide), if_neg (show ¬ false = true by decide), if_neg (show ¬ false = true by decide), upd_len]
              have hk := kid rfl (j := j) (by omega)
              by_cases h : kids.getD j 0 ≥ 0
              · have e : rd (pos.set i (out.length : Int)) (kids.getD j 0) = movB pos (kids.getD j 0) := by
                  unfold movB
                  rw [if_pos h]
                  show (pos.set i (out.length : Int)).getD (kids.getD j 0).toNat 0 = _
                  rw [getD_set _ _ _ (by omega), if_neg (by omega)]
                rw [if_pos h, if_pos (by omega), if_pos (by omega), if_pos (by omega), e, upd_set _ _ _ hjl]
              · rw [if_neg h, upd_id _ _ _ (by unfold movB; rw [if_neg h])]
        have h5 := main 4 0 rfl
        rw [upd_zero, ite_self] at h5
        exact h5
      · rw [if_neg h, decide_eq_false (fun e => h ((hK i hil).1 e))]
        exact ih (i + 1) pos out (by omega) hp (by omega)
theorem iSweep_ev (a : List S133) (roots : List Int) (hn : a.length ≤ 1048576) (hx : ∀ x ∈ a, x.f1.length ≤ 1048576) (hr : roots.length ≤ 1048576) : Ev (fun k => impl_SweepArena.f k a roots) (sweepB a roots) := by
  have cp : Ev (fun k => (impl_copyArena.f k a).bind fun t => some (t, roots)) (a, roots) := ev_bind (iCopyArena_ev a hn hx) (Ev.now _)
  have l0 : ∀ (d m : Nat) (acc : List Int), m + d = roots.length → acc.length ≤ 1048577 * m → (∀ j : Nat, j < a.length → (((j : Int) ∈ acc ∨ (roots.drop m).any (fun r => keptB a r j) = true) ↔ keepB a roots j = true)) → (∀ r ∈ roots.take m, (decide (r = -1) || rootB a r) = true) →
      Ev (fun k => impl_SweepArena.l0 k roots roots acc roots (roots.length : Int) (m : Int) a) (if (arenaB a && (roots.drop m).all fun r => decide (r = -1) || rootB a r) = true then swRes roots (swAll a (keepB a roots) a.length 0 (List.replicate a.length 0) []) else (a, roots)) := by
    intro d
    induction d with
    | zero =>
      intro m acc hm hl hK hq
      rw [List.drop_eq_nil_of_le (by omega), List.all_nil, Bool.and_true]
      refine Ev.step (f := fun k => (impl_ArenaOk.f k a).bind fun t => if t = true then impl_SweepArena.l1 k roots roots acc (List.replicate a.length 0) a (a.length : Int) 0 [] else (impl_copyArena.f k a).bind fun t => some (t, roots)) (fun k => ?_) (ev_bind (iArena_ev a (by omega)) ?_)
      · simp only [impl_SweepArena.l0]
        rw [if_neg (by omega), Int.toNat_natCast]
        simp only [if_pos (show (0 : Int) ≤ (a.length : Int) by omega), if_pos (show a.length ≤ 35184372088832 by omega)]
      · by_cases h : arenaB a = true
        · simp only [if_pos h]
          refine iSweep1 a roots acc (keepB a roots) hn hr h (okRoots_lt ?_) (by omega) (fun j hj => ?_) a.length 0 (List.replicate a.length 0) [] (by omega) (by simp) (by simp)
          · rw [List.take_of_length_le (by omega)] at hq
            rw [List.all_eq_true]
            exact hq
          · have h2 := hK j hj
            rw [List.drop_eq_nil_of_le (by omega)] at h2
            simpa using h2
        · simp only [if_neg h]
          exact cp
    | succ d ih =>
      intro m acc hm hl hK hq
      have hml : m < roots.length := by omega
      have st : ∀ k, impl_SweepArena.l0 (k + 1) roots roots acc roots (roots.length : Int) (m : Int) a = impl_SweepArena.j1 k roots roots acc (roots.getD m 0) roots (roots.length : Int) (m : Int) (!(decide (roots.getD m 0 = -1) || rootB a (roots.getD m 0))) a := fun k => by
        simp only [impl_SweepArena.l0]
        rw [if_pos (by omega), if_pos (by omega), if_pos (by omega), rd_nat, iRoot_eq a _ (by omega), Option.bind_some]
        by_cases h : roots.getD m 0 = -1
        · rw [if_pos h, decide_eq_true h]; rfl
        · rw [if_neg h, decide_eq_false h, Bool.false_or]
      rw [drop_cons 0 hml, List.all_cons]
      by_cases h : (decide (roots.getD m 0 = -1) || rootB a (roots.getD m 0)) = true
      · rw [h, Bool.true_and]
        obtain ⟨L, h1, h2, h3⟩ := iKnots_ev a (roots.getD m 0) hn hx
        refine Ev.step (f := fun k => impl_SweepArena.j1 k roots roots acc (roots.getD m 0) roots (roots.length : Int) (m : Int) false a) (fun k => by rw [st k, h]; rfl) (Ev.step (f := fun k => (impl_knotsOf.f k a (roots.getD m 0)).bind fun t => if acc.length + t.length < 17592186044416 then impl_SweepArena.l0 k roots roots (acc ++ t) roots (roots.length : Int) ((m + 1 : Nat) : Int) a else none) (fun k => ?_) (ev_bind h1 ?_))
        · simp only [impl_SweepArena.j1]
          rw [if_neg (by decide), wsucc (n := roots.length) hml (by omega)]
        · simp only [if_pos (show acc.length + L.length < 17592186044416 by omega)]
          refine ih (m + 1) (acc ++ L) (by omega) (by rw [List.length_append]; omega) (fun j hj => ?_) (fun r hr2 => ?_)
          · rw [← hK j hj, drop_cons (l := roots) (i := m) 0 hml, List.any_cons, List.mem_append, h3 j hj, Bool.or_eq_true, or_assoc]
          · rw [List.take_succ_eq_append_getElem hml, List.mem_append, List.mem_singleton] at hr2
            rcases hr2 with h5 | h5
            · exact hq r h5
            · rw [h5]
              rw [List.getD_eq_getElem?_getD, List.getElem?_eq_getElem hml] at h
              exact h
      · rw [Bool.eq_false_iff.mpr h, Bool.false_and, Bool.and_false, if_neg (by decide)]
        refine Ev.step (f := fun k => impl_SweepArena.j1 k roots roots acc (roots.getD m 0) roots (roots.length : Int) (m : Int) true a) (fun k => by rw [st k, Bool.eq_false_iff.mpr h]; rfl) (Ev.step (fun k => ?_) cp)
        simp only [impl_SweepArena.j1]
        rw [if_pos trivial]
  unfold impl_SweepArena.f sweepB sweepOk
  simp only [iCopyInts_eq hr, Option.bind_some]
  have h := l0 roots.length 0 [] (by omega) (by simp) (fun j hj => by rw [List.drop_zero]; simp [keepB]) (by simp)
  rw [List.drop_zero] at h
  exact h
end Go.Proofs.Ytdolplcbokioaaa.Pu

/- Marks: what a row's places are marked with is held there again, and the count goes on alike. -/
namespace Go.Proofs.Ytdolplcbokioaaa.Pu
set_option linter.unusedVariables false
set_option linter.unusedSimpArgs false
open Go.RowKit Go.Proofs.Ytdolplcbokioaaa.PB Go.Proofs.YtdolplcbokioaaaW.PrintWords

theorem getD_set_self {α : Type} {xs : List α} {i : Nat} {x z : α} (h : i < xs.length) : (xs.set i x).getD i z = x := by
  rw [List.getD_eq_getElem?_getD, List.getElem?_set_self h]; rfl
theorem getD_set_ne {α : Type} {xs : List α} {i j : Nat} {x z : α} (h : i ≠ j) : (xs.set i x).getD j z = xs.getD j z := by
  rw [List.getD_eq_getElem?_getD, List.getD_eq_getElem?_getD, List.getElem?_set_ne h]
/-- A row that is marked place by place, and held so. -/
theorem ev_mark {α : Type} (z : α) {L : Nat → List α → Int → Int → Option (Int × List α)} {Hd : Nat → List α → Int → Int → Option Int} (E : Nat → α → Int → Option (Int × α)) (G : Nat → α → Int → Option Int) (c : Int) (P : α → Prop)
    (hL : ∀ k (xs : List α) (a : Int) (i : Nat), i < xs.length → 0 ≤ a → a + c ≤ 4611686018427387904 → L (k + 1) xs a (i : Int) = (E k (xs.getD i z) a).bind fun b => L k (xs.set i b.2) b.1 (wrap64 ((i : Int) + 1)))
    (hL0 : ∀ k (xs : List α) (a : Int) (i : Nat), xs.length ≤ i → L (k + 1) xs a (i : Int) = some (a, xs))
    (hH : ∀ k (xs : List α) (a : Int) (i : Nat), i < xs.length → 0 ≤ a → a + c ≤ 4611686018427387904 → Hd (k + 1) xs a (i : Int) = (G k (xs.getD i z) a).bind fun t => if t < 0 then some (-1) else Hd k xs t (wrap64 ((i : Int) + 1)))
    (hH0 : ∀ k (xs : List α) (a : Int) (i : Nat), xs.length ≤ i → Hd (k + 1) xs a (i : Int) = some a)
    (hc : 0 ≤ c)
    (hE : ∀ x a, P x → 0 ≤ a → a + c ≤ 4611686018427387904 → ∃ a' x', Ev (fun k => E k x a) (a', x') ∧ Ev (fun k => G k x' a) a' ∧ a ≤ a' ∧ a' ≤ a + c) :
    ∀ (d i : Nat) (xs : List α) (a : Int), i + d = xs.length → xs.length ≤ 9223372036854775807 → (∀ j, i ≤ j → j < xs.length → P (xs.getD j z)) → 0 ≤ a → a + d * c ≤ 4611686018427387904 →
      ∃ a' xs', xs'.length = xs.length ∧ (∀ j, j < i → xs'.getD j z = xs.getD j z) ∧ Ev (fun k => L k xs a (i : Int)) (a', xs') ∧ Ev (fun k => Hd k xs' a (i : Int)) a' ∧ a ≤ a' ∧ a' ≤ a + d * c := by
  intro d
  induction d with
  | zero =>
    intro i xs a hi hn hP ha hM
    exact ⟨a, xs, rfl, fun _ _ => rfl, ev_some fun k => hL0 k xs a i (by omega), ev_some fun k => hH0 k xs a i (by omega), Int.le_refl _, by simp⟩
  | succ d ih =>
    intro i xs a hi hn hP ha hM
    have hdc : 0 ≤ (d : Int) * c := Int.mul_nonneg (by omega) hc
    have hds : ((d + 1 : Nat) : Int) * c = (d : Int) * c + c := by rw [Int.natCast_add, Int.add_mul]; simp
    rw [hds] at hM
    obtain ⟨a1, x1, hE1, hG1, h1, h2⟩ := hE (xs.getD i z) a (hP i (Nat.le_refl _) (by omega)) ha (by omega)
    have hlen : (xs.set i x1).length = xs.length := List.length_set
    obtain ⟨a', xs', hl', hb', hL', hH', h3, h4⟩ := ih (i + 1) (xs.set i x1) a1 (by rw [hlen]; omega) (by rw [hlen]; exact hn) (fun j hj hj2 => by
      rw [hlen] at hj2
      rw [getD_set_ne (by omega)]
      exact hP j (by omega) hj2) (by omega) (by omega)
    have hxi : xs'.getD i z = x1 := by rw [hb' i (by omega), getD_set_self (by omega)]
    refine ⟨a', xs', by rw [hl', hlen], fun j hj => by rw [hb' j (by omega), getD_set_ne (by omega)], ?_, ?_, by omega, by rw [hds]; omega⟩
    · refine Ev.step (fun k => hL k xs a i (by omega) ha (by omega)) (ev_bind hE1 ?_)
      simp only [wsucc (n := xs.length) (i := i) (by omega) hn]
      exact hL'
    · refine Ev.step (fun k => hH k xs' a i (by rw [hl', hlen]; omega) ha (by omega)) ?_
      rw [hxi]
      refine ev_bind hG1 ?_
      simp only [if_neg (show ¬ a1 < 0 by omega), wsucc (n := xs.length) (i := i) (by omega) hn]
      exact hH'

/-- A row that is marked place by place. -/
theorem ev_mark1 {α : Type} (z : α) {L : Nat → List α → Int → Int → Option (Int × List α)} (E : Nat → α → Int → Option (Int × α)) (c : Int)
    (hL : ∀ k (xs : List α) (a : Int) (i : Nat), i < xs.length → 0 ≤ a → a + c ≤ 4611686018427387904 → L (k + 1) xs a (i : Int) = (E k (xs.getD i z) a).bind fun b => L k (xs.set i b.2) b.1 (wrap64 ((i : Int) + 1)))
    (hL0 : ∀ k (xs : List α) (a : Int) (i : Nat), xs.length ≤ i → L (k + 1) xs a (i : Int) = some (a, xs)) (hc : 0 ≤ c)
    (hE : ∀ x a, 0 ≤ a → a + c ≤ 4611686018427387904 → ∃ a' x', Ev (fun k => E k x a) (a', x') ∧ a ≤ a' ∧ a' ≤ a + c) :
    ∀ (d i : Nat) (xs : List α) (a : Int), i + d = xs.length → xs.length ≤ 9223372036854775807 → 0 ≤ a → a + d * c ≤ 4611686018427387904 →
      ∃ a' xs', Ev (fun k => L k xs a (i : Int)) (a', xs') ∧ a ≤ a' ∧ a' ≤ a + d * c := by
  intro d
  induction d with
  | zero =>
    intro i xs a hi hn ha hM
    exact ⟨a, xs, ev_some fun k => hL0 k xs a i (by omega), Int.le_refl _, by simp⟩
  | succ d ih =>
    intro i xs a hi hn ha hM
    have hdc : 0 ≤ (d : Int) * c := Int.mul_nonneg (by omega) hc
    have hds : ((d + 1 : Nat) : Int) * c = (d : Int) * c + c := by rw [Int.natCast_add, Int.add_mul]; simp
    rw [hds] at hM
    obtain ⟨a1, x1, hE1, h1, h2⟩ := hE (xs.getD i z) a ha (by omega)
    have hlen : (xs.set i x1).length = xs.length := List.length_set
    obtain ⟨a', xs', hL', h3, h4⟩ := ih (i + 1) (xs.set i x1) a1 (by rw [hlen]; omega) (by rw [hlen]; exact hn) (by omega) (by omega)
    refine ⟨a', xs', ?_, by omega, by rw [hds]; omega⟩
    refine Ev.step (fun k => hL k xs a i (by omega) ha (by omega)) (ev_bind hE1 ?_)
    simp only [wsucc (n := xs.length) (i := i) (by omega) hn]
    exact hL'

/-- Whole numbers. -/
theorem mark_int (l : List Int) (a : Int) (hn : (l.length : Int) ≤ 1099511627776) (ha : 0 ≤ a) (hM : a + l.length ≤ 4611686018427387904) :
    ∃ a' l', l'.length = l.length ∧ Ev (fun k => laws_markIntS.f k l a) (a', l') ∧ Ev (fun k => laws_heldIntS.f k l' a) a' ∧ a ≤ a' ∧ a' ≤ a + l.length := by
  obtain ⟨a', l', h1, _, h2, h3, h4, h5⟩ := ev_mark (0 : Int) (L := fun k xs a i => laws_markIntS.l0 k xs a i) (Hd := fun k xs a i => laws_heldIntS.l0 k xs a i)
    (fun _ _ a => some (wrap64 (a + 1), a)) (fun _ x a => if x = a then some (wrap64 (a + 1)) else some (-1)) 1 (fun _ => True)
    (fun k xs a i hi _ _ => by
      simp only [laws_markIntS.l0]
      rw [if_pos (by omega), if_pos (by omega)]
      rfl)
    (fun k xs a i hi => by
      simp only [laws_markIntS.l0]
      rw [if_neg (by omega)])
    (fun k xs a i hi h0 h1 => by
      simp only [laws_heldIntS.l0]
      rw [if_pos (by omega), if_pos (by omega)]
      show (if xs.getD i 0 = a then _ else _) = _
      by_cases h : xs.getD i 0 = a
      · rw [if_pos h, if_pos h, w64 (by omega) (by omega)]
        simp only [Option.bind_some]
        rw [if_neg (by omega)]
      · rw [if_neg h, if_neg h]
        rfl)
    (fun k xs a i hi => by
      simp only [laws_heldIntS.l0]
      rw [if_neg (by omega)])
    (by omega)
    (fun x a _ h0 h1 => ⟨a + 1, a, ev_const (by rw [w64 (by omega) (by omega)]), ev_const (by rw [if_pos rfl, w64 (by omega) (by omega)]), by omega, by omega⟩)
    l.length 0 l a (by omega) (by omega) (fun _ _ _ => trivial) ha (by omega)
  exact ⟨a', l', h1, h2, h3, h4, by omega⟩
end Go.Proofs.Ytdolplcbokioaaa.Pu

/- Marks of an arena. -/
namespace Go.Proofs.Ytdolplcbokioaaa.Pu
set_option linter.unusedVariables false
set_option linter.unusedSimpArgs false
open Go.RowKit Go.Proofs.Ytdolplcbokioaaa.PB Go.Proofs.YtdolplcbokioaaaW.PrintWords

theorem mark_knots (l : List S133) (a : Int) (hn : l.length ≤ 1048576) (hk : ∀ x ∈ l, x.f1.length ≤ 1048576) (ha : 0 ≤ a) (hM : a ≤ 1099511627776) :
    ∃ a' l', l'.length = l.length ∧ Ev (fun k => laws_markKnotS.f k l a) (a', l') ∧ Ev (fun k => laws_heldKnotS.f k l' a) a' ∧ a ≤ a' ∧ a' ≤ a + l.length * 1048577 := by
  obtain ⟨a', l', h1, _, h2, h3, h4, h5⟩ := ev_mark z133 (L := fun k xs a i => laws_markKnotS.l0 k xs a i) (Hd := fun k xs a i => laws_heldKnotS.l0 k xs a i)
    (fun k x a => (laws_markIntS.f k x.f1 (wrap64 (a + 1))).bind fun b => some (b.1, (⟨Int.tmod a 3 == 0, b.2⟩ : S133))) (fun k x a => if (x.f0 != (Int.tmod a 3 == 0)) = true then some (-1) else laws_heldIntS.f k x.f1 (wrap64 (a + 1))) 1048577 (fun x => x.f1.length ≤ 1048576)
    (fun k xs a i hi _ _ => by
      have e1 : rd_T133 (xs.set i (⟨Int.tmod a 3 == 0, (rd_T133 xs (i : Int)).f1⟩ : S133)) (i : Int) = ⟨Int.tmod a 3 == 0, (rd_T133 xs (i : Int)).f1⟩ := getD_set_self hi
      simp only [laws_markKnotS.l0]
      rw [if_pos (by omega), if_pos (by omega)]
      simp only [Option.bind_some, Int.toNat_natCast, e1, List.set_set, Option.bind_assoc]
      rfl)
    (fun k xs a i hi => by
      simp only [laws_markKnotS.l0]
      rw [if_neg (by omega)])
    (fun k xs a i hi h0 h1 => by
      simp only [laws_heldKnotS.l0]
      rw [if_pos (by omega), if_pos (by omega)]
      show (if ((xs.getD i z133).f0 != (Int.tmod a 3 == 0)) = true then some (-1) else (laws_heldIntS.f k (xs.getD i z133).f1 (wrap64 (a + 1))).bind _) = _
      by_cases h : ((xs.getD i z133).f0 != (Int.tmod a 3 == 0)) = true
      · simp only [if_pos h]; rfl
      · simp only [if_neg h])
    (fun k xs a i hi => by
      simp only [laws_heldKnotS.l0]
      rw [if_neg (by omega)])
    (by omega)
    (fun x a hx h0 h1 => by
      obtain ⟨a1, l1, g1, g2, g3, g4, g5⟩ := mark_int x.f1 (a + 1) (by omega) (by omega) (by omega)
      refine ⟨a1, ⟨Int.tmod a 3 == 0, l1⟩, ?_, ?_, by omega, by omega⟩
      · simp only [w64 (x := a + 1) (by omega) (by omega)]
        exact ev_bind g2 (Ev.now _)
      · simp only [w64 (x := a + 1) (by omega) (by omega), bne_self_eq_false]
        exact g3)
    l.length 0 l a (by omega) (by omega) (fun j _ hj => hk _ (by rw [List.getD_eq_getElem?_getD, List.getElem?_eq_getElem hj]; exact List.getElem_mem hj)) ha (by omega)
  exact ⟨a', l', h1, h2, h3, h4, h5⟩
theorem mark_arena (l : List S133) (a : Int) (hn : l.length ≤ 1048576) (hk : ∀ x ∈ l, x.f1.length ≤ 1048576) (ha : 0 ≤ a) (hM : a ≤ 1099511627776) :
    ∃ a' l', l'.length = l.length ∧ Ev (fun k => laws_markArena.f k l a) (a', l') ∧ Ev (fun k => laws_heldArena.f k l' a) a' ∧ a ≤ a' ∧ a' ≤ a + l.length * 1048577 := by
  obtain ⟨a', l', h1, h2, h3, h4, h5⟩ := mark_knots l a hn hk ha hM
  refine ⟨a', l', h1, ?_, ?_, h4, h5⟩
  · unfold laws_markArena.f; exact ev_bind h2 (Ev.now _)
  · unfold laws_heldArena.f; exact ev_bind h3 (by simp only [if_neg (show ¬ a' < 0 by omega)]; exact Ev.now _)
end Go.Proofs.Ytdolplcbokioaaa.Pu

/- FnExactSweepArena: the program's and the reference's sweep are one, and the program's results are its own. -/
namespace Go.Proofs.Ytdolplcbokioaaa.Pure
set_option linter.unusedVariables false
set_option linter.unusedSimpArgs false
open Go.RowKit Go.Proofs.Ytdolplcbokioaaa.PB Go.Proofs.YtdolplcbokioaaaW.PrintWords Go.Proofs.Ytdolplcbokioaaa.Pu

theorem swAll_mem (a : List S133) (K : Nat → Bool) (ha : ∀ x ∈ a, x.f1.length ≤ 1048576) : ∀ (d i : Nat) (pos : List Int) (out : List S133), (∀ x ∈ out, x.f1.length ≤ 1048576) → ∀ x ∈ (swAll a K d i pos out).2, x.f1.length ≤ 1048576
  | 0, _, _, _, h => h
  | d + 1, i, pos, out, h => by
    unfold swAll
    by_cases hk : K i = true
    · rw [if_pos hk]
      refine swAll_mem a K ha d _ _ _ (fun x hx => ?_)
      rcases List.mem_append.1 hx with hx | hx
      · exact h x hx
      · obtain rfl := List.mem_singleton.1 hx
        have hz : (a.getD i z133).f1.length ≤ 1048576 := by
          by_cases hi : i < a.length
          · exact ha _ (getD_mem hi)
          · rw [List.getD_eq_getElem?_getD, List.getElem?_eq_none (by omega)]; exact Nat.zero_le _
        show (swKids _ _ _).length ≤ _
        unfold swKids
        split
        · exact hz
        · rw [List.length_map]; exact hz
    · rw [if_neg hk]
      exact swAll_mem a K ha d _ _ _ h
theorem sweepB_le {a : List S133} {roots : List Int} (hn : a.length ≤ 1048576) (ha : ∀ x ∈ a, x.f1.length ≤ 1048576) (hr : roots.length ≤ 1048576) : (sweepB a roots).1.length ≤ 1048576 ∧ (∀ x ∈ (sweepB a roots).1, x.f1.length ≤ 1048576) ∧ (sweepB a roots).2.length ≤ 1048576 := by
  unfold sweepB
  split
  · refine ⟨?_, swAll_mem a _ ha _ _ _ _ (fun x hx => by cases hx), by rw [List.length_map]; exact hr⟩
    show (swAll _ _ _ _ _ _).2.length ≤ _
    rw [swAll_out]
    have := List.length_filter_le (keepB a roots) (List.range' 0 a.length)
    simp only [List.length_range', List.length_nil] at this ⊢
    omega
  · exact ⟨hn, ha, hr⟩
theorem FnExactSweepArena : ∀ (l0_0 : List S175) (l1 : List Int), (l0_0.length ≤ maxLen ∧ ∀ x_l0_0 ∈ l0_0, (True ∧ (x_l0_0.f1.length ≤ maxLen ∧ ∀ x_x_l0_0f1 ∈ x_l0_0.f1, (Lit.int .i64 x_x_l0_0f1).wf = true))) → (l1.length ≤ maxLen ∧ ∀ x_l1 ∈ l1, (Lit.int .i64 x_l1).wf = true) → ∃ k, laws_FnExactSweepArena.f k l0_0 l1 = some true := by
  intro l roots ⟨hl, hx⟩ ⟨hr0, _⟩
  refine Ev.rounds (g := fun k => laws_FnExactSweepArena.f k l roots) ?_
  unfold maxLen at hl hr0
  unfold laws_FnExactSweepArena.f
  by_cases hbig : 1048576 < (roots.length : Int)
  · simp only [if_pos hbig]; exact Ev.now _
  simp only [if_neg hbig]
  have hr : roots.length ≤ 1048576 := by omega
  obtain ⟨r, hrr, hr1, hq⟩ := szArena_ev l 1048576 (by omega) (by omega) (by omega) (fun x h => by have := (hx x h).2.1; unfold maxLen at this; omega)
  refine ev_bind hrr ?_
  by_cases h : r < 0
  · simp only [if_pos h]; exact Ev.now _
  · simp only [if_neg h]
    obtain ⟨h1, h2⟩ := hq (by omega)
    have hlen : (toA l).length = l.length := by unfold toA; exact List.length_map _
    have hmem : ∀ x ∈ toA l, x.f1.length ≤ 1048576 := fun x h => by
      unfold toA at h
      obtain ⟨y, hy, rfl⟩ := List.mem_map.1 h
      have := h2 y hy
      show y.f1.length ≤ _
      omega
    have hn : (toA l).length ≤ 1048576 := by omega
    have hto := toArena_ev l (by omega) (fun x h => by have := h2 x h; omega)
    have hti := toIntS_ev roots (by omega)
    have eqq := eqArena_ev (toA l) (by omega) (fun x h => by have := hmem x h; omega)
    have eqr := eqIntS_ev roots (by omega)
    have hs := sSweep_ev (toA l) roots hn hmem hr
    have hi := iSweep_ev (toA l) roots hn hmem hr
    obtain ⟨b1, b2, b3⟩ := sweepB_le (roots := roots) hn hmem hr
    have eqg0 := eqArena_ev (sweepB (toA l) roots).1 (by omega) (fun x h => by have := b2 x h; omega)
    have eqg1 := eqIntS_ev (sweepB (toA l) roots).2 (by omega)
    obtain ⟨ka, A', _, hmk, _, hk0, hka⟩ := mark_arena (toA l) 1 hn hmem (by omega) (by omega)
    obtain ⟨kb, B', _, hmkb, _, hkb0, _⟩ := mark_int roots ka (by omega) (by omega) (by omega)
    obtain ⟨m, g', _, hm1, hm2, hm0, hmm⟩ := mark_arena (sweepB (toA l) roots).1 1 b1 b2 (by omega) (by omega)
    obtain ⟨m', g2, _, hn1, hn2, hn0, _⟩ := mark_int (sweepB (toA l) roots).2 m (by omega) (by omega) (by omega)
    refine ev_bind hto (ev_bind hti (ev_bind hs (ev_bind hto (ev_bind hti (ev_bind hi (ev_bind eqg0 ?_))))))
    simp only [if_true]
    refine ev_bind eqg1 ?_
    simp only [if_true]
    refine ev_bind hto (ev_bind eqq ?_)
    simp only [if_true]
    refine ev_bind hti (ev_bind eqr ?_)
    simp only [if_true]
    refine ev_bind hmk (ev_bind hmkb (ev_bind eqg0 ?_))
    simp only [if_true]
    refine ev_bind eqg1 ?_
    simp only [if_true, if_neg (show ¬ kb < 0 by omega)]
    refine ev_bind hm1 (ev_bind hn1 (ev_bind hm2 ?_))
    simp only [if_neg (show ¬ m < 0 by omega)]
    refine ev_bind hn2 ?_
    simp only [if_true, if_neg (show ¬ m' < 0 by omega)]
    refine ev_bind hto (ev_bind hti (ev_bind hi (ev_bind eqg0 ?_)))
    simp only [if_true]
    refine ev_bind eqg1 ?_
    simp only [if_true]
    refine ev_bind hm2 ?_
    simp only [if_neg (show ¬ m < 0 by omega)]
    refine ev_bind hn2 ?_
    simp only [if_true, if_neg (show ¬ m' < 0 by omega)]
    exact Ev.now _
end Go.Proofs.Ytdolplcbokioaaa.Pure

/- FnExactSweepArena: whatever the input, the law returns true, and its arguments read as they did. The row, out of the law's own walk and the pure statement. -/
namespace Go.Proofs.Ytdolplcbokioaaa.fnExactSweepArena
open Go.ChangeShapes Go.WideShapes Go.ChangeAt Go.RowKit Go.Proofs.Ytdolplcbokioaaa.Open Go.Proofs.YtdolplcbokioaaaW.PrintWords Go.Proofs.Ytdolplcbokioaaa.PB
open Go.ChangeMaps (open_string shut_string)
theorem own : ownKnob Try.prog.godebug = none := by kernel_rfl
theorem laidOut : laidOutB Try.prog = true := by kernel_rfl
set_option maxRecDepth 100000 in
theorem o175 : Opn Try.prog 175 k175 (fun x => (True ∧ (x.f1.length ≤ maxLen ∧ ∀ x_xf1 ∈ x.f1, (Lit.int .i64 x_xf1).wf = true))) := opn_struct (d := (Kd.pair Kd.bool (Kd.slice 3 (Kd.int .i64)))) (wf := fun (y : Bool × (List Int)) => (True ∧ (y.2.length ≤ maxLen ∧ ∀ x_y2 ∈ y.2, (Lit.int .i64 x_y2).wf = true))) (fun x : S175 => (x.f0, x.f1)) (fun y => (⟨y.1, y.2⟩ : S175)) (fun _ => rfl) Try.underlying175 (by kernel_rfl) (opnF_cons rfl (by kernel_rfl) (opn_bool Try.underlying4) (opnF_one rfl (by kernel_rfl) (opn_slice Try.underlying26 (by kernel_rfl) (opn_int Try.underlying3))))
set_option maxRecDepth 100000 in
theorem p53 : Opn Try.prog 53 (Kd.slice 175 k175) (fun (y : (List S175)) => (y.length ≤ maxLen ∧ ∀ x_y ∈ y, (True ∧ (x_y.f1.length ≤ maxLen ∧ ∀ x_x_yf1 ∈ x_y.f1, (Lit.int .i64 x_x_yf1).wf = true)))) := opn_tuple Try.underlying53 (by kernel_rfl) (opnF_one rfl (by kernel_rfl) (opn_slice Try.underlying51 (by kernel_rfl) o175))
set_option maxRecDepth 100000 in
set_option maxHeartbeats 4000000 in
theorem lifted (os : Os) (started : os.Started) (H : Type) (enc : TypeId × Value → H) :
    ReturnsInHanded {} Try.checked os 13 .any (Rows.fnExactSweepArenaSpec.pre6 enc Try.prog Try.f13 Rows.fnExactSweepArenaRow.domain false) (Rows.fnExactSweepArenaSpec.post enc Try.prog Try.f13 false true false false) := by
  refine returnsInHanded_of_change_sized (C := Try.checked) own started (by kernel_rfl) Try.func13
    (ChangeSpec.witness6 (enc := enc) (C := Try.checked) false ⟨#[], #[.agg #[.slice none 0 0], .slice none 0 0], []⟩ 8 (by kernel_rfl) (by kernel_rfl) (by kernel_rfl) (by kernel_rfl)) ?_
  intro W base args ds gs before hval0 hW hcnd hsz0 _
  have hval : ∀ (j : Nat) t v, Try.f13.params[j]? = some t → args[j]? = some v → Value.okWide Try.prog W .any base t v := hval0
  have hW' := hW
  obtain ⟨p, q, hA0, hV, rfl, hfz, hnd⟩ := hW
  have hA : DataW.TrodAll enc Try.prog W 0 (fun _ => true) true Try.f13.params.toList args.toList ds p := hA0
  rw [Try.params13] at hA hval
  obtain ⟨v0, vs0, d0, ds0, p0, q0, hargs, rfl, rfl, h0, r0⟩ := trodAll_cons hA
  obtain ⟨v1, vs1, d1, ds1, p1, q1, rfl, rfl, rfl, h1, r1⟩ := trodAll_cons r0
  obtain ⟨rfl, rfl, rfl⟩ := trodAll_nil r1
  obtain rfl : args = #[v0, v1] := by cases args; simp_all
  obtain ⟨rfl, rfl⟩ := trodVars_none hV
  have k0 := h0
  have lt0 : ∀ x ∈ p0, x.block < W.heap.size := by obtain ⟨m, hm⟩ := k0; exact DataW.trod_lt m _ _ _ hm
  obtain ⟨fu0, hf0⟩ := h0
  obtain ⟨y0, K0, Y0⟩ := p53 H enc W 0 (fun _ => true) true fu0 _ _ hf0
  obtain ⟨cs0, rfl, sz0⟩ := okWide_struct Try.underlying53 (hval 0 53 v0 rfl rfl)
  obtain ⟨Ac0, Cc0, Ec0, Lc0, Gc0⟩ := K0
  have E0 : cs0 = #[.slice Ac0 y0.length Cc0] := by
    apply Array.toList_inj.1
    have z : cs0.toList = _ := Ec0
    exact z
  subst E0
  have k1 := h1
  have lt1 : ∀ x ∈ p1, x.block < W.heap.size := by obtain ⟨m, hm⟩ := k1; exact DataW.trod_lt m _ _ _ hm
  obtain ⟨fu1, hf1⟩ := h1
  obtain ⟨y1, K1, Y1⟩ := (opn_slice Try.underlying26 (by kernel_rfl) (opn_int Try.underlying3)) H enc W 0 (fun _ => true) true fu1 _ _ hf1
  obtain ⟨a1, len1, cap1, rfl⟩ := okWide_slice Try.underlying26 (hval 1 26 v1 rfl rfl)
  obtain ⟨Ac1, Cc1, Ec1, Lc1, Gc1⟩ := K1
  have es1 : a1 = Ac1 ∧ len1 = y1.length ∧ cap1 = Cc1 := by simpa [Value.cells] using Ec1
  obtain ⟨rfl, rfl, rfl⟩ : Ac1 = a1 ∧ y1.length = len1 ∧ Cc1 = cap1 := ⟨es1.1.symm, es1.2.1.symm, es1.2.2.symm⟩
  clear es1
  obtain ⟨k, hp⟩ := Pure.FnExactSweepArena y0 y1 Y0 Y1
  clear hA0 hval0 hsz0
  refine (laws_FnExactSweepArena.calls k Ac0 Cc0 y0 Ac1 Cc1 y1 true ⟨rfl⟩ W Gc0 Lc0 Gc1 Lc1 hp).mono fun e W' ⟨he, bel0⟩ => ?_
  have bel : Below W.heap.size W W' := bel0
  subst he
  exact ⟨_, rfl, _, _, _, [], _, [], hW', trodAll_mk1 (shut_bool Try.underlying4 _), (trodAll_cons_mk (Below.trod laidOut (by kernel_rfl) (of_decide_eq_true (by kernel_rfl)) k0 bel lt0) (trodAll_cons_mk (Below.trod laidOut (by kernel_rfl) (of_decide_eq_true (by kernel_rfl)) k1 bel lt1) trodAll_mk0)), rfl, bel.frame _, fun h => by cases h⟩
theorem over : Rows.fnExactSweepArenaRow.holds Try.pinned (OpenSpec.ofChange Rows.fnExactSweepArenaSpec) :=
  OpenClaim.holds_of_wide 13 Try.f13 rfl rfl rfl rfl rfl rfl rfl ⟨rfl, rfl, rfl, rfl, rfl⟩ rfl rfl rfl rfl rfl (by kernel_rfl) Try.func13 (by kernel_rfl)
    (of_decide_eq_true (by kernel_rfl)) (by unfold Func.isWrapper; first | (rw [if_pos (by decide +kernel)]; kernel_rfl) | (rw [if_neg (by decide +kernel)]; exact ⟨rfl, rfl⟩))
    (fun os started H enc _ => lifted os started H enc)
theorem proved : Rows.FnExactSweepArenaSaid := over
#print axioms proved
end Go.Proofs.Ytdolplcbokioaaa.fnExactSweepArena
namespace Go.Proofs.Ytdolplcbokioaaa
/-- The row, under a short name, for the claim. -/
theorem fnExactSweepArena_holds : Rows.FnExactSweepArenaSaid := fnExactSweepArena.proved
end Go.Proofs.Ytdolplcbokioaaa
