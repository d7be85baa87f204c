/- FnExactDoSteps: functions of the translation as Lean functions with what their calls come to, plain lemmas on them, and, at the end, the row. Parts of one proof, merged by a program of this session; each part's own sentence stands at its head. -/
import Derived.Test.YtijbejiajaiciaaMFnExactDoStepsc
namespace Go.Proofs.Ytijbejiajaiciaa.PC
open Go.RowKit Go.Proofs.YtijbejiajaiciaaW.PrintWords Go.Proofs.YtijbejiajaiciaaW.PrintLast Go.Proofs.YtijbejiajaiciaaW.PrintMore
attribute [local go_sem] max2_int min2_int max_two min_two max_three min_three max_four min_four   -- for this text's walks alone
set_option linter.unusedVariables false
set_option linter.unusedSimpArgs false
def laws_eqStep.f (a0_0 : Int) (a0_1 : Int) (a0_2 : Int) (a0_3 : ByteArray) (a1_0 : Int) (a1_1 : Int) (a1_2 : Int) (a1_3 : ByteArray) : Option (Bool):=if a0_0 = a1_0 then (if a0_1 = a1_1 then (if a0_2 = a1_2 then (if a0_3.toList = a1_3.toList then (some true) else (some false)) else (some false)) else (some false)) else (some false)
set_option maxHeartbeats 8000000 in
set_option maxRecDepth 100000 in
theorem laws_eqStep.calls (a0_0 : Int) (a0_1 : Int) (a0_2 : Int) (a0_3 : ByteArray) (a1_0 : Int) (a1_1 : Int) (a1_2 : Int) (a1_3 : ByteArray) (r : Bool) (w : World) (h : laws_eqStep.f a0_0 a0_1 a0_2 a0_3 a1_0 a1_1 a1_2 a1_3 = some r) :
  Calls Try.prog 84 #[.agg #[.int .i64 a0_0,.int .i64 a0_1,.int .i64 a0_2,.string a0_3],.agg #[.int .i64 a1_0,.int .i64 a1_1,.int .i64 a1_2,.string a1_3]] w fun e w'=>e = .returned (.bool r) ∧ Below w.heap.size w w':=by
 have hu69:=Try.underlying69;have HB:=Aside0.mk (Below.refl w.heap.size w);have H : (if a0_0 = a1_0 then (if a0_1 = a1_1 then (if a0_2 = a1_2 then (if a0_3.toList = a1_3.toList then (some true) else (some false)) else (some false)) else (some false)) else (some false)) = some r:=h;clear h
 by_cases c3 : a0_0 = a1_0
 ·rw [if_pos c3] at H;have c3b0 : (a0_0 == a1_0) = true:=beq_iff_eq.mpr c3;have c3b1 : (a0_0 != a1_0) = false:=bne_eq_false_iff_eq.mpr c3;clear c3
  by_cases c4 : a0_1 = a1_1
  ·rw [if_pos c4] at H;have c4b0 : (a0_1 == a1_1) = true:=beq_iff_eq.mpr c4;have c4b1 : (a0_1 != a1_1) = false:=bne_eq_false_iff_eq.mpr c4;clear c4
   by_cases c5 : a0_2 = a1_2
   ·rw [if_pos c5] at H;have c5b0 : (a0_2 == a1_2) = true:=beq_iff_eq.mpr c5;have c5b1 : (a0_2 != a1_2) = false:=bne_eq_false_iff_eq.mpr c5;clear c5
    by_cases c6 : a0_3.toList = a1_3.toList
    ·rw [if_pos c6] at H;have c6b0 : (a0_3.toList == a1_3.toList) = true:=beq_iff_eq.mpr c6;have c6b1 : (a0_3.toList != a1_3.toList) = false:=bne_eq_false_iff_eq.mpr c6;clear c6;obtain rfl:=Option.some.inj H
     go_enter Try.func84,Try.ntmps84
     go_wp2_with (first | ((with_reducible refine gate_dst (N:=2) rfl ?_);refine box_event ?hg (N:=2) ?hd (cs:=#[.int .i64 a0_0,.int .i64 a0_1,.int .i64 a0_2,.string a0_3]) (t:=69) ?hr ?_;(case hd=>rfl);(case hg=>rfl);(case hr=>first | (go_simp;done) | (go_simp;rfl));intro gb801 hg w7 hbox hb;have n0_:=Aside0.mk (below_step (hs HB) hb);have n1_:=Aside0.mk (hbox);have n2_:=Aside0.mk ((by rw [hg];exact (below_size (hs HB)) : w.heap.size ≤ gb801));have n3_:=Aside0.mk ((by rw [hg];exact (below_size (hs HB)) : w.heap.size ≤ gb801));clear HB;have HB:=n0_;have BK801:=n1_;have GW801:=n2_;have GE801:=n3_;clear n0_ n1_ n2_ n3_;clear hb hbox hg) | ((with_reducible refine gate_dst (N:=3) rfl ?_);refine box_event ?hg (N:=3) ?hd (cs:=#[.int .i64 a1_0,.int .i64 a1_1,.int .i64 a1_2,.string a1_3]) (t:=69) ?hr ?_;(case hd=>rfl);(case hg=>rfl);(case hr=>first | (go_simp;done) | (go_simp;rfl));intro gb802 hg w8 hbox hb;have n0_:=Aside0.mk (blk_below (g:=gb801) (o:=.cells #[.int .i64 a0_0,.int .i64 a0_1,.int .i64 a0_2,.string a0_3] 69 (0,0)) (bs BK801) hb);have n1_:=Aside0.mk (below_step (hs1 HB GE801) hb);have n2_:=Aside0.mk (hbox);have n3_:=Aside0.mk ((by rw [hg];exact (below_size (hs1 HB GE801)) : w.heap.size ≤ gb802));have n4_:=Aside0.mk ((by rw [hg];exact (below_size (hs1 HB GE801)) : w.heap.size ≤ gb802));have n5_:=Aside0.mk ((by rw [hg];exact Nat.ne_of_lt (blk_lt (g:=gb801) (o:=.cells #[.int .i64 a0_0,.int .i64 a0_1,.int .i64 a0_2,.string a0_3] 69 (0,0)) (bs BK801)) : gb801 ≠ gb802));have n6_:=Aside0.mk ((by rw [hg];exact Nat.ne_of_gt (blk_lt (g:=gb801) (o:=.cells #[.int .i64 a0_0,.int .i64 a0_1,.int .i64 a0_2,.string a0_3] 69 (0,0)) (bs BK801)) : gb802 ≠ gb801));clear BK801;clear HB;have BK801:=n0_;have HB:=n1_;have BK802:=n2_;have GW802:=n3_;have GE802:=n4_;have NB801_802:=n5_;have NB802_801:=n6_;clear n0_ n1_ n2_ n3_ n4_ n5_ n6_;clear hb hbox hg;have hnb9:=NB801_802.out;have hnc9:=NB802_801.out;have hcz10_0 : w8.cell? ⟨gb801,0,none⟩ = some (.int .i64 a0_0):=(blk_cell BK801.out 0).trans rfl;have hcz10_1 : w8.cell? ⟨gb801,1,none⟩ = some (.int .i64 a0_1):=(blk_cell BK801.out 1).trans rfl;have hcz10_2 : w8.cell? ⟨gb801,2,none⟩ = some (.int .i64 a0_2):=(blk_cell BK801.out 2).trans rfl;have hcz10_3 : w8.cell? ⟨gb801,3,none⟩ = some (.string a0_3):=(blk_cell BK801.out 3).trans rfl;have hfz10_0:=blk_frozen BK801.out 0;have hfz10_1:=blk_frozen BK801.out 1;have hfz10_2:=blk_frozen BK801.out 2;have hfz10_3:=blk_frozen BK801.out 3;have hcz11_0 : w8.cell? ⟨gb802,0,none⟩ = some (.int .i64 a1_0):=(blk_cell BK802.out 0).trans rfl;have hcz11_1 : w8.cell? ⟨gb802,1,none⟩ = some (.int .i64 a1_1):=(blk_cell BK802.out 1).trans rfl;have hcz11_2 : w8.cell? ⟨gb802,2,none⟩ = some (.int .i64 a1_2):=(blk_cell BK802.out 2).trans rfl;have hcz11_3 : w8.cell? ⟨gb802,3,none⟩ = some (.string a1_3):=(blk_cell BK802.out 3).trans rfl;have hfz11_0:=blk_frozen BK802.out 0;have hfz11_1:=blk_frozen BK802.out 1;have hfz11_2:=blk_frozen BK802.out 2;have hfz11_3:=blk_frozen BK802.out 3))
     go_ret
     exact ⟨by first | rfl | (simp [errW_none,errW_some] <;> rfl) | (simp [*,errW_none,errW_some] <;> rfl),hs2 HB GE801 GE802⟩
    rw [if_neg c6] at H;have c6b0 : (a0_3.toList == a1_3.toList) = false:=beq_eq_false_iff_ne.mpr c6;have c6b1 : (a0_3.toList != a1_3.toList) = true:=bne_iff_ne.mpr c6;obtain rfl:=Option.some.inj H
    go_enter Try.func84,Try.ntmps84
    go_wp2_with (first | ((with_reducible refine gate_dst (N:=2) rfl ?_);refine box_event ?hg (N:=2) ?hd (cs:=#[.int .i64 a0_0,.int .i64 a0_1,.int .i64 a0_2,.string a0_3]) (t:=69) ?hr ?_;(case hd=>rfl);(case hg=>rfl);(case hr=>first | (go_simp;done) | (go_simp;rfl));intro gb801 hg w12 hbox hb;have n0_:=Aside0.mk (below_step (hs HB) hb);have n1_:=Aside0.mk (hbox);have n2_:=Aside0.mk ((by rw [hg];exact (below_size (hs HB)) : w.heap.size ≤ gb801));have n3_:=Aside0.mk ((by rw [hg];exact (below_size (hs HB)) : w.heap.size ≤ gb801));clear HB;have HB:=n0_;have BK801:=n1_;have GW801:=n2_;have GE801:=n3_;clear n0_ n1_ n2_ n3_;clear hb hbox hg) | ((with_reducible refine gate_dst (N:=3) rfl ?_);refine box_event ?hg (N:=3) ?hd (cs:=#[.int .i64 a1_0,.int .i64 a1_1,.int .i64 a1_2,.string a1_3]) (t:=69) ?hr ?_;(case hd=>rfl);(case hg=>rfl);(case hr=>first | (go_simp;done) | (go_simp;rfl));intro gb802 hg w13 hbox hb;have n0_:=Aside0.mk (blk_below (g:=gb801) (o:=.cells #[.int .i64 a0_0,.int .i64 a0_1,.int .i64 a0_2,.string a0_3] 69 (0,0)) (bs BK801) hb);have n1_:=Aside0.mk (below_step (hs1 HB GE801) hb);have n2_:=Aside0.mk (hbox);have n3_:=Aside0.mk ((by rw [hg];exact (below_size (hs1 HB GE801)) : w.heap.size ≤ gb802));have n4_:=Aside0.mk ((by rw [hg];exact (below_size (hs1 HB GE801)) : w.heap.size ≤ gb802));have n5_:=Aside0.mk ((by rw [hg];exact Nat.ne_of_lt (blk_lt (g:=gb801) (o:=.cells #[.int .i64 a0_0,.int .i64 a0_1,.int .i64 a0_2,.string a0_3] 69 (0,0)) (bs BK801)) : gb801 ≠ gb802));have n6_:=Aside0.mk ((by rw [hg];exact Nat.ne_of_gt (blk_lt (g:=gb801) (o:=.cells #[.int .i64 a0_0,.int .i64 a0_1,.int .i64 a0_2,.string a0_3] 69 (0,0)) (bs BK801)) : gb802 ≠ gb801));clear BK801;clear HB;have BK801:=n0_;have HB:=n1_;have BK802:=n2_;have GW802:=n3_;have GE802:=n4_;have NB801_802:=n5_;have NB802_801:=n6_;clear n0_ n1_ n2_ n3_ n4_ n5_ n6_;clear hb hbox hg;have hnb14:=NB801_802.out;have hnc14:=NB802_801.out;have hcz15_0 : w13.cell? ⟨gb801,0,none⟩ = some (.int .i64 a0_0):=(blk_cell BK801.out 0).trans rfl;have hcz15_1 : w13.cell? ⟨gb801,1,none⟩ = some (.int .i64 a0_1):=(blk_cell BK801.out 1).trans rfl;have hcz15_2 : w13.cell? ⟨gb801,2,none⟩ = some (.int .i64 a0_2):=(blk_cell BK801.out 2).trans rfl;have hcz15_3 : w13.cell? ⟨gb801,3,none⟩ = some (.string a0_3):=(blk_cell BK801.out 3).trans rfl;have hfz15_0:=blk_frozen BK801.out 0;have hfz15_1:=blk_frozen BK801.out 1;have hfz15_2:=blk_frozen BK801.out 2;have hfz15_3:=blk_frozen BK801.out 3;have hcz16_0 : w13.cell? ⟨gb802,0,none⟩ = some (.int .i64 a1_0):=(blk_cell BK802.out 0).trans rfl;have hcz16_1 : w13.cell? ⟨gb802,1,none⟩ = some (.int .i64 a1_1):=(blk_cell BK802.out 1).trans rfl;have hcz16_2 : w13.cell? ⟨gb802,2,none⟩ = some (.int .i64 a1_2):=(blk_cell BK802.out 2).trans rfl;have hcz16_3 : w13.cell? ⟨gb802,3,none⟩ = some (.string a1_3):=(blk_cell BK802.out 3).trans rfl;have hfz16_0:=blk_frozen BK802.out 0;have hfz16_1:=blk_frozen BK802.out 1;have hfz16_2:=blk_frozen BK802.out 2;have hfz16_3:=blk_frozen BK802.out 3))
    go_ret
    exact ⟨by first | rfl | (simp [errW_none,errW_some] <;> rfl) | (simp [*,errW_none,errW_some] <;> rfl),hs2 HB GE801 GE802⟩
   rw [if_neg c5] at H;have c5b0 : (a0_2 == a1_2) = false:=beq_eq_false_iff_ne.mpr c5;have c5b1 : (a0_2 != a1_2) = true:=bne_iff_ne.mpr c5;obtain rfl:=Option.some.inj H
   go_enter Try.func84,Try.ntmps84
   go_wp2_with (first | ((with_reducible refine gate_dst (N:=2) rfl ?_);refine box_event ?hg (N:=2) ?hd (cs:=#[.int .i64 a0_0,.int .i64 a0_1,.int .i64 a0_2,.string a0_3]) (t:=69) ?hr ?_;(case hd=>rfl);(case hg=>rfl);(case hr=>first | (go_simp;done) | (go_simp;rfl));intro gb801 hg w17 hbox hb;have n0_:=Aside0.mk (below_step (hs HB) hb);have n1_:=Aside0.mk (hbox);have n2_:=Aside0.mk ((by rw [hg];exact (below_size (hs HB)) : w.heap.size ≤ gb801));have n3_:=Aside0.mk ((by rw [hg];exact (below_size (hs HB)) : w.heap.size ≤ gb801));clear HB;have HB:=n0_;have BK801:=n1_;have GW801:=n2_;have GE801:=n3_;clear n0_ n1_ n2_ n3_;clear hb hbox hg) | ((with_reducible refine gate_dst (N:=3) rfl ?_);refine box_event ?hg (N:=3) ?hd (cs:=#[.int .i64 a1_0,.int .i64 a1_1,.int .i64 a1_2,.string a1_3]) (t:=69) ?hr ?_;(case hd=>rfl);(case hg=>rfl);(case hr=>first | (go_simp;done) | (go_simp;rfl));intro gb802 hg w18 hbox hb;have n0_:=Aside0.mk (blk_below (g:=gb801) (o:=.cells #[.int .i64 a0_0,.int .i64 a0_1,.int .i64 a0_2,.string a0_3] 69 (0,0)) (bs BK801) hb);have n1_:=Aside0.mk (below_step (hs1 HB GE801) hb);have n2_:=Aside0.mk (hbox);have n3_:=Aside0.mk ((by rw [hg];exact (below_size (hs1 HB GE801)) : w.heap.size ≤ gb802));have n4_:=Aside0.mk ((by rw [hg];exact (below_size (hs1 HB GE801)) : w.heap.size ≤ gb802));have n5_:=Aside0.mk ((by rw [hg];exact Nat.ne_of_lt (blk_lt (g:=gb801) (o:=.cells #[.int .i64 a0_0,.int .i64 a0_1,.int .i64 a0_2,.string a0_3] 69 (0,0)) (bs BK801)) : gb801 ≠ gb802));have n6_:=Aside0.mk ((by rw [hg];exact Nat.ne_of_gt (blk_lt (g:=gb801) (o:=.cells #[.int .i64 a0_0,.int .i64 a0_1,.int .i64 a0_2,.string a0_3] 69 (0,0)) (bs BK801)) : gb802 ≠ gb801));clear BK801;clear HB;have BK801:=n0_;have HB:=n1_;have BK802:=n2_;have GW802:=n3_;have GE802:=n4_;have NB801_802:=n5_;have NB802_801:=n6_;clear n0_ n1_ n2_ n3_ n4_ n5_ n6_;clear hb hbox hg;have hnb19:=NB801_802.out;have hnc19:=NB802_801.out;have hcz20_0 : w18.cell? ⟨gb801,0,none⟩ = some (.int .i64 a0_0):=(blk_cell BK801.out 0).trans rfl;have hcz20_1 : w18.cell? ⟨gb801,1,none⟩ = some (.int .i64 a0_1):=(blk_cell BK801.out 1).trans rfl;have hcz20_2 : w18.cell? ⟨gb801,2,none⟩ = some (.int .i64 a0_2):=(blk_cell BK801.out 2).trans rfl;have hcz20_3 : w18.cell? ⟨gb801,3,none⟩ = some (.string a0_3):=(blk_cell BK801.out 3).trans rfl;have hfz20_0:=blk_frozen BK801.out 0;have hfz20_1:=blk_frozen BK801.out 1;have hfz20_2:=blk_frozen BK801.out 2;have hfz20_3:=blk_frozen BK801.out 3;have hcz21_0 : w18.cell? ⟨gb802,0,none⟩ = some (.int .i64 a1_0):=(blk_cell BK802.out 0).trans rfl;have hcz21_1 : w18.cell? ⟨gb802,1,none⟩ = some (.int .i64 a1_1):=(blk_cell BK802.out 1).trans rfl;have hcz21_2 : w18.cell? ⟨gb802,2,none⟩ = some (.int .i64 a1_2):=(blk_cell BK802.out 2).trans rfl;have hcz21_3 : w18.cell? ⟨gb802,3,none⟩ = some (.string a1_3):=(blk_cell BK802.out 3).trans rfl;have hfz21_0:=blk_frozen BK802.out 0;have hfz21_1:=blk_frozen BK802.out 1;have hfz21_2:=blk_frozen BK802.out 2;have hfz21_3:=blk_frozen BK802.out 3))
   go_ret
   exact ⟨by first | rfl | (simp [errW_none,errW_some] <;> rfl) | (simp [*,errW_none,errW_some] <;> rfl),hs2 HB GE801 GE802⟩
  rw [if_neg c4] at H;have c4b0 : (a0_1 == a1_1) = false:=beq_eq_false_iff_ne.mpr c4;have c4b1 : (a0_1 != a1_1) = true:=bne_iff_ne.mpr c4;obtain rfl:=Option.some.inj H
  go_enter Try.func84,Try.ntmps84
  go_wp2_with (first | ((with_reducible refine gate_dst (N:=2) rfl ?_);refine box_event ?hg (N:=2) ?hd (cs:=#[.int .i64 a0_0,.int .i64 a0_1,.int .i64 a0_2,.string a0_3]) (t:=69) ?hr ?_;(case hd=>rfl);(case hg=>rfl);(case hr=>first | (go_simp;done) | (go_simp;rfl));intro gb801 hg w22 hbox hb;have n0_:=Aside0.mk (below_step (hs HB) hb);have n1_:=Aside0.mk (hbox);have n2_:=Aside0.mk ((by rw [hg];exact (below_size (hs HB)) : w.heap.size ≤ gb801));have n3_:=Aside0.mk ((by rw [hg];exact (below_size (hs HB)) : w.heap.size ≤ gb801));clear HB;have HB:=n0_;have BK801:=n1_;have GW801:=n2_;have GE801:=n3_;clear n0_ n1_ n2_ n3_;clear hb hbox hg) | ((with_reducible refine gate_dst (N:=3) rfl ?_);refine box_event ?hg (N:=3) ?hd (cs:=#[.int .i64 a1_0,.int .i64 a1_1,.int .i64 a1_2,.string a1_3]) (t:=69) ?hr ?_;(case hd=>rfl);(case hg=>rfl);(case hr=>first | (go_simp;done) | (go_simp;rfl));intro gb802 hg w23 hbox hb;have n0_:=Aside0.mk (blk_below (g:=gb801) (o:=.cells #[.int .i64 a0_0,.int .i64 a0_1,.int .i64 a0_2,.string a0_3] 69 (0,0)) (bs BK801) hb);have n1_:=Aside0.mk (below_step (hs1 HB GE801) hb);have n2_:=Aside0.mk (hbox);have n3_:=Aside0.mk ((by rw [hg];exact (below_size (hs1 HB GE801)) : w.heap.size ≤ gb802));have n4_:=Aside0.mk ((by rw [hg];exact (below_size (hs1 HB GE801)) : w.heap.size ≤ gb802));have n5_:=Aside0.mk ((by rw [hg];exact Nat.ne_of_lt (blk_lt (g:=gb801) (o:=.cells #[.int .i64 a0_0,.int .i64 a0_1,.int .i64 a0_2,.string a0_3] 69 (0,0)) (bs BK801)) : gb801 ≠ gb802));have n6_:=Aside0.mk ((by rw [hg];exact Nat.ne_of_gt (blk_lt (g:=gb801) (o:=.cells #[.int .i64 a0_0,.int .i64 a0_1,.int .i64 a0_2,.string a0_3] 69 (0,0)) (bs BK801)) : gb802 ≠ gb801));clear BK801;clear HB;have BK801:=n0_;have HB:=n1_;have BK802:=n2_;have GW802:=n3_;have GE802:=n4_;have NB801_802:=n5_;have NB802_801:=n6_;clear n0_ n1_ n2_ n3_ n4_ n5_ n6_;clear hb hbox hg;have hnb24:=NB801_802.out;have hnc24:=NB802_801.out;have hcz25_0 : w23.cell? ⟨gb801,0,none⟩ = some (.int .i64 a0_0):=(blk_cell BK801.out 0).trans rfl;have hcz25_1 : w23.cell? ⟨gb801,1,none⟩ = some (.int .i64 a0_1):=(blk_cell BK801.out 1).trans rfl;have hcz25_2 : w23.cell? ⟨gb801,2,none⟩ = some (.int .i64 a0_2):=(blk_cell BK801.out 2).trans rfl;have hcz25_3 : w23.cell? ⟨gb801,3,none⟩ = some (.string a0_3):=(blk_cell BK801.out 3).trans rfl;have hfz25_0:=blk_frozen BK801.out 0;have hfz25_1:=blk_frozen BK801.out 1;have hfz25_2:=blk_frozen BK801.out 2;have hfz25_3:=blk_frozen BK801.out 3;have hcz26_0 : w23.cell? ⟨gb802,0,none⟩ = some (.int .i64 a1_0):=(blk_cell BK802.out 0).trans rfl;have hcz26_1 : w23.cell? ⟨gb802,1,none⟩ = some (.int .i64 a1_1):=(blk_cell BK802.out 1).trans rfl;have hcz26_2 : w23.cell? ⟨gb802,2,none⟩ = some (.int .i64 a1_2):=(blk_cell BK802.out 2).trans rfl;have hcz26_3 : w23.cell? ⟨gb802,3,none⟩ = some (.string a1_3):=(blk_cell BK802.out 3).trans rfl;have hfz26_0:=blk_frozen BK802.out 0;have hfz26_1:=blk_frozen BK802.out 1;have hfz26_2:=blk_frozen BK802.out 2;have hfz26_3:=blk_frozen BK802.out 3))
  go_ret
  exact ⟨by first | rfl | (simp [errW_none,errW_some] <;> rfl) | (simp [*,errW_none,errW_some] <;> rfl),hs2 HB GE801 GE802⟩
 rw [if_neg c3] at H;have c3b0 : (a0_0 == a1_0) = false:=beq_eq_false_iff_ne.mpr c3;have c3b1 : (a0_0 != a1_0) = true:=bne_iff_ne.mpr c3;obtain rfl:=Option.some.inj H
 go_enter Try.func84,Try.ntmps84
 go_wp2_with (first | ((with_reducible refine gate_dst (N:=2) rfl ?_);refine box_event ?hg (N:=2) ?hd (cs:=#[.int .i64 a0_0,.int .i64 a0_1,.int .i64 a0_2,.string a0_3]) (t:=69) ?hr ?_;(case hd=>rfl);(case hg=>rfl);(case hr=>first | (go_simp;done) | (go_simp;rfl));intro gb801 hg w27 hbox hb;have n0_:=Aside0.mk (below_step (hs HB) hb);have n1_:=Aside0.mk (hbox);have n2_:=Aside0.mk ((by rw [hg];exact (below_size (hs HB)) : w.heap.size ≤ gb801));have n3_:=Aside0.mk ((by rw [hg];exact (below_size (hs HB)) : w.heap.size ≤ gb801));clear HB;have HB:=n0_;have BK801:=n1_;have GW801:=n2_;have GE801:=n3_;clear n0_ n1_ n2_ n3_;clear hb hbox hg) | ((with_reducible refine gate_dst (N:=3) rfl ?_);refine box_event ?hg (N:=3) ?hd (cs:=#[.int .i64 a1_0,.int .i64 a1_1,.int .i64 a1_2,.string a1_3]) (t:=69) ?hr ?_;(case hd=>rfl);(case hg=>rfl);(case hr=>first | (go_simp;done) | (go_simp;rfl));intro gb802 hg w28 hbox hb;have n0_:=Aside0.mk (blk_below (g:=gb801) (o:=.cells #[.int .i64 a0_0,.int .i64 a0_1,.int .i64 a0_2,.string a0_3] 69 (0,0)) (bs BK801) hb);have n1_:=Aside0.mk (below_step (hs1 HB GE801) hb);have n2_:=Aside0.mk (hbox);have n3_:=Aside0.mk ((by rw [hg];exact (below_size (hs1 HB GE801)) : w.heap.size ≤ gb802));have n4_:=Aside0.mk ((by rw [hg];exact (below_size (hs1 HB GE801)) : w.heap.size ≤ gb802));have n5_:=Aside0.mk ((by rw [hg];exact Nat.ne_of_lt (blk_lt (g:=gb801) (o:=.cells #[.int .i64 a0_0,.int .i64 a0_1,.int .i64 a0_2,.string a0_3] 69 (0,0)) (bs BK801)) : gb801 ≠ gb802));have n6_:=Aside0.mk ((by rw [hg];exact Nat.ne_of_gt (blk_lt (g:=gb801) (o:=.cells #[.int .i64 a0_0,.int .i64 a0_1,.int .i64 a0_2,.string a0_3] 69 (0,0)) (bs BK801)) : gb802 ≠ gb801));clear BK801;clear HB;have BK801:=n0_;have HB:=n1_;have BK802:=n2_;have GW802:=n3_;have GE802:=n4_;have NB801_802:=n5_;have NB802_801:=n6_;clear n0_ n1_ n2_ n3_ n4_ n5_ n6_;clear hb hbox hg;have hnb29:=NB801_802.out;have hnc29:=NB802_801.out;have hcz30_0 : w28.cell? ⟨gb801,0,none⟩ = some (.int .i64 a0_0):=(blk_cell BK801.out 0).trans rfl;have hcz30_1 : w28.cell? ⟨gb801,1,none⟩ = some (.int .i64 a0_1):=(blk_cell BK801.out 1).trans rfl;have hcz30_2 : w28.cell? ⟨gb801,2,none⟩ = some (.int .i64 a0_2):=(blk_cell BK801.out 2).trans rfl;have hcz30_3 : w28.cell? ⟨gb801,3,none⟩ = some (.string a0_3):=(blk_cell BK801.out 3).trans rfl;have hfz30_0:=blk_frozen BK801.out 0;have hfz30_1:=blk_frozen BK801.out 1;have hfz30_2:=blk_frozen BK801.out 2;have hfz30_3:=blk_frozen BK801.out 3;have hcz31_0 : w28.cell? ⟨gb802,0,none⟩ = some (.int .i64 a1_0):=(blk_cell BK802.out 0).trans rfl;have hcz31_1 : w28.cell? ⟨gb802,1,none⟩ = some (.int .i64 a1_1):=(blk_cell BK802.out 1).trans rfl;have hcz31_2 : w28.cell? ⟨gb802,2,none⟩ = some (.int .i64 a1_2):=(blk_cell BK802.out 2).trans rfl;have hcz31_3 : w28.cell? ⟨gb802,3,none⟩ = some (.string a1_3):=(blk_cell BK802.out 3).trans rfl;have hfz31_0:=blk_frozen BK802.out 0;have hfz31_1:=blk_frozen BK802.out 1;have hfz31_2:=blk_frozen BK802.out 2;have hfz31_3:=blk_frozen BK802.out 3))
 go_ret
 exact ⟨by first | rfl | (simp [errW_none,errW_some] <;> rfl) | (simp [*,errW_none,errW_some] <;> rfl),hs2 HB GE801 GE802⟩
end Go.Proofs.Ytijbejiajaiciaa.PC

namespace Go.Proofs.Ytijbejiajaiciaa.PC
open Go.RowKit Go.Proofs.YtijbejiajaiciaaW.PrintWords Go.Proofs.YtijbejiajaiciaaW.PrintLast Go.Proofs.YtijbejiajaiciaaW.PrintMore
attribute [local go_sem] max2_int min2_int max_two min_two max_three min_three max_four min_four   -- for this text's walks alone
set_option linter.unusedVariables false
set_option linter.unusedSimpArgs false
def laws_eqStepS.l0 : Nat → List (S69) → List (S69) → Int → Option (Bool)
 | 0,_,_,_=>none
 | k + 1,x0,x1,x5=>if x5 < (x0.length : Int) then (if 0 ≤ x5 then (if x5 < (x1.length : Int) then ((laws_eqStep.f ((rd_T69 x0 x5).f0) ((rd_T69 x0 x5).f1) ((rd_T69 x0 x5).f2) ((rd_T69 x0 x5).f3) ((rd_T69 x1 x5).f0) ((rd_T69 x1 x5).f1) ((rd_T69 x1 x5).f2) ((rd_T69 x1 x5).f3)).bind fun t805=>(if t805 = true then (laws_eqStepS.l0 k x0 x1 (wrap64 (x5 + 1))) else (some false))) else (none)) else (none)) else (some true)
def laws_eqStepS.f (k : Nat) (l0 : List (S69)) (l1 : List (S69)) : Option (Bool):=if (l0.length : Int) = (l1.length : Int) then (laws_eqStepS.l0 k l0 l1 0) else (some false)
theorem laws_eqStepS.mono_l : ∀ k,(∀ y0 y1 y2,LeO (laws_eqStepS.l0 k y0 y1 y2) (laws_eqStepS.l0 (k + 1) y0 y1 y2))
 | 0=>fun _ _ _ r h=>by simp [laws_eqStepS.l0] at h
 | k + 1=>by
  have ih0:=laws_eqStepS.mono_l k;intro y0 y1 y2;unfold laws_eqStepS.l0
  repeat' first
  | (with_reducible exact ih0 _ _ _)
  | (with_reducible exact LeO.refl _)
  | (with_reducible exact LeO.none _)
  | (with_reducible refine LeO.ite ?_ ?_)
  | (with_reducible refine LeO.bind ?_ (fun _=>?_))
  | exact ih0 _ _ _
  | exact LeO.none _
  | refine LeO.ite ?_ ?_
  | refine LeO.bind ?_ (fun _=>?_)
theorem laws_eqStepS.mono : ∀ a0 a1 k,LeO (laws_eqStepS.f k a0 a1) (laws_eqStepS.f (k + 1) a0 a1):=by
 intro a0 a1 k;have ih0:=laws_eqStepS.mono_l k;unfold laws_eqStepS.f
 repeat' first
   | (with_reducible exact ih0 _ _ _)
   | (with_reducible exact LeO.refl _)
   | (with_reducible exact LeO.none _)
   | (with_reducible refine LeO.ite ?_ ?_)
   | (with_reducible refine LeO.bind ?_ (fun _=>?_))
   | exact ih0 _ _ _
   | exact LeO.none _
   | refine LeO.ite ?_ ?_
   | refine LeO.bind ?_ (fun _=>?_)
def laws_eqStepS.T6 : Bool × List (List Nat × List Nat):=(true,[([],[]),([],[]),([0,1],[0,1]),([2],[2]),([],[]),([],[]),([4,5],[4,5]),([6],[6]),([3,7],[3,7]),([8],[8])])
def laws_eqStepS.B6 : List Nat:=[0,0,3,7,0,0,48,112,255,511]
theorem laws_eqStepS.tab6 : rtab .any (opsOf Try.f53 6) = laws_eqStepS.T6:=by kernel_rfl
theorem laws_eqStepS.bits6 : waitsOk laws_eqStepS.T6.2 laws_eqStepS.B6 = true:=by kernel_rfl
set_option maxHeartbeats 8000000 in
set_option maxRecDepth 100000 in
theorem laws_eqStepS.calls (k : Nat) (A0 : Option Addr) (c0 : Nat) (l0 : List (S69)) (A1 : Option Addr) (c1 : Nat) (l1 : List (S69)) (r : Bool) (w : World) (hr0 : Kd.C k69 w A0 l0.length l0) (hc0 : l0.length ≤ c0) (hr1 : Kd.C k69 w A1 l1.length l1) (hc1 : l1.length ≤ c1) (h : laws_eqStepS.f k l0 l1 = some r) :
  Calls Try.prog 53 #[.slice A0 l0.length c0,.slice A1 l1.length c1] w fun e w'=>e = .returned (.bool r) ∧ Below w.heap.size w w':=by
 have hu69:=Try.underlying69;have HR0:=Aside0.mk hr0;have HC0:=Aside0.mk hc0;clear hr0 hc0;have HR1:=Aside0.mk hr1;have HC1:=Aside0.mk hc1;clear hr1 hc1;have HB:=Aside0.mk (Below.refl w.heap.size w);have H : (if (l0.length : Int) = (l1.length : Int) then (laws_eqStepS.l0 k l0 l1 0) else (some false)) = some r:=h;clear h
 by_cases c3 : (l0.length : Int) = (l1.length : Int)
 ·rw [if_pos c3] at H;have c3b0 : ((l0.length : Int) == (l1.length : Int)) = true:=beq_iff_eq.mpr c3;have c3b1 : ((l0.length : Int) != (l1.length : Int)) = false:=bne_eq_false_iff_eq.mpr c3;have c3b2 : (l0.length == l1.length) = true:=by first | simpa using c3 | (simp at c3 ⊢;omega)
  clear c3;have H':=Aside0.mk H;clear H
  go_enter Try.func53,Try.ntmps53
  go_wp2
  go_loopg [5] k (fun kq v5 w'=>∃ (x5_1 : Int),v5 = .int .i64 x5_1 ∧ Aside0 (laws_eqStepS.l0 kq l0 l1 x5_1 = some r) ∧ Aside0 (kq ≤ k) ∧ Aside0 (Below w.heap.size w w'));case atStart=>exact ⟨(0),(by first | rfl | (simp;done) | (simp [*];done)),H',⟨Nat.le_refl _⟩,⟨hs HB⟩⟩
  case round =>
   clear H'
   try clear c1
   try clear p2
   try clear c3
   try clear c3b0
   try clear c3b1
   try clear c3b2
   obtain ⟨x5_1,rfl,HA,HK1,HB⟩:=hrel;cases gk with
   | zero=>exact absurd HA.out (by simp [laws_eqStepS.l0])
   | succ k1 =>
    have H:=HA.out;clear HA;simp only [laws_eqStepS.l0] at H
    by_cases c4 : x5_1 < (l0.length : Int)
    ·rw [if_pos c4] at H;have c4b0 : decide (x5_1 < (l0.length : Int)) = true:=decide_eq_true c4;clear c4
     by_cases c5 : 0 ≤ x5_1
     ·rw [if_pos c5] at H;have c5b0 : decide (0 ≤ x5_1) = true:=decide_eq_true c5;clear c5
      by_cases c6 : x5_1 < (l1.length : Int)
      ·rw [if_pos c6] at H;have c6b0 : decide (x5_1 < (l1.length : Int)) = true:=decide_eq_true c6;clear c6;replace H:=Option.bind_eq_some_iff.mp H;obtain ⟨t805,A70,H⟩:=H;replace H : (if t805 = true then (laws_eqStepS.l0 k1 l0 l1 (wrap64 (x5_1 + 1))) else (some false)) = some r:=H;have A7:=Aside0.mk A70;clear A70
       by_cases c8 : t805 = true
       ·subst c8;have H1 : (laws_eqStepS.l0 k1 l0 l1 (wrap64 (x5_1 + 1))) = some r:=by rw [if_pos rfl] at H;exact H
        clear H;have H:=H1;clear H1;have H':=Aside0.mk H;clear H
        try go_wp2
        have n0_:=Aside0.mk (below_drew1 HB.out);clear HB;have HB:=n0_;clear n0_;have p803 : 0 ≤ (x5_1 : Int):=of_decide_eq_true (by first | (with_reducible assumption) | assumption);have q803 : x5_1 < (l0.length : Int):=of_decide_eq_true (by first | (with_reducible assumption) | assumption);obtain ⟨ad803,e803,hx803_0,hx803_1,hx803_2,hx803_3⟩:=at_T69 HR0.out x5_1 p803 q803;have hw803_3:=hx803_3;have hw803_2:=hx803_2;have hw803_1:=hx803_1;have hw803_0:=hx803_0;cases e803;replace hx803_0:=(HB.out.cell (World.block_lt_of_cell? w _ hx803_0)).trans hx803_0;replace hx803_1:=(HB.out.cell (World.block_lt_of_cell? w _ hx803_1)).trans hx803_1;replace hx803_2:=(HB.out.cell (World.block_lt_of_cell? w _ hx803_2)).trans hx803_2;replace hx803_3:=(HB.out.cell (World.block_lt_of_cell? w _ hx803_3)).trans hx803_3;replace p803:=eq_true p803;replace q803:=eq_true q803;have p804 : 0 ≤ (x5_1 : Int):=of_decide_eq_true (by first | (with_reducible assumption) | assumption);have q804 : x5_1 < (l1.length : Int):=of_decide_eq_true (by first | (with_reducible assumption) | assumption);obtain ⟨ad804,e804,hx804_0,hx804_1,hx804_2,hx804_3⟩:=at_T69 HR1.out x5_1 p804 q804;have hw804_3:=hx804_3;have hw804_2:=hx804_2;have hw804_1:=hx804_1;have hw804_0:=hx804_0;cases e804;replace hx804_0:=(HB.out.cell (World.block_lt_of_cell? w _ hx804_0)).trans hx804_0;replace hx804_1:=(HB.out.cell (World.block_lt_of_cell? w _ hx804_1)).trans hx804_1;replace hx804_2:=(HB.out.cell (World.block_lt_of_cell? w _ hx804_2)).trans hx804_2;replace hx804_3:=(HB.out.cell (World.block_lt_of_cell? w _ hx804_3)).trans hx804_3;replace p804:=eq_true p804;replace q804:=eq_true q804;refine start_ (n:=10) (S:=fun w'=>w'.cell? (ad803.add ((x5_1).toNat * 4)) = some (.int .i64 ((rd_T69 l0 x5_1).f0)) ∧ w'.cell? ⟨(ad803.add ((x5_1).toNat * 4)).block,(ad803.add ((x5_1).toNat * 4)).off + 1,none⟩ = some (.int .i64 ((rd_T69 l0 x5_1).f1)) ∧ w'.cell? ⟨(ad803.add ((x5_1).toNat * 4)).block,(ad803.add ((x5_1).toNat * 4)).off + 2,none⟩ = some (.int .i64 ((rd_T69 l0 x5_1).f2)) ∧ w'.cell? ⟨(ad803.add ((x5_1).toNat * 4)).block,(ad803.add ((x5_1).toNat * 4)).off + 3,none⟩ = some (.string ((rd_T69 l0 x5_1).f3)) ∧ w'.cell? (ad804.add ((x5_1).toNat * 4)) = some (.int .i64 ((rd_T69 l1 x5_1).f0)) ∧ w'.cell? ⟨(ad804.add ((x5_1).toNat * 4)).block,(ad804.add ((x5_1).toNat * 4)).off + 1,none⟩ = some (.int .i64 ((rd_T69 l1 x5_1).f1)) ∧ w'.cell? ⟨(ad804.add ((x5_1).toNat * 4)).block,(ad804.add ((x5_1).toNat * 4)).off + 2,none⟩ = some (.int .i64 ((rd_T69 l1 x5_1).f2)) ∧ w'.cell? ⟨(ad804.add ((x5_1).toNat * 4)).block,(ad804.add ((x5_1).toNat * 4)).off + 3,none⟩ = some (.string ((rd_T69 l1 x5_1).f3))) (ds:=[]) #[false,false,false,false,false,false,false,false,false,false] (by kernel_rfl) rfl rfl ⟨((HB.out.cell (World.block_lt_of_cell? w _ hw803_0)).trans hw803_0),((HB.out.cell (World.block_lt_of_cell? w _ hw803_1)).trans hw803_1),((HB.out.cell (World.block_lt_of_cell? w _ hw803_2)).trans hw803_2),((HB.out.cell (World.block_lt_of_cell? w _ hw803_3)).trans hw803_3),((HB.out.cell (World.block_lt_of_cell? w _ hw804_0)).trans hw804_0),((HB.out.cell (World.block_lt_of_cell? w _ hw804_1)).trans hw804_1),((HB.out.cell (World.block_lt_of_cell? w _ hw804_2)).trans hw804_2),((HB.out.cell (World.block_lt_of_cell? w _ hw804_3)).trans hw804_3)⟩ (fun hHeld=>?_);refine with_tabW laws_eqStepS.tab6 laws_eqStepS.bits6 (fun HT_ HW_=>?_);generalize wr.drew = w9 at HB hx803_0 hx803_1 hx803_2 hx803_3 hx804_0 hx804_1 hx804_2 hx804_3 hHeld ⊢;refine pure_ (i:=0) (N:=some 17) (v:=?_) (a':=?_) #[true,false,false,false,false,false,false,false,false,false] rfl rfl (any_of HT_.out (by kernel_rfl)) (fun _ _ _ h=>h) (Or.inl ⟨by rfl,?_⟩) ?_ ?_;rotate_left
        ·intro w';go_simp;with_reducible rfl
        rotate_left
        ·simp only [Act.put,List.setIfInBounds_toArray,List.set_cons_zero,List.set_cons_succ,i64_w,i32_w];rfl
        refine pure_ (i:=1) (N:=some 18) (v:=?_) (a':=?_) #[true,true,false,false,false,false,false,false,false,false] rfl rfl (any_of HT_.out (by kernel_rfl)) (fun _ _ _ h=>h) (Or.inl ⟨by rfl,?_⟩) ?_ ?_;rotate_left
        ·intro w';go_simp;with_reducible rfl
        rotate_left
        ·simp only [Act.put,List.setIfInBounds_toArray,List.set_cons_zero,List.set_cons_succ,i64_w,i32_w];rfl
        refine pure_ (i:=2) (N:=some 19) (v:=?_) (a':=?_) #[true,true,true,false,false,false,false,false,false,false] rfl rfl (any_of HT_.out (by kernel_rfl)) (fun _ _ _ h=>h) (Or.inl ⟨by rfl,?_⟩) ?_ ?_;rotate_left
        ·intro w';go_simp;with_reducible rfl
        rotate_left
        ·simp only [Act.put,List.setIfInBounds_toArray,List.set_cons_zero,List.set_cons_succ,i64_w,i32_w];rfl
        refine pure_ (i:=4) (N:=some 21) (v:=?_) (a':=?_) #[true,true,true,false,true,false,false,false,false,false] rfl rfl (any_of HT_.out (by kernel_rfl)) (fun _ _ _ h=>h) (Or.inl ⟨by rfl,?_⟩) ?_ ?_;rotate_left
        ·intro w';go_simp;with_reducible rfl
        rotate_left
        ·simp only [Act.put,List.setIfInBounds_toArray,List.set_cons_zero,List.set_cons_succ,i64_w,i32_w];rfl
        refine pure_ (i:=5) (N:=some 22) (v:=?_) (a':=?_) #[true,true,true,false,true,true,false,false,false,false] rfl rfl (any_of HT_.out (by kernel_rfl)) (fun _ _ _ h=>h) (Or.inl ⟨by rfl,?_⟩) ?_ ?_;rotate_left
        ·intro w';go_simp;with_reducible rfl
        rotate_left
        ·simp only [Act.put,List.setIfInBounds_toArray,List.set_cons_zero,List.set_cons_succ,i64_w,i32_w];rfl
        refine pure_ (i:=6) (N:=some 23) (v:=?_) (a':=?_) #[true,true,true,false,true,true,true,false,false,false] rfl rfl (any_of HT_.out (by kernel_rfl)) (fun _ _ _ h=>h) (Or.inl ⟨by rfl,?_⟩) ?_ ?_;rotate_left
        ·intro w';go_simp;with_reducible rfl
        rotate_left
        ·simp only [Act.put,List.setIfInBounds_toArray,List.set_cons_zero,List.set_cons_succ,i64_w,i32_w];rfl
        refine take_ (i:=3) (N:=some 20) (v:=?_) (a':=?_) #[true,true,true,true,true,true,true,false,false,false] rfl rfl (take_ofW HT_.out HW_.out (by kernel_rfl)) (fun _ _ _ h=>h) (Or.inl ⟨by rfl,?_⟩) hHeld ?_ ?_;rotate_left
        ·rintro w' ⟨s0,s1,s2,s3,s4,s5,s6,s7⟩;go_simp;with_reducible rfl
        rotate_left
        ·simp only [Act.put,List.setIfInBounds_toArray,List.set_cons_zero,List.set_cons_succ,i64_w,i32_w];rfl
        refine take_ (i:=7) (N:=some 24) (v:=?_) (a':=?_) #[true,true,true,true,true,true,true,true,false,false] rfl rfl (take_ofW HT_.out HW_.out (by kernel_rfl)) (fun _ _ _ h=>h) (Or.inl ⟨by rfl,?_⟩) hHeld ?_ ?_;rotate_left
        ·rintro w' ⟨s0,s1,s2,s3,s4,s5,s6,s7⟩;go_simp;with_reducible rfl
        rotate_left
        ·simp only [Act.put,List.setIfInBounds_toArray,List.set_cons_zero,List.set_cons_succ,i64_w,i32_w];rfl
        refine one_ (i:=8) (N:=some 25) #[true,true,true,true,true,true,true,true,true,false] rfl rfl (one_of HT_.out (by kernel_rfl)) (by decide) (fun K hK=>?_);refine goes_ Try.func84 (by kernel_rfl) rfl #[.agg #[.int .i64 ((rd_T69 l0 x5_1).f0),.int .i64 ((rd_T69 l0 x5_1).f1),.int .i64 ((rd_T69 l0 x5_1).f2),.string ((rd_T69 l0 x5_1).f3)],.agg #[.int .i64 ((rd_T69 l1 x5_1).f0),.int .i64 ((rd_T69 l1 x5_1).f1),.int .i64 ((rd_T69 l1 x5_1).f2),.string ((rd_T69 l1 x5_1).f3)]] (by rfl) rfl rfl (by (try simp only [List.map_toArray,List.map_cons,List.map_nil]);first | done | rfl | (simp only [List.length_drop,List.length_take];rfl)) ?_;with_reducible refine (laws_eqStep.calls ((rd_T69 l0 x5_1).f0) ((rd_T69 l0 x5_1).f1) ((rd_T69 l0 x5_1).f2) ((rd_T69 l0 x5_1).f3) ((rd_T69 l1 x5_1).f0) ((rd_T69 l1 x5_1).f1) ((rd_T69 l1 x5_1).f2) ((rd_T69 l1 x5_1).f3) true _ A7.out).mono ?_
        rintro e w10 ⟨rfl,hb⟩;refine ⟨_,rfl,?_⟩;have n0_:=Aside0.mk (below_step (hs HB) hb);clear HB;have HB:=n0_;clear n0_
        (try clear hb)
        (try clear hb2)
        (try clear hk)
        (try clear hi)
        refine hK.out _ _ ⟨((HB.out.cell (World.block_lt_of_cell? w _ hw803_0)).trans hw803_0),((HB.out.cell (World.block_lt_of_cell? w _ hw803_1)).trans hw803_1),((HB.out.cell (World.block_lt_of_cell? w _ hw803_2)).trans hw803_2),((HB.out.cell (World.block_lt_of_cell? w _ hw803_3)).trans hw803_3),((HB.out.cell (World.block_lt_of_cell? w _ hw804_0)).trans hw804_0),((HB.out.cell (World.block_lt_of_cell? w _ hw804_1)).trans hw804_1),((HB.out.cell (World.block_lt_of_cell? w _ hw804_2)).trans hw804_2),((HB.out.cell (World.block_lt_of_cell? w _ hw804_3)).trans hw804_3)⟩ (fun hHeld=>?_);clear hK K;refine norm_ (a':=?_) ?_ ?_;rotate_left
        ·show Act.put _ (some 25) _ = _;simp only [Act.put,List.setIfInBounds_toArray,List.set_cons_zero,List.set_cons_succ,i64_w,i32_w];rfl
        refine pure_ (i:=9) (N:=some 26) (v:=?_) (a':=?_) #[true,true,true,true,true,true,true,true,true,true] rfl rfl (any_of HT_.out (by kernel_rfl)) (fun _ _ _ h=>h) (Or.inl ⟨by rfl,?_⟩) ?_ ?_;rotate_left
        ·intro w';go_simp;with_reducible rfl
        rotate_left
        ·simp only [Act.put,List.setIfInBounds_toArray,List.set_cons_zero,List.set_cons_succ,i64_w,i32_w];rfl
        refine done_ (done_of HT_.out (by kernel_rfl)) ?_
        try go_wp2
        go_roundg k1;case measure=>have:=HK1.out;omega
        case rel=>exact ⟨(wrap64 (x5_1 + 1)),(by first | rfl | (simp;done) | (simp [*];done)),H',⟨by have:=HK1.out;omega⟩,⟨hs HB⟩⟩
       replace c8:=Bool.eq_false_iff.mpr c8;subst c8;have H1 : (some false) = some r:=by rw [if_neg (show ¬ (false = true) by decide)] at H;exact H
       clear H;have H:=H1;clear H1;obtain rfl:=Option.some.inj H
       try go_wp2
       have n0_:=Aside0.mk (below_drew1 HB.out);clear HB;have HB:=n0_;clear n0_;have p803 : 0 ≤ (x5_1 : Int):=of_decide_eq_true (by first | (with_reducible assumption) | assumption);have q803 : x5_1 < (l0.length : Int):=of_decide_eq_true (by first | (with_reducible assumption) | assumption);obtain ⟨ad803,e803,hx803_0,hx803_1,hx803_2,hx803_3⟩:=at_T69 HR0.out x5_1 p803 q803;have hw803_3:=hx803_3;have hw803_2:=hx803_2;have hw803_1:=hx803_1;have hw803_0:=hx803_0;cases e803;replace hx803_0:=(HB.out.cell (World.block_lt_of_cell? w _ hx803_0)).trans hx803_0;replace hx803_1:=(HB.out.cell (World.block_lt_of_cell? w _ hx803_1)).trans hx803_1;replace hx803_2:=(HB.out.cell (World.block_lt_of_cell? w _ hx803_2)).trans hx803_2;replace hx803_3:=(HB.out.cell (World.block_lt_of_cell? w _ hx803_3)).trans hx803_3;replace p803:=eq_true p803;replace q803:=eq_true q803;have p804 : 0 ≤ (x5_1 : Int):=of_decide_eq_true (by first | (with_reducible assumption) | assumption);have q804 : x5_1 < (l1.length : Int):=of_decide_eq_true (by first | (with_reducible assumption) | assumption);obtain ⟨ad804,e804,hx804_0,hx804_1,hx804_2,hx804_3⟩:=at_T69 HR1.out x5_1 p804 q804;have hw804_3:=hx804_3;have hw804_2:=hx804_2;have hw804_1:=hx804_1;have hw804_0:=hx804_0;cases e804;replace hx804_0:=(HB.out.cell (World.block_lt_of_cell? w _ hx804_0)).trans hx804_0;replace hx804_1:=(HB.out.cell (World.block_lt_of_cell? w _ hx804_1)).trans hx804_1;replace hx804_2:=(HB.out.cell (World.block_lt_of_cell? w _ hx804_2)).trans hx804_2;replace hx804_3:=(HB.out.cell (World.block_lt_of_cell? w _ hx804_3)).trans hx804_3;replace p804:=eq_true p804;replace q804:=eq_true q804;refine start_ (n:=10) (S:=fun w'=>w'.cell? (ad803.add ((x5_1).toNat * 4)) = some (.int .i64 ((rd_T69 l0 x5_1).f0)) ∧ w'.cell? ⟨(ad803.add ((x5_1).toNat * 4)).block,(ad803.add ((x5_1).toNat * 4)).off + 1,none⟩ = some (.int .i64 ((rd_T69 l0 x5_1).f1)) ∧ w'.cell? ⟨(ad803.add ((x5_1).toNat * 4)).block,(ad803.add ((x5_1).toNat * 4)).off + 2,none⟩ = some (.int .i64 ((rd_T69 l0 x5_1).f2)) ∧ w'.cell? ⟨(ad803.add ((x5_1).toNat * 4)).block,(ad803.add ((x5_1).toNat * 4)).off + 3,none⟩ = some (.string ((rd_T69 l0 x5_1).f3)) ∧ w'.cell? (ad804.add ((x5_1).toNat * 4)) = some (.int .i64 ((rd_T69 l1 x5_1).f0)) ∧ w'.cell? ⟨(ad804.add ((x5_1).toNat * 4)).block,(ad804.add ((x5_1).toNat * 4)).off + 1,none⟩ = some (.int .i64 ((rd_T69 l1 x5_1).f1)) ∧ w'.cell? ⟨(ad804.add ((x5_1).toNat * 4)).block,(ad804.add ((x5_1).toNat * 4)).off + 2,none⟩ = some (.int .i64 ((rd_T69 l1 x5_1).f2)) ∧ w'.cell? ⟨(ad804.add ((x5_1).toNat * 4)).block,(ad804.add ((x5_1).toNat * 4)).off + 3,none⟩ = some (.string ((rd_T69 l1 x5_1).f3))) (ds:=[]) #[false,false,false,false,false,false,false,false,false,false] (by kernel_rfl) rfl rfl ⟨((HB.out.cell (World.block_lt_of_cell? w _ hw803_0)).trans hw803_0),((HB.out.cell (World.block_lt_of_cell? w _ hw803_1)).trans hw803_1),((HB.out.cell (World.block_lt_of_cell? w _ hw803_2)).trans hw803_2),((HB.out.cell (World.block_lt_of_cell? w _ hw803_3)).trans hw803_3),((HB.out.cell (World.block_lt_of_cell? w _ hw804_0)).trans hw804_0),((HB.out.cell (World.block_lt_of_cell? w _ hw804_1)).trans hw804_1),((HB.out.cell (World.block_lt_of_cell? w _ hw804_2)).trans hw804_2),((HB.out.cell (World.block_lt_of_cell? w _ hw804_3)).trans hw804_3)⟩ (fun hHeld=>?_);refine with_tabW laws_eqStepS.tab6 laws_eqStepS.bits6 (fun HT_ HW_=>?_);generalize wr.drew = w11 at HB hx803_0 hx803_1 hx803_2 hx803_3 hx804_0 hx804_1 hx804_2 hx804_3 hHeld ⊢;refine pure_ (i:=0) (N:=some 17) (v:=?_) (a':=?_) #[true,false,false,false,false,false,false,false,false,false] rfl rfl (any_of HT_.out (by kernel_rfl)) (fun _ _ _ h=>h) (Or.inl ⟨by rfl,?_⟩) ?_ ?_;rotate_left
       ·intro w';go_simp;with_reducible rfl
       rotate_left
       ·simp only [Act.put,List.setIfInBounds_toArray,List.set_cons_zero,List.set_cons_succ,i64_w,i32_w];rfl
       refine pure_ (i:=1) (N:=some 18) (v:=?_) (a':=?_) #[true,true,false,false,false,false,false,false,false,false] rfl rfl (any_of HT_.out (by kernel_rfl)) (fun _ _ _ h=>h) (Or.inl ⟨by rfl,?_⟩) ?_ ?_;rotate_left
       ·intro w';go_simp;with_reducible rfl
       rotate_left
       ·simp only [Act.put,List.setIfInBounds_toArray,List.set_cons_zero,List.set_cons_succ,i64_w,i32_w];rfl
       refine pure_ (i:=2) (N:=some 19) (v:=?_) (a':=?_) #[true,true,true,false,false,false,false,false,false,false] rfl rfl (any_of HT_.out (by kernel_rfl)) (fun _ _ _ h=>h) (Or.inl ⟨by rfl,?_⟩) ?_ ?_;rotate_left
       ·intro w';go_simp;with_reducible rfl
       rotate_left
       ·simp only [Act.put,List.setIfInBounds_toArray,List.set_cons_zero,List.set_cons_succ,i64_w,i32_w];rfl
       refine pure_ (i:=4) (N:=some 21) (v:=?_) (a':=?_) #[true,true,true,false,true,false,false,false,false,false] rfl rfl (any_of HT_.out (by kernel_rfl)) (fun _ _ _ h=>h) (Or.inl ⟨by rfl,?_⟩) ?_ ?_;rotate_left
       ·intro w';go_simp;with_reducible rfl
       rotate_left
       ·simp only [Act.put,List.setIfInBounds_toArray,List.set_cons_zero,List.set_cons_succ,i64_w,i32_w];rfl
       refine pure_ (i:=5) (N:=some 22) (v:=?_) (a':=?_) #[true,true,true,false,true,true,false,false,false,false] rfl rfl (any_of HT_.out (by kernel_rfl)) (fun _ _ _ h=>h) (Or.inl ⟨by rfl,?_⟩) ?_ ?_;rotate_left
       ·intro w';go_simp;with_reducible rfl
       rotate_left
       ·simp only [Act.put,List.setIfInBounds_toArray,List.set_cons_zero,List.set_cons_succ,i64_w,i32_w];rfl
       refine pure_ (i:=6) (N:=some 23) (v:=?_) (a':=?_) #[true,true,true,false,true,true,true,false,false,false] rfl rfl (any_of HT_.out (by kernel_rfl)) (fun _ _ _ h=>h) (Or.inl ⟨by rfl,?_⟩) ?_ ?_;rotate_left
       ·intro w';go_simp;with_reducible rfl
       rotate_left
       ·simp only [Act.put,List.setIfInBounds_toArray,List.set_cons_zero,List.set_cons_succ,i64_w,i32_w];rfl
       refine take_ (i:=3) (N:=some 20) (v:=?_) (a':=?_) #[true,true,true,true,true,true,true,false,false,false] rfl rfl (take_ofW HT_.out HW_.out (by kernel_rfl)) (fun _ _ _ h=>h) (Or.inl ⟨by rfl,?_⟩) hHeld ?_ ?_;rotate_left
       ·rintro w' ⟨s0,s1,s2,s3,s4,s5,s6,s7⟩;go_simp;with_reducible rfl
       rotate_left
       ·simp only [Act.put,List.setIfInBounds_toArray,List.set_cons_zero,List.set_cons_succ,i64_w,i32_w];rfl
       refine take_ (i:=7) (N:=some 24) (v:=?_) (a':=?_) #[true,true,true,true,true,true,true,true,false,false] rfl rfl (take_ofW HT_.out HW_.out (by kernel_rfl)) (fun _ _ _ h=>h) (Or.inl ⟨by rfl,?_⟩) hHeld ?_ ?_;rotate_left
       ·rintro w' ⟨s0,s1,s2,s3,s4,s5,s6,s7⟩;go_simp;with_reducible rfl
       rotate_left
       ·simp only [Act.put,List.setIfInBounds_toArray,List.set_cons_zero,List.set_cons_succ,i64_w,i32_w];rfl
       refine one_ (i:=8) (N:=some 25) #[true,true,true,true,true,true,true,true,true,false] rfl rfl (one_of HT_.out (by kernel_rfl)) (by decide) (fun K hK=>?_);refine goes_ Try.func84 (by kernel_rfl) rfl #[.agg #[.int .i64 ((rd_T69 l0 x5_1).f0),.int .i64 ((rd_T69 l0 x5_1).f1),.int .i64 ((rd_T69 l0 x5_1).f2),.string ((rd_T69 l0 x5_1).f3)],.agg #[.int .i64 ((rd_T69 l1 x5_1).f0),.int .i64 ((rd_T69 l1 x5_1).f1),.int .i64 ((rd_T69 l1 x5_1).f2),.string ((rd_T69 l1 x5_1).f3)]] (by rfl) rfl rfl (by (try simp only [List.map_toArray,List.map_cons,List.map_nil]);first | done | rfl | (simp only [List.length_drop,List.length_take];rfl)) ?_;with_reducible refine (laws_eqStep.calls ((rd_T69 l0 x5_1).f0) ((rd_T69 l0 x5_1).f1) ((rd_T69 l0 x5_1).f2) ((rd_T69 l0 x5_1).f3) ((rd_T69 l1 x5_1).f0) ((rd_T69 l1 x5_1).f1) ((rd_T69 l1 x5_1).f2) ((rd_T69 l1 x5_1).f3) false _ A7.out).mono ?_
       rintro e w12 ⟨rfl,hb⟩;refine ⟨_,rfl,?_⟩;have n0_:=Aside0.mk (below_step (hs HB) hb);clear HB;have HB:=n0_;clear n0_
       (try clear hb)
       (try clear hb2)
       (try clear hk)
       (try clear hi)
       refine hK.out _ _ ⟨((HB.out.cell (World.block_lt_of_cell? w _ hw803_0)).trans hw803_0),((HB.out.cell (World.block_lt_of_cell? w _ hw803_1)).trans hw803_1),((HB.out.cell (World.block_lt_of_cell? w _ hw803_2)).trans hw803_2),((HB.out.cell (World.block_lt_of_cell? w _ hw803_3)).trans hw803_3),((HB.out.cell (World.block_lt_of_cell? w _ hw804_0)).trans hw804_0),((HB.out.cell (World.block_lt_of_cell? w _ hw804_1)).trans hw804_1),((HB.out.cell (World.block_lt_of_cell? w _ hw804_2)).trans hw804_2),((HB.out.cell (World.block_lt_of_cell? w _ hw804_3)).trans hw804_3)⟩ (fun hHeld=>?_);clear hK K;refine norm_ (a':=?_) ?_ ?_;rotate_left
       ·show Act.put _ (some 25) _ = _;simp only [Act.put,List.setIfInBounds_toArray,List.set_cons_zero,List.set_cons_succ,i64_w,i32_w];rfl
       refine pure_ (i:=9) (N:=some 26) (v:=?_) (a':=?_) #[true,true,true,true,true,true,true,true,true,true] rfl rfl (any_of HT_.out (by kernel_rfl)) (fun _ _ _ h=>h) (Or.inl ⟨by rfl,?_⟩) ?_ ?_;rotate_left
       ·intro w';go_simp;with_reducible rfl
       rotate_left
       ·simp only [Act.put,List.setIfInBounds_toArray,List.set_cons_zero,List.set_cons_succ,i64_w,i32_w];rfl
       refine done_ (done_of HT_.out (by kernel_rfl)) ?_
       try go_wp2
       go_ret
       exact ⟨by first | rfl | (simp [errW_none,errW_some] <;> rfl) | (simp [*,errW_none,errW_some] <;> rfl),hs HB⟩
      rw [if_neg c6] at H;exact absurd H (by simp)
     rw [if_neg c5] at H;exact absurd H (by simp)
    rw [if_neg c4] at H;have c4b0 : decide (x5_1 < (l0.length : Int)) = false:=decide_eq_false c4;clear c4;obtain rfl:=Option.some.inj H
    go_wp2
    go_ret
    exact ⟨by first | rfl | (simp [errW_none,errW_some] <;> rfl) | (simp [*,errW_none,errW_some] <;> rfl),hs HB⟩
 rw [if_neg c3] at H;have c3b0 : ((l0.length : Int) == (l1.length : Int)) = false:=beq_eq_false_iff_ne.mpr c3;have c3b1 : ((l0.length : Int) != (l1.length : Int)) = true:=bne_iff_ne.mpr c3;have c3b2 : (l0.length == l1.length) = false:=by first | simpa using c3 | (simp at c3 ⊢;omega)
 obtain rfl:=Option.some.inj H
 go_enter Try.func53,Try.ntmps53
 go_wp2
 go_ret
 exact ⟨by first | rfl | (simp [errW_none,errW_some] <;> rfl) | (simp [*,errW_none,errW_some] <;> rfl),hs HB⟩
end Go.Proofs.Ytijbejiajaiciaa.PC

namespace Go.Proofs.Ytijbejiajaiciaa.PC
open Go.RowKit Go.Proofs.YtijbejiajaiciaaW.PrintWords Go.Proofs.YtijbejiajaiciaaW.PrintLast Go.Proofs.YtijbejiajaiciaaW.PrintMore
attribute [local go_sem] max2_int min2_int max_two min_two max_three min_three max_four min_four   -- for this text's walks alone
set_option linter.unusedVariables false
set_option linter.unusedSimpArgs false
def laws_markStepS.l0 : Nat → List (S69) → Int → Int → Option (Int × (List (S69)))
 | 0,_,_,_=>none
 | k + 1,x0,x1,x5=>if x5 < (x0.length : Int) then (if 0 ≤ x5 then ((some (x0.set (x5 : Int).toNat (⟨x1,(rd_T69 x0 x5).f1,(rd_T69 x0 x5).f2,(rd_T69 x0 x5).f3⟩ : S69) : List (S69))).bind fun y806=>((some (y806.set (x5 : Int).toNat (⟨(rd_T69 y806 x5).f0,wrap64 (x1 + 1),(rd_T69 y806 x5).f2,(rd_T69 y806 x5).f3⟩ : S69) : List (S69))).bind fun y807=>((some (y807.set (x5 : Int).toNat (⟨(rd_T69 y807 x5).f0,(rd_T69 y807 x5).f1,wrap64 ((wrap64 (x1 + 1)) + 1),(rd_T69 y807 x5).f3⟩ : S69) : List (S69))).bind fun y808=>((laws_markText.f k (wrap64 ((wrap64 ((wrap64 (x1 + 1)) + 1)) + 1))).bind fun t809=>(laws_markStepS.l0 k (y808.set (x5 : Int).toNat (⟨(rd_T69 y808 x5).f0,(rd_T69 y808 x5).f1,(rd_T69 y808 x5).f2,t809⟩ : S69)) (wrap64 ((wrap64 ((wrap64 ((wrap64 (x1 + 1)) + 1)) + 1)) + 1)) (wrap64 (x5 + 1))))))) else (none)) else (some (x1,x0))
def laws_markStepS.f (k : Nat) (l0 : List (S69)) (a1 : Int) : Option (Int × (List (S69))):=laws_markStepS.l0 k l0 a1 0
theorem laws_markStepS.mono_l : ∀ k,(∀ y0 y1 y2,LeO (laws_markStepS.l0 k y0 y1 y2) (laws_markStepS.l0 (k + 1) y0 y1 y2))
 | 0=>fun _ _ _ r h=>by simp [laws_markStepS.l0] at h
 | k + 1=>by
  have ih0:=laws_markStepS.mono_l k;intro y0 y1 y2;unfold laws_markStepS.l0
  repeat' first
  | (with_reducible exact ih0 _ _ _)
  | (with_reducible exact laws_markText.mono _ _)
  | (with_reducible exact LeO.refl _)
  | (with_reducible exact LeO.none _)
  | (with_reducible refine LeO.ite ?_ ?_)
  | (with_reducible refine LeO.bind ?_ (fun _=>?_))
  | exact ih0 _ _ _
  | exact laws_markText.mono _ _
  | exact LeO.none _
  | refine LeO.ite ?_ ?_
  | refine LeO.bind ?_ (fun _=>?_)
theorem laws_markStepS.mono : ∀ a0 a1 k,LeO (laws_markStepS.f k a0 a1) (laws_markStepS.f (k + 1) a0 a1):=by
 intro a0 a1 k;have ih0:=laws_markStepS.mono_l k;unfold laws_markStepS.f
 repeat' first
   | (with_reducible exact ih0 _ _ _)
   | (with_reducible exact laws_markText.mono _ _)
   | (with_reducible exact LeO.refl _)
   | (with_reducible exact LeO.none _)
   | (with_reducible refine LeO.ite ?_ ?_)
   | (with_reducible refine LeO.bind ?_ (fun _=>?_))
   | exact ih0 _ _ _
   | exact laws_markText.mono _ _
   | exact LeO.none _
   | refine LeO.ite ?_ ?_
   | refine LeO.bind ?_ (fun _=>?_)
set_option maxHeartbeats 8000000 in
set_option maxRecDepth 100000 in
theorem laws_markStepS.calls (k : Nat) (P0_ : Nat → Prop) (u9000_ : Value) (l0 : List (S69)) (a1 : Int) (r1 : Int) (r2 : List (S69)) (w0 w : World) (hB : Below w0.heap.size w0 w) (ho0 : Kd.R k69 69 w w0.heap.size P0_ u9000_ l0) (h : laws_markStepS.f k l0 a1 = some (r1,r2)) :
  Calls Try.prog 54 #[u9000_,.int .i64 a1] w fun e w'=>e = .returned (.int .i64 r1) ∧ Kd.R k69 69 w' w0.heap.size (fun k_=>(P0_ k_ ∨ w.heap.size ≤ k_)) u9000_ r2 ∧ Below w0.heap.size w0 w' ∧ Kept w w' (fun k_=>P0_ k_):=by
 have HO0:=Aside0.mk (show Kd.R k69 69 w w0.heap.size (fun k_=>(P0_ k_ ∨ w.heap.size ≤ k_)) u9000_ l0 from Kd.R_mono ho0 (fun k_ hk=>(.inl hk)));have HK:=Aside0.mk (Kept.refl w (fun k_=>P0_ k_));have HW0:=Aside0.mk hB.size;have HB:=Aside0.mk hB;clear hB;have H : (laws_markStepS.l0 k l0 a1 0) = some (r1,r2):=h;clear h;have H':=Aside0.mk H;clear H
 go_enter Try.func54,Try.ntmps54
 go_wp2
 go_loopg [1,5] k (fun kq v1 v5 w'=>∃ (x0_1 : List (S69)) (x1_1 : Int) (x5_1 : Int),v1 = .int .i64 x1_1 ∧ v5 = .int .i64 x5_1 ∧ Aside0 (laws_markStepS.l0 kq x0_1 x1_1 x5_1 = some (r1,r2)) ∧ Aside0 (kq ≤ k) ∧ Aside0 (Kd.R k69 69 w' w0.heap.size (fun k_=>(P0_ k_ ∨ w.heap.size ≤ k_)) u9000_ x0_1) ∧ Aside0 (Kept w w' (fun k_=>P0_ k_)) ∧ Aside0 (Below w0.heap.size w0 w'));case atStart=>exact ⟨(l0),(a1),(0),(by first | rfl | (simp;done) | (simp [*];done)),(by first | rfl | (simp;done) | (simp [*];done)),H',⟨Nat.le_refl _⟩,⟨rs HO0⟩,⟨by repeat (first | (with_reducible first | exact HK.out | apply Kept.alloc | apply Kept.drewN | apply Kept.drew) | exact HK.out)⟩,⟨hs HB⟩⟩
 case round =>
  clear H'
  try clear p2
  obtain ⟨x0_1,x1_1,x5_1,rfl,rfl,HA,HK1,HO_0,HK,HB⟩:=hrel;cases gk with
  | zero=>exact absurd HA.out (by simp [laws_markStepS.l0])
  | succ k1 =>
   have H:=HA.out;clear HA;simp only [laws_markStepS.l0] at H
   by_cases c3 : x5_1 < (x0_1.length : Int)
   ·rw [if_pos c3] at H;have c3b0 : decide (x5_1 < (x0_1.length : Int)) = true:=decide_eq_true c3;clear c3
    by_cases c4 : 0 ≤ x5_1
    ·rw [if_pos c4] at H;have c4b0 : decide (0 ≤ x5_1) = true:=decide_eq_true c4;clear c4;obtain ⟨y806,hy806⟩ : ∃ y_ : List (S69),y_ = (x0_1.set (x5_1 : Int).toNat (⟨x1_1,(rd_T69 x0_1 x5_1).f1,(rd_T69 x0_1 x5_1).f2,(rd_T69 x0_1 x5_1).f3⟩ : S69)):=⟨_,rfl⟩;replace H : ((some (y806.set (x5_1 : Int).toNat (⟨(rd_T69 y806 x5_1).f0,wrap64 (x1_1 + 1),(rd_T69 y806 x5_1).f2,(rd_T69 y806 x5_1).f3⟩ : S69) : List (S69))).bind fun y807=>((some (y807.set (x5_1 : Int).toNat (⟨(rd_T69 y807 x5_1).f0,(rd_T69 y807 x5_1).f1,wrap64 ((wrap64 (x1_1 + 1)) + 1),(rd_T69 y807 x5_1).f3⟩ : S69) : List (S69))).bind fun y808=>((laws_markText.f k1 (wrap64 ((wrap64 ((wrap64 (x1_1 + 1)) + 1)) + 1))).bind fun t809=>(laws_markStepS.l0 k1 (y808.set (x5_1 : Int).toNat (⟨(rd_T69 y808 x5_1).f0,(rd_T69 y808 x5_1).f1,(rd_T69 y808 x5_1).f2,t809⟩ : S69)) (wrap64 ((wrap64 ((wrap64 ((wrap64 (x1_1 + 1)) + 1)) + 1)) + 1)) (wrap64 (x5_1 + 1)))))) = some (r1,r2):=by first | (rw [hy806];with_reducible exact H) | (have H2_:=(Option.bind_some _ _).symm.trans H;rw [hy806];with_reducible exact H2_) | (have H2_:=(Option.bind_some _ _).symm.trans H;with_reducible exact H2_) | with_reducible exact H | (rw [hy806];exact H) | exact H
     have Ny806:=Aside0.mk hy806;clear hy806;obtain ⟨y807,hy807⟩ : ∃ y_ : List (S69),y_ = (y806.set (x5_1 : Int).toNat (⟨(rd_T69 y806 x5_1).f0,wrap64 (x1_1 + 1),(rd_T69 y806 x5_1).f2,(rd_T69 y806 x5_1).f3⟩ : S69)):=⟨_,rfl⟩;replace H : ((some (y807.set (x5_1 : Int).toNat (⟨(rd_T69 y807 x5_1).f0,(rd_T69 y807 x5_1).f1,wrap64 ((wrap64 (x1_1 + 1)) + 1),(rd_T69 y807 x5_1).f3⟩ : S69) : List (S69))).bind fun y808=>((laws_markText.f k1 (wrap64 ((wrap64 ((wrap64 (x1_1 + 1)) + 1)) + 1))).bind fun t809=>(laws_markStepS.l0 k1 (y808.set (x5_1 : Int).toNat (⟨(rd_T69 y808 x5_1).f0,(rd_T69 y808 x5_1).f1,(rd_T69 y808 x5_1).f2,t809⟩ : S69)) (wrap64 ((wrap64 ((wrap64 ((wrap64 (x1_1 + 1)) + 1)) + 1)) + 1)) (wrap64 (x5_1 + 1))))) = some (r1,r2):=by first | (rw [hy807];with_reducible exact H) | (have H2_:=(Option.bind_some _ _).symm.trans H;rw [hy807];with_reducible exact H2_) | (have H2_:=(Option.bind_some _ _).symm.trans H;with_reducible exact H2_) | with_reducible exact H | (rw [hy807];exact H) | exact H
     have Ny807:=Aside0.mk hy807;clear hy807;obtain ⟨y808,hy808⟩ : ∃ y_ : List (S69),y_ = (y807.set (x5_1 : Int).toNat (⟨(rd_T69 y807 x5_1).f0,(rd_T69 y807 x5_1).f1,wrap64 ((wrap64 (x1_1 + 1)) + 1),(rd_T69 y807 x5_1).f3⟩ : S69)):=⟨_,rfl⟩;replace H : ((laws_markText.f k1 (wrap64 ((wrap64 ((wrap64 (x1_1 + 1)) + 1)) + 1))).bind fun t809=>(laws_markStepS.l0 k1 (y808.set (x5_1 : Int).toNat (⟨(rd_T69 y808 x5_1).f0,(rd_T69 y808 x5_1).f1,(rd_T69 y808 x5_1).f2,t809⟩ : S69)) (wrap64 ((wrap64 ((wrap64 ((wrap64 (x1_1 + 1)) + 1)) + 1)) + 1)) (wrap64 (x5_1 + 1)))) = some (r1,r2):=by first | (rw [hy808];with_reducible exact H) | (have H2_:=(Option.bind_some _ _).symm.trans H;rw [hy808];with_reducible exact H2_) | (have H2_:=(Option.bind_some _ _).symm.trans H;with_reducible exact H2_) | with_reducible exact H | (rw [hy808];exact H) | exact H
     have Ny808:=Aside0.mk hy808;clear hy808;replace H:=Option.bind_eq_some_iff.mp H;obtain ⟨t809,A80,H⟩:=H;replace H : (laws_markStepS.l0 k1 (y808.set (x5_1 : Int).toNat (⟨(rd_T69 y808 x5_1).f0,(rd_T69 y808 x5_1).f1,(rd_T69 y808 x5_1).f2,t809⟩ : S69)) (wrap64 ((wrap64 ((wrap64 ((wrap64 (x1_1 + 1)) + 1)) + 1)) + 1)) (wrap64 (x5_1 + 1))) = some (r1,r2):=H;have A8:=Aside0.mk A80;clear A80;obtain ⟨y810,hy810⟩ : ∃ y_ : List (S69),y_ = (y808.set (x5_1 : Int).toNat (⟨(rd_T69 y808 x5_1).f0,(rd_T69 y808 x5_1).f1,(rd_T69 y808 x5_1).f2,t809⟩ : S69)):=⟨_,rfl⟩;replace H : (laws_markStepS.l0 k1 y810 (wrap64 ((wrap64 ((wrap64 ((wrap64 (x1_1 + 1)) + 1)) + 1)) + 1)) (wrap64 (x5_1 + 1))) = some (r1,r2):=by first | (rw [hy810];with_reducible exact H) | (have H2_:=(Option.bind_some _ _).symm.trans H;rw [hy810];with_reducible exact H2_) | (have H2_:=(Option.bind_some _ _).symm.trans H;with_reducible exact H2_) | with_reducible exact H | (rw [hy810];exact H) | exact H
     have Ny810:=Aside0.mk hy810;clear hy810;have H':=Aside0.mk H;clear H;obtain ⟨Ao10,co10,eo10⟩:=Kd.R_slice HO_0.out;subst eo10;have p5 : 0 ≤ (x5_1 : Int):=of_decide_eq_true (by first | (with_reducible assumption) | assumption);have q5 : (x5_1 : Int) < ((x0_1.length : Int) : Int):=of_decide_eq_true (by first | (with_reducible assumption) | assumption);obtain ⟨go5,co5,eo5,gb5,gl5,cl5,HG5⟩:=Kd.R_form HO_0.out (by omega)
     (first | cases eo5 | (injection eo5 with ea_ en_ ec_;(first | subst ea_ | (injection ea_ with ea_;subst ea_));subst ec_;clear en_))
     have GB5:=Aside0.mk gb5;have GG5:=Aside0.mk HG5;clear gb5 gl5 HG5;have HMgo5:=Aside0.mk (show (P0_ go5 ∨ w.heap.size ≤ go5) from (HO_0.out.1 _ rfl));obtain ⟨ce5,hcl5,hM5,hcc5,hfr5⟩:=Kd.R_elem HO_0.out z69 (x5_1 : Int) p5 q5;obtain rfl:=k69_openM hM5;have hx5_0 : wr.cell? ⟨go5,(x5_1 : Int).toNat * 4,none⟩ = some (.int .i64 ((rd_T69 x0_1 x5_1).f0)):=hcc5 0 _ rfl;have hx5_1 : wr.cell? ⟨go5,(x5_1 : Int).toNat * 4 + 1,none⟩ = some (.int .i64 ((rd_T69 x0_1 x5_1).f1)):=hcc5 1 _ rfl;have hx5_2 : wr.cell? ⟨go5,(x5_1 : Int).toNat * 4 + 2,none⟩ = some (.int .i64 ((rd_T69 x0_1 x5_1).f2)):=hcc5 2 _ rfl;have hx5_3 : wr.cell? ⟨go5,(x5_1 : Int).toNat * 4 + 3,none⟩ = some (.string ((rd_T69 x0_1 x5_1).f3)):=hcc5 3 _ rfl;have hf5_0 : wr.frozen? ⟨go5,(x5_1 : Int).toNat * 4,none⟩ = false:=hfr5 0;have hf5_1 : wr.frozen? ⟨go5,(x5_1 : Int).toNat * 4 + 1,none⟩ = false:=hfr5 1;have hf5_2 : wr.frozen? ⟨go5,(x5_1 : Int).toNat * 4 + 2,none⟩ = false:=hfr5 2;have hf5_3 : wr.frozen? ⟨go5,(x5_1 : Int).toNat * 4 + 3,none⟩ = false:=hfr5 3;clear hcl5 hcc5 hfr5 hM5;replace p5:=eq_true p5;replace q5:=eq_true q5;have HX11:=Aside0.mk (show Kd.R k69 69 wr w0.heap.size (fun k_=>(P0_ k_ ∨ w.heap.size ≤ k_)) (.slice (some ⟨go5,0,none⟩) x0_1.length co10) x0_1 from (rs HO_0));obtain ⟨ce11,hcl11,hM11,hcc11,hfr11⟩:=Kd.R_elem HX11.out z69 (x5_1 : Int) (of_decide_eq_true (by first | (with_reducible assumption) | assumption)) (by have h_ : (x5_1 : Int) < ((x0_1.length : Int) : Int):=of_decide_eq_true (by first | (with_reducible assumption) | assumption);first | exact h_ | (have e_:=(Kd.R_reads' HO_0.out).1;omega) | simpa using h_);obtain rfl:=k69_openM hM11;have HP11:=Kd.R_seg HX11.out (x5_1 : Int) (of_decide_eq_true (by first | (with_reducible assumption) | assumption)) (by have h_ : (x5_1 : Int) < ((x0_1.length : Int) : Int):=of_decide_eq_true (by first | (with_reducible assumption) | assumption);first | exact h_ | (have e_:=(Kd.R_reads' HO_0.out).1;omega) | simpa using h_) (seg:=[.int .i64 x1_1]) (j:=0) hcl11 hcc11 (show 1 ≤ 4 from by decide) (x':=(⟨x1_1,(rd_T69 x0_1 x5_1).f1,(rd_T69 x0_1 x5_1).f2,(rd_T69 x0_1 x5_1).f3⟩ : S69)) (k69_mkM _ _ _ (⟨x1_1,(rd_T69 x0_1 x5_1).f1,(rd_T69 x0_1 x5_1).f2,(rd_T69 x0_1 x5_1).f3⟩ : S69) ) (fun _ hk=>hk);have hx11_0:=hcc11 0 _ rfl
     (try simp only [show (k69).sz = 4 from rfl,Nat.mul_one,Nat.add_zero] at hx11_0)
     have hf11_0:=hfr11 0
     (try simp only [show (k69).sz = 4 from rfl,Nat.mul_one,Nat.add_zero] at hf11_0)
     clear hcl11 hcc11 hfr11 hM11;go_wp2_with (first | ((with_reducible refine gate_store (t:=3) (p:=16) rfl ?_);refine store_event (t:=3) (p:=16) (v:=?vo_w12) (w1:=(wr.setCell ⟨go5,(x5_1 : Int).toNat * 4,none⟩ (.int .i64 x1_1))) ?hg ?ho ?hn ?hr ?_;(case ho=>rfl);(case hg=>rfl);(case hn=>rfl);(case hr=>first | (go_simp;done) | (go_simp;rfl));intro w12 hw;have hg : wr.grownBy w12 (some go5):=(by rw [hw];exact HP11.2);have hp_ : Kd.R k69 69 w12 w0.heap.size (fun k_=>(P0_ k_ ∨ w.heap.size ≤ k_)) (.slice (some ⟨go5,0,none⟩) x0_1.length co10) y806:=(by rw [hw,Ny806.out];exact HP11.1);clear HP11;have n0_:=Aside0.mk (hp_);have n1_:=Aside0.mk ((by rw [hw];exact below_set (HB.out) GB5.out : Below w0.heap.size w0 w12));have n2_:=Aside0.mk (Kept.of_grown (S:=(fun k_=>P0_ k_)) hg (by repeat (first | (with_reducible first | exact HK.out | apply Kept.alloc | apply Kept.drewN | apply Kept.drew) | exact HK.out)) (fun k_ e_=>(HO_0.out.1 k_ e_)));clear HO_0;clear HB;clear HK;have HO_0:=n0_;have HB:=n1_;have HK:=n2_;clear n0_ n1_ n2_;clear hg hw hp_;have p6 : 0 ≤ (x5_1 : Int):=of_decide_eq_true (by first | (with_reducible assumption) | assumption);have q6 : (x5_1 : Int) < ((x0_1.length : Int) : Int):=of_decide_eq_true (by first | (with_reducible assumption) | assumption);obtain ⟨ce6,hcl6,hM6,hcc6,hfr6⟩:=Kd.R_elem HO_0.out z69 (x5_1 : Int) p6 q6;obtain rfl:=k69_openM hM6;have hx6_0 : w12.cell? ⟨go5,(x5_1 : Int).toNat * 4,none⟩ = some (.int .i64 ((rd_T69 y806 x5_1).f0)):=hcc6 0 _ rfl;have hx6_1 : w12.cell? ⟨go5,(x5_1 : Int).toNat * 4 + 1,none⟩ = some (.int .i64 ((rd_T69 y806 x5_1).f1)):=hcc6 1 _ rfl;have hx6_2 : w12.cell? ⟨go5,(x5_1 : Int).toNat * 4 + 2,none⟩ = some (.int .i64 ((rd_T69 y806 x5_1).f2)):=hcc6 2 _ rfl;have hx6_3 : w12.cell? ⟨go5,(x5_1 : Int).toNat * 4 + 3,none⟩ = some (.string ((rd_T69 y806 x5_1).f3)):=hcc6 3 _ rfl;have hf6_0 : w12.frozen? ⟨go5,(x5_1 : Int).toNat * 4,none⟩ = false:=hfr6 0;have hf6_1 : w12.frozen? ⟨go5,(x5_1 : Int).toNat * 4 + 1,none⟩ = false:=hfr6 1;have hf6_2 : w12.frozen? ⟨go5,(x5_1 : Int).toNat * 4 + 2,none⟩ = false:=hfr6 2;have hf6_3 : w12.frozen? ⟨go5,(x5_1 : Int).toNat * 4 + 3,none⟩ = false:=hfr6 3;clear hcl6 hcc6 hfr6 hM6;replace p6:=eq_true p6;replace q6:=eq_true q6;have HX13:=Aside0.mk (show Kd.R k69 69 w12 w0.heap.size (fun k_=>(P0_ k_ ∨ w.heap.size ≤ k_)) (.slice (some ⟨go5,0,none⟩) x0_1.length co10) y806 from (rs HO_0));obtain ⟨ce13,hcl13,hM13,hcc13,hfr13⟩:=Kd.R_elem HX13.out z69 (x5_1 : Int) (of_decide_eq_true (by first | (with_reducible assumption) | assumption)) (by have h_ : (x5_1 : Int) < ((x0_1.length : Int) : Int):=of_decide_eq_true (by first | (with_reducible assumption) | assumption);first | exact h_ | (have e_:=(Kd.R_reads' HO_0.out).1;omega) | simpa using h_);obtain rfl:=k69_openM hM13;have HP13:=Kd.R_seg HX13.out (x5_1 : Int) (of_decide_eq_true (by first | (with_reducible assumption) | assumption)) (by have h_ : (x5_1 : Int) < ((x0_1.length : Int) : Int):=of_decide_eq_true (by first | (with_reducible assumption) | assumption);first | exact h_ | (have e_:=(Kd.R_reads' HO_0.out).1;omega) | simpa using h_) (seg:=[.int .i64 (wrap64 (x1_1 + 1))]) (j:=1) hcl13 hcc13 (show 2 ≤ 4 from by decide) (x':=(⟨(rd_T69 y806 x5_1).f0,wrap64 (x1_1 + 1),(rd_T69 y806 x5_1).f2,(rd_T69 y806 x5_1).f3⟩ : S69)) (k69_mkM _ _ _ (⟨(rd_T69 y806 x5_1).f0,wrap64 (x1_1 + 1),(rd_T69 y806 x5_1).f2,(rd_T69 y806 x5_1).f3⟩ : S69) ) (fun _ hk=>hk);have hx13_1:=hcc13 1 _ rfl;(try simp only [show (k69).sz = 4 from rfl,Nat.mul_one,Nat.add_zero] at hx13_1);have hf13_1:=hfr13 1;(try simp only [show (k69).sz = 4 from rfl,Nat.mul_one,Nat.add_zero] at hf13_1);clear hcl13 hcc13 hfr13 hM13) | ((with_reducible refine gate_store (t:=3) (p:=23) rfl ?_);refine store_event (t:=3) (p:=23) (v:=?vo_w14) (w1:=(w12.setCell ⟨go5,(x5_1 : Int).toNat * 4 + 1,none⟩ (.int .i64 (wrap64 (x1_1 + 1))))) ?hg ?ho ?hn ?hr ?_;(case ho=>rfl);(case hg=>rfl);(case hn=>rfl);(case hr=>first | (go_simp;done) | (go_simp;rfl));intro w14 hw;have hg : w12.grownBy w14 (some go5):=(by rw [hw];exact HP13.2);have hp_ : Kd.R k69 69 w14 w0.heap.size (fun k_=>(P0_ k_ ∨ w.heap.size ≤ k_)) (.slice (some ⟨go5,0,none⟩) x0_1.length co10) y807:=(by rw [hw,Ny807.out];exact HP13.1);clear HP13;have n0_:=Aside0.mk (hp_);have n1_:=Aside0.mk ((by rw [hw];exact below_set (HB.out) GB5.out : Below w0.heap.size w0 w14));have n2_:=Aside0.mk (Kept.of_grown (S:=(fun k_=>P0_ k_)) hg (by repeat (first | (with_reducible first | exact HK.out | apply Kept.alloc | apply Kept.drewN | apply Kept.drew) | exact HK.out)) (fun k_ e_=>(HO_0.out.1 k_ e_)));clear HO_0;clear HB;clear HK;have HO_0:=n0_;have HB:=n1_;have HK:=n2_;clear n0_ n1_ n2_;clear hg hw hp_;have p7 : 0 ≤ (x5_1 : Int):=of_decide_eq_true (by first | (with_reducible assumption) | assumption);have q7 : (x5_1 : Int) < ((x0_1.length : Int) : Int):=of_decide_eq_true (by first | (with_reducible assumption) | assumption);obtain ⟨ce7,hcl7,hM7,hcc7,hfr7⟩:=Kd.R_elem HO_0.out z69 (x5_1 : Int) p7 q7;obtain rfl:=k69_openM hM7;have hx7_0 : w14.cell? ⟨go5,(x5_1 : Int).toNat * 4,none⟩ = some (.int .i64 ((rd_T69 y807 x5_1).f0)):=hcc7 0 _ rfl;have hx7_1 : w14.cell? ⟨go5,(x5_1 : Int).toNat * 4 + 1,none⟩ = some (.int .i64 ((rd_T69 y807 x5_1).f1)):=hcc7 1 _ rfl;have hx7_2 : w14.cell? ⟨go5,(x5_1 : Int).toNat * 4 + 2,none⟩ = some (.int .i64 ((rd_T69 y807 x5_1).f2)):=hcc7 2 _ rfl;have hx7_3 : w14.cell? ⟨go5,(x5_1 : Int).toNat * 4 + 3,none⟩ = some (.string ((rd_T69 y807 x5_1).f3)):=hcc7 3 _ rfl;have hf7_0 : w14.frozen? ⟨go5,(x5_1 : Int).toNat * 4,none⟩ = false:=hfr7 0;have hf7_1 : w14.frozen? ⟨go5,(x5_1 : Int).toNat * 4 + 1,none⟩ = false:=hfr7 1;have hf7_2 : w14.frozen? ⟨go5,(x5_1 : Int).toNat * 4 + 2,none⟩ = false:=hfr7 2;have hf7_3 : w14.frozen? ⟨go5,(x5_1 : Int).toNat * 4 + 3,none⟩ = false:=hfr7 3;clear hcl7 hcc7 hfr7 hM7;replace p7:=eq_true p7;replace q7:=eq_true q7;have HX15:=Aside0.mk (show Kd.R k69 69 w14 w0.heap.size (fun k_=>(P0_ k_ ∨ w.heap.size ≤ k_)) (.slice (some ⟨go5,0,none⟩) x0_1.length co10) y807 from (rs HO_0));obtain ⟨ce15,hcl15,hM15,hcc15,hfr15⟩:=Kd.R_elem HX15.out z69 (x5_1 : Int) (of_decide_eq_true (by first | (with_reducible assumption) | assumption)) (by have h_ : (x5_1 : Int) < ((x0_1.length : Int) : Int):=of_decide_eq_true (by first | (with_reducible assumption) | assumption);first | exact h_ | (have e_:=(Kd.R_reads' HO_0.out).1;omega) | simpa using h_);obtain rfl:=k69_openM hM15;have HP15:=Kd.R_seg HX15.out (x5_1 : Int) (of_decide_eq_true (by first | (with_reducible assumption) | assumption)) (by have h_ : (x5_1 : Int) < ((x0_1.length : Int) : Int):=of_decide_eq_true (by first | (with_reducible assumption) | assumption);first | exact h_ | (have e_:=(Kd.R_reads' HO_0.out).1;omega) | simpa using h_) (seg:=[.int .i64 (wrap64 ((wrap64 (x1_1 + 1)) + 1))]) (j:=2) hcl15 hcc15 (show 3 ≤ 4 from by decide) (x':=(⟨(rd_T69 y807 x5_1).f0,(rd_T69 y807 x5_1).f1,wrap64 ((wrap64 (x1_1 + 1)) + 1),(rd_T69 y807 x5_1).f3⟩ : S69)) (k69_mkM _ _ _ (⟨(rd_T69 y807 x5_1).f0,(rd_T69 y807 x5_1).f1,wrap64 ((wrap64 (x1_1 + 1)) + 1),(rd_T69 y807 x5_1).f3⟩ : S69) ) (fun _ hk=>hk);have hx15_2:=hcc15 2 _ rfl;(try simp only [show (k69).sz = 4 from rfl,Nat.mul_one,Nat.add_zero] at hx15_2);have hf15_2:=hfr15 2;(try simp only [show (k69).sz = 4 from rfl,Nat.mul_one,Nat.add_zero] at hf15_2);clear hcl15 hcc15 hfr15 hM15) | ((with_reducible refine gate_store (t:=3) (p:=30) rfl ?_);refine store_event (t:=3) (p:=30) (v:=?vo_w16) (w1:=(w14.setCell ⟨go5,(x5_1 : Int).toNat * 4 + 2,none⟩ (.int .i64 (wrap64 ((wrap64 (x1_1 + 1)) + 1))))) ?hg ?ho ?hn ?hr ?_;(case ho=>rfl);(case hg=>rfl);(case hn=>rfl);(case hr=>first | (go_simp;done) | (go_simp;rfl));intro w16 hw;have hg : w14.grownBy w16 (some go5):=(by rw [hw];exact HP15.2);have hp_ : Kd.R k69 69 w16 w0.heap.size (fun k_=>(P0_ k_ ∨ w.heap.size ≤ k_)) (.slice (some ⟨go5,0,none⟩) x0_1.length co10) y808:=(by rw [hw,Ny808.out];exact HP15.1);clear HP15;have n0_:=Aside0.mk (hp_);have n1_:=Aside0.mk ((by rw [hw];exact below_set (HB.out) GB5.out : Below w0.heap.size w0 w16));have n2_:=Aside0.mk (Kept.of_grown (S:=(fun k_=>P0_ k_)) hg (by repeat (first | (with_reducible first | exact HK.out | apply Kept.alloc | apply Kept.drewN | apply Kept.drew) | exact HK.out)) (fun k_ e_=>(HO_0.out.1 k_ e_)));clear HO_0;clear HB;clear HK;have HO_0:=n0_;have HB:=n1_;have HK:=n2_;clear n0_ n1_ n2_;clear hg hw hp_) | ((with_reducible refine gate_callee (f:=85) rfl ?_);refine goesL_ (some 36) rfl rfl Try.func85 (by kernel_rfl) rfl #[.int .i64 (wrap64 ((wrap64 ((wrap64 (x1_1 + 1)) + 1)) + 1))] rfl (by (try simp only [List.map_toArray,List.map_cons,List.map_nil]);first | done | rfl | (simp only [List.length_drop,List.length_take];rfl)) ?_;(with_reducible refine (laws_markText.calls k1 (wrap64 ((wrap64 ((wrap64 (x1_1 + 1)) + 1)) + 1)) t809 _ A8.out).mono ?_);rintro e w17 ⟨rfl,hb⟩;refine ⟨_,rfl,?_⟩;have n0_:=Aside0.mk (Kd.R_below (rs HO_0) hb);have n1_:=Aside0.mk (Kept.below (S:=(fun k_=>P0_ k_)) (by repeat (first | (with_reducible first | exact HK.out | apply Kept.alloc | apply Kept.drewN | apply Kept.drew) | exact HK.out)) hb);have n2_:=Aside0.mk (below_step (hs HB) hb);clear HO_0;clear HK;clear HB;have HO_0:=n0_;have HK:=n1_;have HB:=n2_;clear n0_ n1_ n2_;(try clear hb);(try clear hb2);(try clear hk);(try clear hi);have p9 : 0 ≤ (x5_1 : Int):=of_decide_eq_true (by first | (with_reducible assumption) | assumption);have q9 : (x5_1 : Int) < ((x0_1.length : Int) : Int):=of_decide_eq_true (by first | (with_reducible assumption) | assumption);obtain ⟨ce9,hcl9,hM9,hcc9,hfr9⟩:=Kd.R_elem HO_0.out z69 (x5_1 : Int) p9 q9;obtain rfl:=k69_openM hM9;have hx9_0 : w17.cell? ⟨go5,(x5_1 : Int).toNat * 4,none⟩ = some (.int .i64 ((rd_T69 y808 x5_1).f0)):=hcc9 0 _ rfl;have hx9_1 : w17.cell? ⟨go5,(x5_1 : Int).toNat * 4 + 1,none⟩ = some (.int .i64 ((rd_T69 y808 x5_1).f1)):=hcc9 1 _ rfl;have hx9_2 : w17.cell? ⟨go5,(x5_1 : Int).toNat * 4 + 2,none⟩ = some (.int .i64 ((rd_T69 y808 x5_1).f2)):=hcc9 2 _ rfl;have hx9_3 : w17.cell? ⟨go5,(x5_1 : Int).toNat * 4 + 3,none⟩ = some (.string ((rd_T69 y808 x5_1).f3)):=hcc9 3 _ rfl;have hf9_0 : w17.frozen? ⟨go5,(x5_1 : Int).toNat * 4,none⟩ = false:=hfr9 0;have hf9_1 : w17.frozen? ⟨go5,(x5_1 : Int).toNat * 4 + 1,none⟩ = false:=hfr9 1;have hf9_2 : w17.frozen? ⟨go5,(x5_1 : Int).toNat * 4 + 2,none⟩ = false:=hfr9 2;have hf9_3 : w17.frozen? ⟨go5,(x5_1 : Int).toNat * 4 + 3,none⟩ = false:=hfr9 3;clear hcl9 hcc9 hfr9 hM9;replace p9:=eq_true p9;replace q9:=eq_true q9;have HX18:=Aside0.mk (show Kd.R k69 69 w17 w0.heap.size (fun k_=>(P0_ k_ ∨ w.heap.size ≤ k_)) (.slice (some ⟨go5,0,none⟩) x0_1.length co10) y808 from (rs HO_0));obtain ⟨ce18,hcl18,hM18,hcc18,hfr18⟩:=Kd.R_elem HX18.out z69 (x5_1 : Int) (of_decide_eq_true (by first | (with_reducible assumption) | assumption)) (by have h_ : (x5_1 : Int) < ((x0_1.length : Int) : Int):=of_decide_eq_true (by first | (with_reducible assumption) | assumption);first | exact h_ | (have e_:=(Kd.R_reads' HO_0.out).1;omega) | simpa using h_);obtain rfl:=k69_openM hM18;have HP18:=Kd.R_seg HX18.out (x5_1 : Int) (of_decide_eq_true (by first | (with_reducible assumption) | assumption)) (by have h_ : (x5_1 : Int) < ((x0_1.length : Int) : Int):=of_decide_eq_true (by first | (with_reducible assumption) | assumption);first | exact h_ | (have e_:=(Kd.R_reads' HO_0.out).1;omega) | simpa using h_) (seg:=[.string t809]) (j:=3) hcl18 hcc18 (show 4 ≤ 4 from by decide) (x':=(⟨(rd_T69 y808 x5_1).f0,(rd_T69 y808 x5_1).f1,(rd_T69 y808 x5_1).f2,t809⟩ : S69)) (k69_mkM _ _ _ (⟨(rd_T69 y808 x5_1).f0,(rd_T69 y808 x5_1).f1,(rd_T69 y808 x5_1).f2,t809⟩ : S69) ) (fun _ hk=>hk);have hx18_3:=hcc18 3 _ rfl;(try simp only [show (k69).sz = 4 from rfl,Nat.mul_one,Nat.add_zero] at hx18_3);have hf18_3:=hfr18 3;(try simp only [show (k69).sz = 4 from rfl,Nat.mul_one,Nat.add_zero] at hf18_3);clear hcl18 hcc18 hfr18 hM18) | ((with_reducible refine gate_store (t:=9) (p:=38) rfl ?_);refine store_event (t:=9) (p:=38) (v:=?vo_w19) (w1:=(w17.setCell ⟨go5,(x5_1 : Int).toNat * 4 + 3,none⟩ (.string t809))) ?hg ?ho ?hn ?hr ?_;(case ho=>rfl);(case hg=>rfl);(case hn=>rfl);(case hr=>first | (go_simp;done) | (go_simp;rfl));intro w19 hw;have hg : w17.grownBy w19 (some go5):=(by rw [hw];exact HP18.2);have hp_ : Kd.R k69 69 w19 w0.heap.size (fun k_=>(P0_ k_ ∨ w.heap.size ≤ k_)) (.slice (some ⟨go5,0,none⟩) x0_1.length co10) y810:=(by rw [hw,Ny810.out];exact HP18.1);clear HP18;have n0_:=Aside0.mk (hp_);have n1_:=Aside0.mk ((by rw [hw];exact below_set (HB.out) GB5.out : Below w0.heap.size w0 w19));have n2_:=Aside0.mk (Kept.of_grown (S:=(fun k_=>P0_ k_)) hg (by repeat (first | (with_reducible first | exact HK.out | apply Kept.alloc | apply Kept.drewN | apply Kept.drew) | exact HK.out)) (fun k_ e_=>(HO_0.out.1 k_ e_)));clear HO_0;clear HB;clear HK;have HO_0:=n0_;have HB:=n1_;have HK:=n2_;clear n0_ n1_ n2_;clear hg hw hp_));go_roundg k1;case measure=>have:=HK1.out;omega
     case rel=>exact ⟨(y810),(wrap64 ((wrap64 ((wrap64 ((wrap64 (x1_1 + 1)) + 1)) + 1)) + 1)),(wrap64 (x5_1 + 1)),(by first | rfl | (simp;done) | (simp [*];done)),(by first | rfl | (simp;done) | (simp [*];done)),H',⟨by have:=HK1.out;omega⟩,⟨rs HO_0⟩,⟨by repeat (first | (with_reducible first | exact HK.out | apply Kept.alloc | apply Kept.drewN | apply Kept.drew) | exact HK.out)⟩,⟨hs HB⟩⟩
    rw [if_neg c4] at H;exact absurd H (by simp)
   rw [if_neg c3] at H;have c3b0 : decide (x5_1 < (x0_1.length : Int)) = false:=decide_eq_false c3;clear c3;simp only [Option.some.injEq,Prod.mk.injEq] at H;obtain ⟨rfl,rfl⟩:=H;obtain ⟨Ao20,co20,eo20⟩:=Kd.R_slice HO_0.out;subst eo20
   go_wp2
   go_ret
   exact ⟨by first | rfl | (simp [errW_none,errW_some] <;> rfl) | (simp [*,errW_none,errW_some] <;> rfl),rs HO_0,hs HB,by repeat (first | (with_reducible first | exact HK.out | apply Kept.alloc | apply Kept.drewN | apply Kept.drew) | exact HK.out)⟩
end Go.Proofs.Ytijbejiajaiciaa.PC

namespace Go.Proofs.Ytijbejiajaiciaa.PC
open Go.RowKit Go.Proofs.YtijbejiajaiciaaW.PrintWords Go.Proofs.YtijbejiajaiciaaW.PrintLast Go.Proofs.YtijbejiajaiciaaW.PrintMore
attribute [local go_sem] max2_int min2_int max_two min_two max_three min_three max_four min_four   -- for this text's walks alone
set_option linter.unusedVariables false
set_option linter.unusedSimpArgs false
def laws_szLeaf.f (a0_0 : Int) (a0_1 : ByteArray) (a1 : Int) : Option (Int):=if (wrap64 (a1 - (a0_1.size : Int))) < 0 then (some (-1)) else (some (wrap64 (a1 - (a0_1.size : Int))))
set_option maxHeartbeats 8000000 in
set_option maxRecDepth 100000 in
theorem laws_szLeaf.calls (a0_0 : Int) (a0_1 : ByteArray) (a1 : Int) (r : Int) (w : World) (h : laws_szLeaf.f a0_0 a0_1 a1 = some r) :
  Calls Try.prog 121 #[.agg #[.int .i64 a0_0,.string a0_1],.int .i64 a1] w fun e w'=>e = .returned (.int .i64 r) ∧ Below w.heap.size w w':=by
 have hu163:=Try.underlying163;have HB:=Aside0.mk (Below.refl w.heap.size w);have H : (if (wrap64 (a1 - (a0_1.size : Int))) < 0 then (some (-1)) else (some (wrap64 (a1 - (a0_1.size : Int))))) = some r:=h;clear h
 by_cases c3 : (wrap64 (a1 - (a0_1.size : Int))) < 0
 ·rw [if_pos c3] at H;have c3b0 : decide ((wrap64 (a1 - (a0_1.size : Int))) < 0) = true:=decide_eq_true c3;clear c3;obtain rfl:=Option.some.inj H
  go_enter Try.func121,Try.ntmps121
  go_wp2_with (first | ((with_reducible refine gate_dst (N:=2) rfl ?_);refine box_event ?hg (N:=2) ?hd (cs:=#[.int .i64 a0_0,.string a0_1]) (t:=163) ?hr ?_;(case hd=>rfl);(case hg=>rfl);(case hr=>first | (go_simp;done) | (go_simp;rfl));intro gb373 hg w4 hbox hb;have n0_:=Aside0.mk (below_step (hs HB) hb);have n1_:=Aside0.mk (hbox);have n2_:=Aside0.mk ((by rw [hg];exact (below_size (hs HB)) : w.heap.size ≤ gb373));have n3_:=Aside0.mk ((by rw [hg];exact (below_size (hs HB)) : w.heap.size ≤ gb373));clear HB;have HB:=n0_;have BK373:=n1_;have GW373:=n2_;have GE373:=n3_;clear n0_ n1_ n2_ n3_;clear hb hbox hg;have hcz5_0 : w4.cell? ⟨gb373,0,none⟩ = some (.int .i64 a0_0):=(blk_cell BK373.out 0).trans rfl;have hcz5_1 : w4.cell? ⟨gb373,1,none⟩ = some (.string a0_1):=(blk_cell BK373.out 1).trans rfl;have hfz5_0:=blk_frozen BK373.out 0;have hfz5_1:=blk_frozen BK373.out 1))
  go_ret
  exact ⟨by first | rfl | (simp [errW_none,errW_some] <;> rfl) | (simp [*,errW_none,errW_some] <;> rfl),hs1 HB GE373⟩
 rw [if_neg c3] at H;have c3b0 : decide ((wrap64 (a1 - (a0_1.size : Int))) < 0) = false:=decide_eq_false c3;clear c3;obtain rfl:=Option.some.inj H
 go_enter Try.func121,Try.ntmps121
 go_wp2_with (first | ((with_reducible refine gate_dst (N:=2) rfl ?_);refine box_event ?hg (N:=2) ?hd (cs:=#[.int .i64 a0_0,.string a0_1]) (t:=163) ?hr ?_;(case hd=>rfl);(case hg=>rfl);(case hr=>first | (go_simp;done) | (go_simp;rfl));intro gb373 hg w6 hbox hb;have n0_:=Aside0.mk (below_step (hs HB) hb);have n1_:=Aside0.mk (hbox);have n2_:=Aside0.mk ((by rw [hg];exact (below_size (hs HB)) : w.heap.size ≤ gb373));have n3_:=Aside0.mk ((by rw [hg];exact (below_size (hs HB)) : w.heap.size ≤ gb373));clear HB;have HB:=n0_;have BK373:=n1_;have GW373:=n2_;have GE373:=n3_;clear n0_ n1_ n2_ n3_;clear hb hbox hg;have hcz7_0 : w6.cell? ⟨gb373,0,none⟩ = some (.int .i64 a0_0):=(blk_cell BK373.out 0).trans rfl;have hcz7_1 : w6.cell? ⟨gb373,1,none⟩ = some (.string a0_1):=(blk_cell BK373.out 1).trans rfl;have hfz7_0:=blk_frozen BK373.out 0;have hfz7_1:=blk_frozen BK373.out 1))
 go_ret
 exact ⟨by first | rfl | (simp [errW_none,errW_some] <;> rfl) | (simp [*,errW_none,errW_some] <;> rfl),hs1 HB GE373⟩
end Go.Proofs.Ytijbejiajaiciaa.PC

namespace Go.Proofs.Ytijbejiajaiciaa.PC
open Go.RowKit Go.Proofs.YtijbejiajaiciaaW.PrintWords Go.Proofs.YtijbejiajaiciaaW.PrintLast Go.Proofs.YtijbejiajaiciaaW.PrintMore
attribute [local go_sem] max2_int min2_int max_two min_two max_three min_three max_four min_four   -- for this text's walks alone
set_option linter.unusedVariables false
set_option linter.unusedSimpArgs false
def laws_szLeafS.l0 : Nat → List (S163) → Int → Int → Option (Int)
 | 0,_,_,_=>none
 | k + 1,x0,x1,x5=>if x5 < (x0.length : Int) then (if 0 ≤ x5 then ((laws_szLeaf.f ((rd_T163 x0 x5).f0) ((rd_T163 x0 x5).f1) x1).bind fun t375=>(if t375 < 0 then (some (-1)) else (laws_szLeafS.l0 k x0 t375 (wrap64 (x5 + 1))))) else (none)) else (some x1)
def laws_szLeafS.f (k : Nat) (l0 : List (S163)) (a1 : Int) : Option (Int):=if (wrap64 (a1 - (l0.length : Int))) < 0 then (some (-1)) else (laws_szLeafS.l0 k l0 (wrap64 (a1 - (l0.length : Int))) 0)
theorem laws_szLeafS.mono_l : ∀ k,(∀ y0 y1 y2,LeO (laws_szLeafS.l0 k y0 y1 y2) (laws_szLeafS.l0 (k + 1) y0 y1 y2))
 | 0=>fun _ _ _ r h=>by simp [laws_szLeafS.l0] at h
 | k + 1=>by
  have ih0:=laws_szLeafS.mono_l k;intro y0 y1 y2;unfold laws_szLeafS.l0
  repeat' first
  | (with_reducible exact ih0 _ _ _)
  | (with_reducible exact LeO.refl _)
  | (with_reducible exact LeO.none _)
  | (with_reducible refine LeO.ite ?_ ?_)
  | (with_reducible refine LeO.bind ?_ (fun _=>?_))
  | exact ih0 _ _ _
  | exact LeO.none _
  | refine LeO.ite ?_ ?_
  | refine LeO.bind ?_ (fun _=>?_)
theorem laws_szLeafS.mono : ∀ a0 a1 k,LeO (laws_szLeafS.f k a0 a1) (laws_szLeafS.f (k + 1) a0 a1):=by
 intro a0 a1 k;have ih0:=laws_szLeafS.mono_l k;unfold laws_szLeafS.f
 repeat' first
   | (with_reducible exact ih0 _ _ _)
   | (with_reducible exact LeO.refl _)
   | (with_reducible exact LeO.none _)
   | (with_reducible refine LeO.ite ?_ ?_)
   | (with_reducible refine LeO.bind ?_ (fun _=>?_))
   | exact ih0 _ _ _
   | exact LeO.none _
   | refine LeO.ite ?_ ?_
   | refine LeO.bind ?_ (fun _=>?_)
set_option maxHeartbeats 8000000 in
set_option maxRecDepth 100000 in
theorem laws_szLeafS.calls (k : Nat) (A0 : Option Addr) (c0 : Nat) (l0 : List (S163)) (a1 : Int) (r : Int) (w : World) (hr0 : Kd.C k163 w A0 l0.length l0) (hc0 : l0.length ≤ c0) (h : laws_szLeafS.f k l0 a1 = some r) :
  Calls Try.prog 115 #[.slice A0 l0.length c0,.int .i64 a1] w fun e w'=>e = .returned (.int .i64 r) ∧ Below w.heap.size w w':=by
 have hu163:=Try.underlying163;have HR0:=Aside0.mk hr0;have HC0:=Aside0.mk hc0;clear hr0 hc0;have HB:=Aside0.mk (Below.refl w.heap.size w);have H : (if (wrap64 (a1 - (l0.length : Int))) < 0 then (some (-1)) else (laws_szLeafS.l0 k l0 (wrap64 (a1 - (l0.length : Int))) 0)) = some r:=h;clear h
 by_cases c3 : (wrap64 (a1 - (l0.length : Int))) < 0
 ·rw [if_pos c3] at H;have c3b0 : decide ((wrap64 (a1 - (l0.length : Int))) < 0) = true:=decide_eq_true c3;clear c3;obtain rfl:=Option.some.inj H
  go_enter Try.func115,Try.ntmps115
  go_wp2
  go_ret
  exact ⟨by first | rfl | (simp [errW_none,errW_some] <;> rfl) | (simp [*,errW_none,errW_some] <;> rfl),hs HB⟩
 rw [if_neg c3] at H;have c3b0 : decide ((wrap64 (a1 - (l0.length : Int))) < 0) = false:=decide_eq_false c3;clear c3;have H':=Aside0.mk H;clear H
 go_enter Try.func115,Try.ntmps115
 go_wp2
 go_loopg [1,5] k (fun kq v1 v5 w'=>∃ (x1_1 : Int) (x5_1 : Int),v1 = .int .i64 x1_1 ∧ v5 = .int .i64 x5_1 ∧ Aside0 (laws_szLeafS.l0 kq l0 x1_1 x5_1 = some r) ∧ Aside0 (kq ≤ k) ∧ Aside0 (Below w.heap.size w w'));case atStart=>exact ⟨(wrap64 (a1 - (l0.length : Int))),(0),(by first | rfl | (simp;done) | (simp [*];done)),(by first | rfl | (simp;done) | (simp [*];done)),H',⟨Nat.le_refl _⟩,⟨hs HB⟩⟩
 case round =>
  clear H'
  try clear c1
  try clear p2
  try clear c3
  try clear c3b0
  obtain ⟨x1_1,x5_1,rfl,rfl,HA,HK1,HB⟩:=hrel;cases gk with
  | zero=>exact absurd HA.out (by simp [laws_szLeafS.l0])
  | succ k1 =>
   have H:=HA.out;clear HA;simp only [laws_szLeafS.l0] at H
   by_cases c4 : x5_1 < (l0.length : Int)
   ·rw [if_pos c4] at H;have c4b0 : decide (x5_1 < (l0.length : Int)) = true:=decide_eq_true c4;clear c4
    by_cases c5 : 0 ≤ x5_1
    ·rw [if_pos c5] at H;have c5b0 : decide (0 ≤ x5_1) = true:=decide_eq_true c5;clear c5;replace H:=Option.bind_eq_some_iff.mp H;obtain ⟨t375,A60,H⟩:=H;replace H : (if t375 < 0 then (some (-1)) else (laws_szLeafS.l0 k1 l0 t375 (wrap64 (x5_1 + 1)))) = some r:=H;have A6:=Aside0.mk A60;clear A60
     by_cases c7 : t375 < 0
     ·rw [if_pos c7] at H;have c7b0 : decide (t375 < 0) = true:=decide_eq_true c7;clear c7;obtain rfl:=Option.some.inj H;have p374 : 0 ≤ (x5_1 : Int):=of_decide_eq_true (by first | (with_reducible assumption) | assumption);have q374 : x5_1 < (l0.length : Int):=of_decide_eq_true (by first | (with_reducible assumption) | assumption);obtain ⟨ad374,e374,hx374_0,hx374_1⟩:=at_T163 HR0.out x5_1 p374 q374;cases e374;replace hx374_0:=(HB.out.cell (World.block_lt_of_cell? w _ hx374_0)).trans hx374_0;replace hx374_1:=(HB.out.cell (World.block_lt_of_cell? w _ hx374_1)).trans hx374_1;replace p374:=eq_true p374;replace q374:=eq_true q374;go_wp2_with (first | ((with_reducible refine gate_callee (f:=121) rfl ?_);refine goesL_ (some 23) rfl rfl Try.func121 (by kernel_rfl) rfl #[.agg #[.int .i64 ((rd_T163 l0 x5_1).f0),.string ((rd_T163 l0 x5_1).f1)],.int .i64 x1_1] rfl (by (try simp only [List.map_toArray,List.map_cons,List.map_nil]);first | done | rfl | (simp only [List.length_drop,List.length_take];rfl)) ?_;(with_reducible refine (laws_szLeaf.calls ((rd_T163 l0 x5_1).f0) ((rd_T163 l0 x5_1).f1) x1_1 t375 _ A6.out).mono ?_);rintro e w8 ⟨rfl,hb⟩;refine ⟨_,rfl,?_⟩;have n0_:=Aside0.mk (below_step (hs HB) hb);clear HB;have HB:=n0_;clear n0_;(try clear hb);(try clear hb2);(try clear hk);(try clear hi)))
      go_ret
      exact ⟨by first | rfl | (simp [errW_none,errW_some] <;> rfl) | (simp [*,errW_none,errW_some] <;> rfl),hs HB⟩
     rw [if_neg c7] at H;have c7b0 : decide (t375 < 0) = false:=decide_eq_false c7;clear c7;have H':=Aside0.mk H;clear H;have p374 : 0 ≤ (x5_1 : Int):=of_decide_eq_true (by first | (with_reducible assumption) | assumption);have q374 : x5_1 < (l0.length : Int):=of_decide_eq_true (by first | (with_reducible assumption) | assumption);obtain ⟨ad374,e374,hx374_0,hx374_1⟩:=at_T163 HR0.out x5_1 p374 q374;cases e374;replace hx374_0:=(HB.out.cell (World.block_lt_of_cell? w _ hx374_0)).trans hx374_0;replace hx374_1:=(HB.out.cell (World.block_lt_of_cell? w _ hx374_1)).trans hx374_1;replace p374:=eq_true p374;replace q374:=eq_true q374;go_wp2_with (first | ((with_reducible refine gate_callee (f:=121) rfl ?_);refine goesL_ (some 23) rfl rfl Try.func121 (by kernel_rfl) rfl #[.agg #[.int .i64 ((rd_T163 l0 x5_1).f0),.string ((rd_T163 l0 x5_1).f1)],.int .i64 x1_1] rfl (by (try simp only [List.map_toArray,List.map_cons,List.map_nil]);first | done | rfl | (simp only [List.length_drop,List.length_take];rfl)) ?_;(with_reducible refine (laws_szLeaf.calls ((rd_T163 l0 x5_1).f0) ((rd_T163 l0 x5_1).f1) x1_1 t375 _ A6.out).mono ?_);rintro e w9 ⟨rfl,hb⟩;refine ⟨_,rfl,?_⟩;have n0_:=Aside0.mk (below_step (hs HB) hb);clear HB;have HB:=n0_;clear n0_;(try clear hb);(try clear hb2);(try clear hk);(try clear hi)));go_roundg k1;case measure=>have:=HK1.out;omega
     case rel=>exact ⟨(t375),(wrap64 (x5_1 + 1)),(by first | rfl | (simp;done) | (simp [*];done)),(by first | rfl | (simp;done) | (simp [*];done)),H',⟨by have:=HK1.out;omega⟩,⟨hs HB⟩⟩
    rw [if_neg c5] at H;exact absurd H (by simp)
   rw [if_neg c4] at H;have c4b0 : decide (x5_1 < (l0.length : Int)) = false:=decide_eq_false c4;clear c4;obtain rfl:=Option.some.inj H
   go_wp2
   go_ret
   exact ⟨by first | rfl | (simp [errW_none,errW_some] <;> rfl) | (simp [*,errW_none,errW_some] <;> rfl),hs HB⟩
end Go.Proofs.Ytijbejiajaiciaa.PC

namespace Go.Proofs.Ytijbejiajaiciaa.PC
open Go.RowKit Go.Proofs.YtijbejiajaiciaaW.PrintWords Go.Proofs.YtijbejiajaiciaaW.PrintLast Go.Proofs.YtijbejiajaiciaaW.PrintMore
attribute [local go_sem] max2_int min2_int max_two min_two max_three min_three max_four min_four   -- for this text's walks alone
set_option linter.unusedVariables false
set_option linter.unusedSimpArgs false
def laws_szBlock.f (k : Nat) (a0_0 : Bool) (a0_1 : Int) (l0_2 : List (S163)) (a1 : Int) : Option (Int):=(laws_szLeafS.f k l0_2 a1).bind fun t377=>(if t377 < 0 then (some (-1)) else (some t377))
theorem laws_szBlock.mono : ∀ a0 a1 a2 a3 k,LeO (laws_szBlock.f k a0 a1 a2 a3) (laws_szBlock.f (k + 1) a0 a1 a2 a3):=by
 intro a0 a1 a2 a3 k;unfold laws_szBlock.f
 repeat' first
   | (with_reducible exact laws_szLeafS.mono _ _ _)
   | (with_reducible exact LeO.refl _)
   | (with_reducible exact LeO.none _)
   | (with_reducible refine LeO.ite ?_ ?_)
   | (with_reducible refine LeO.bind ?_ (fun _=>?_))
   | exact laws_szLeafS.mono _ _ _
   | exact LeO.none _
   | refine LeO.ite ?_ ?_
   | refine LeO.bind ?_ (fun _=>?_)
set_option maxHeartbeats 8000000 in
set_option maxRecDepth 100000 in
theorem laws_szBlock.calls (k : Nat) (a0_0 : Bool) (a0_1 : Int) (A0_2 : Option Addr) (c0_2 : Nat) (l0_2 : List (S163)) (a1 : Int) (r : Int) (w : World) (hr0_2 : Kd.C k163 w A0_2 l0_2.length l0_2) (hc0_2 : l0_2.length ≤ c0_2) (h : laws_szBlock.f k a0_0 a0_1 l0_2 a1 = some r) :
  Calls Try.prog 101 #[.agg #[.bool a0_0,.int .i64 a0_1,.slice A0_2 l0_2.length c0_2],.int .i64 a1] w fun e w'=>e = .returned (.int .i64 r) ∧ Below w.heap.size w w':=by
 have hu144:=Try.underlying144;have HR0_2:=Aside0.mk hr0_2;have HC0_2:=Aside0.mk hc0_2;clear hr0_2 hc0_2;have HB:=Aside0.mk (Below.refl w.heap.size w);have H : ((laws_szLeafS.f k l0_2 a1).bind fun t377=>(if t377 < 0 then (some (-1)) else (some t377))) = some r:=h;clear h;replace H:=Option.bind_eq_some_iff.mp H;obtain ⟨t377,A30,H⟩:=H;replace H : (if t377 < 0 then (some (-1)) else (some t377)) = some r:=H;have A3:=Aside0.mk A30;clear A30
 by_cases c4 : t377 < 0
 ·rw [if_pos c4] at H;have c4b0 : decide (t377 < 0) = true:=decide_eq_true c4;clear c4;obtain rfl:=Option.some.inj H
  go_enter Try.func101,Try.ntmps101
  go_wp2_with (first | ((with_reducible refine gate_dst (N:=2) rfl ?_);refine box_event ?hg (N:=2) ?hd (cs:=#[.bool a0_0,.int .i64 a0_1,.slice A0_2 l0_2.length c0_2]) (t:=144) ?hr ?_;(case hd=>rfl);(case hg=>rfl);(case hr=>first | (go_simp;done) | (go_simp;rfl));intro gb376 hg w5 hbox hb;have n0_:=Aside0.mk (below_step (hs HB) hb);have n1_:=Aside0.mk (hbox);have n2_:=Aside0.mk ((by rw [hg];exact (below_size (hs HB)) : w.heap.size ≤ gb376));have n3_:=Aside0.mk ((by rw [hg];exact (below_size (hs HB)) : w.heap.size ≤ gb376));clear HB;have HB:=n0_;have BK376:=n1_;have GW376:=n2_;have GE376:=n3_;clear n0_ n1_ n2_ n3_;clear hb hbox hg;have hcz6_0 : w5.cell? ⟨gb376,0,none⟩ = some (.bool a0_0):=(blk_cell BK376.out 0).trans rfl;have hcz6_1 : w5.cell? ⟨gb376,1,none⟩ = some (.int .i64 a0_1):=(blk_cell BK376.out 1).trans rfl;have hcz6_2 : w5.cell? ⟨gb376,2,none⟩ = some (.slice A0_2 l0_2.length c0_2):=(blk_cell BK376.out 2).trans rfl;have hfz6_0:=blk_frozen BK376.out 0;have hfz6_1:=blk_frozen BK376.out 1;have hfz6_2:=blk_frozen BK376.out 2) | ((with_reducible refine gate_callee (f:=115) rfl ?_);refine goesL_ (some 8) rfl rfl Try.func115 (by kernel_rfl) rfl #[.slice A0_2 l0_2.length c0_2,.int .i64 a1] rfl (by (try simp only [List.map_toArray,List.map_cons,List.map_nil]);first | done | rfl | (simp only [List.length_drop,List.length_take];rfl)) ?_;(with_reducible refine (laws_szLeafS.calls k _ _ l0_2 a1 t377 _ ?side1 ?side2 A3.out).mono ?_);(case side1=>repeat (first | exact (Kd.C_below HR0_2.out HB.out) | (with_reducible refine Kd.C_alloc ?_ _) | (with_reducible refine Kd.C_drewN ?_ _) | (with_reducible refine Kd.C_drew ?_)));(case side2=>exact HC0_2.out);rintro e w7 ⟨rfl,hb⟩;refine ⟨_,rfl,?_⟩;have n0_:=Aside0.mk (blk_below (g:=gb376) (o:=.cells #[.bool a0_0,.int .i64 a0_1,.slice A0_2 l0_2.length c0_2] 144 (0,0)) (bs BK376) hb);have n1_:=Aside0.mk (below_step (hs1 HB GE376) hb);clear BK376;clear HB;have BK376:=n0_;have HB:=n1_;clear n0_ n1_;(try clear hb);(try clear hb2);(try clear hk);(try clear hi)))
  go_ret
  exact ⟨by first | rfl | (simp [errW_none,errW_some] <;> rfl) | (simp [*,errW_none,errW_some] <;> rfl),hs1 HB GE376⟩
 rw [if_neg c4] at H;have c4b0 : decide (t377 < 0) = false:=decide_eq_false c4;clear c4;obtain rfl:=Option.some.inj H
 go_enter Try.func101,Try.ntmps101
 go_wp2_with (first | ((with_reducible refine gate_dst (N:=2) rfl ?_);refine box_event ?hg (N:=2) ?hd (cs:=#[.bool a0_0,.int .i64 a0_1,.slice A0_2 l0_2.length c0_2]) (t:=144) ?hr ?_;(case hd=>rfl);(case hg=>rfl);(case hr=>first | (go_simp;done) | (go_simp;rfl));intro gb376 hg w8 hbox hb;have n0_:=Aside0.mk (below_step (hs HB) hb);have n1_:=Aside0.mk (hbox);have n2_:=Aside0.mk ((by rw [hg];exact (below_size (hs HB)) : w.heap.size ≤ gb376));have n3_:=Aside0.mk ((by rw [hg];exact (below_size (hs HB)) : w.heap.size ≤ gb376));clear HB;have HB:=n0_;have BK376:=n1_;have GW376:=n2_;have GE376:=n3_;clear n0_ n1_ n2_ n3_;clear hb hbox hg;have hcz9_0 : w8.cell? ⟨gb376,0,none⟩ = some (.bool a0_0):=(blk_cell BK376.out 0).trans rfl;have hcz9_1 : w8.cell? ⟨gb376,1,none⟩ = some (.int .i64 a0_1):=(blk_cell BK376.out 1).trans rfl;have hcz9_2 : w8.cell? ⟨gb376,2,none⟩ = some (.slice A0_2 l0_2.length c0_2):=(blk_cell BK376.out 2).trans rfl;have hfz9_0:=blk_frozen BK376.out 0;have hfz9_1:=blk_frozen BK376.out 1;have hfz9_2:=blk_frozen BK376.out 2) | ((with_reducible refine gate_callee (f:=115) rfl ?_);refine goesL_ (some 8) rfl rfl Try.func115 (by kernel_rfl) rfl #[.slice A0_2 l0_2.length c0_2,.int .i64 a1] rfl (by (try simp only [List.map_toArray,List.map_cons,List.map_nil]);first | done | rfl | (simp only [List.length_drop,List.length_take];rfl)) ?_;(with_reducible refine (laws_szLeafS.calls k _ _ l0_2 a1 t377 _ ?side1 ?side2 A3.out).mono ?_);(case side1=>repeat (first | exact (Kd.C_below HR0_2.out HB.out) | (with_reducible refine Kd.C_alloc ?_ _) | (with_reducible refine Kd.C_drewN ?_ _) | (with_reducible refine Kd.C_drew ?_)));(case side2=>exact HC0_2.out);rintro e w10 ⟨rfl,hb⟩;refine ⟨_,rfl,?_⟩;have n0_:=Aside0.mk (blk_below (g:=gb376) (o:=.cells #[.bool a0_0,.int .i64 a0_1,.slice A0_2 l0_2.length c0_2] 144 (0,0)) (bs BK376) hb);have n1_:=Aside0.mk (below_step (hs1 HB GE376) hb);clear BK376;clear HB;have BK376:=n0_;have HB:=n1_;clear n0_ n1_;(try clear hb);(try clear hb2);(try clear hk);(try clear hi)))
 go_ret
 exact ⟨by first | rfl | (simp [errW_none,errW_some] <;> rfl) | (simp [*,errW_none,errW_some] <;> rfl),hs1 HB GE376⟩
end Go.Proofs.Ytijbejiajaiciaa.PC

namespace Go.Proofs.Ytijbejiajaiciaa.PC
open Go.RowKit Go.Proofs.YtijbejiajaiciaaW.PrintWords Go.Proofs.YtijbejiajaiciaaW.PrintLast Go.Proofs.YtijbejiajaiciaaW.PrintMore
attribute [local go_sem] max2_int min2_int max_two min_two max_three min_three max_four min_four   -- for this text's walks alone
set_option linter.unusedVariables false
set_option linter.unusedSimpArgs false
def laws_szBlockS.l0 : Nat → List (S144) → Int → Int → Option (Int)
 | 0,_,_,_=>none
 | k + 1,x0,x1,x5=>if x5 < (x0.length : Int) then (if 0 ≤ x5 then ((laws_szBlock.f k ((rd_T144 x0 x5).f0) ((rd_T144 x0 x5).f1) ((rd_T144 x0 x5).f2) x1).bind fun t379=>(if t379 < 0 then (some (-1)) else (laws_szBlockS.l0 k x0 t379 (wrap64 (x5 + 1))))) else (none)) else (some x1)
def laws_szBlockS.f (k : Nat) (l0 : List (S144)) (a1 : Int) : Option (Int):=if (wrap64 (a1 - (l0.length : Int))) < 0 then (some (-1)) else (laws_szBlockS.l0 k l0 (wrap64 (a1 - (l0.length : Int))) 0)
theorem laws_szBlockS.mono_l : ∀ k,(∀ y0 y1 y2,LeO (laws_szBlockS.l0 k y0 y1 y2) (laws_szBlockS.l0 (k + 1) y0 y1 y2))
 | 0=>fun _ _ _ r h=>by simp [laws_szBlockS.l0] at h
 | k + 1=>by
  have ih0:=laws_szBlockS.mono_l k;intro y0 y1 y2;unfold laws_szBlockS.l0
  repeat' first
  | (with_reducible exact ih0 _ _ _)
  | (with_reducible exact laws_szBlock.mono _ _ _ _ _)
  | (with_reducible exact LeO.refl _)
  | (with_reducible exact LeO.none _)
  | (with_reducible refine LeO.ite ?_ ?_)
  | (with_reducible refine LeO.bind ?_ (fun _=>?_))
  | exact ih0 _ _ _
  | exact laws_szBlock.mono _ _ _ _ _
  | exact LeO.none _
  | refine LeO.ite ?_ ?_
  | refine LeO.bind ?_ (fun _=>?_)
theorem laws_szBlockS.mono : ∀ a0 a1 k,LeO (laws_szBlockS.f k a0 a1) (laws_szBlockS.f (k + 1) a0 a1):=by
 intro a0 a1 k;have ih0:=laws_szBlockS.mono_l k;unfold laws_szBlockS.f
 repeat' first
   | (with_reducible exact ih0 _ _ _)
   | (with_reducible exact laws_szBlock.mono _ _ _ _ _)
   | (with_reducible exact LeO.refl _)
   | (with_reducible exact LeO.none _)
   | (with_reducible refine LeO.ite ?_ ?_)
   | (with_reducible refine LeO.bind ?_ (fun _=>?_))
   | exact ih0 _ _ _
   | exact laws_szBlock.mono _ _ _ _ _
   | exact LeO.none _
   | refine LeO.ite ?_ ?_
   | refine LeO.bind ?_ (fun _=>?_)
set_option maxHeartbeats 8000000 in
set_option maxRecDepth 100000 in
theorem laws_szBlockS.calls (k : Nat) (A0 : Option Addr) (c0 : Nat) (l0 : List (S144)) (a1 : Int) (r : Int) (w : World) (hr0 : Kd.C k144 w A0 l0.length l0) (hc0 : l0.length ≤ c0) (h : laws_szBlockS.f k l0 a1 = some r) :
  Calls Try.prog 69 #[.slice A0 l0.length c0,.int .i64 a1] w fun e w'=>e = .returned (.int .i64 r) ∧ Below w.heap.size w w':=by
 have hu144:=Try.underlying144;have HR0:=Aside0.mk hr0;have HC0:=Aside0.mk hc0;clear hr0 hc0;have HB:=Aside0.mk (Below.refl w.heap.size w);have H : (if (wrap64 (a1 - (l0.length : Int))) < 0 then (some (-1)) else (laws_szBlockS.l0 k l0 (wrap64 (a1 - (l0.length : Int))) 0)) = some r:=h;clear h
 by_cases c3 : (wrap64 (a1 - (l0.length : Int))) < 0
 ·rw [if_pos c3] at H;have c3b0 : decide ((wrap64 (a1 - (l0.length : Int))) < 0) = true:=decide_eq_true c3;clear c3;obtain rfl:=Option.some.inj H
  go_enter Try.func69,Try.ntmps69
  go_wp2
  go_ret
  exact ⟨by first | rfl | (simp [errW_none,errW_some] <;> rfl) | (simp [*,errW_none,errW_some] <;> rfl),hs HB⟩
 rw [if_neg c3] at H;have c3b0 : decide ((wrap64 (a1 - (l0.length : Int))) < 0) = false:=decide_eq_false c3;clear c3;have H':=Aside0.mk H;clear H
 go_enter Try.func69,Try.ntmps69
 go_wp2
 go_loopg [1,5] k (fun kq v1 v5 w'=>∃ (x1_1 : Int) (x5_1 : Int),v1 = .int .i64 x1_1 ∧ v5 = .int .i64 x5_1 ∧ Aside0 (laws_szBlockS.l0 kq l0 x1_1 x5_1 = some r) ∧ Aside0 (kq ≤ k) ∧ Aside0 (Below w.heap.size w w'));case atStart=>exact ⟨(wrap64 (a1 - (l0.length : Int))),(0),(by first | rfl | (simp;done) | (simp [*];done)),(by first | rfl | (simp;done) | (simp [*];done)),H',⟨Nat.le_refl _⟩,⟨hs HB⟩⟩
 case round =>
  clear H'
  try clear p2
  try clear c3
  try clear c3b0
  obtain ⟨x1_1,x5_1,rfl,rfl,HA,HK1,HB⟩:=hrel;cases gk with
  | zero=>exact absurd HA.out (by simp [laws_szBlockS.l0])
  | succ k1 =>
   have H:=HA.out;clear HA;simp only [laws_szBlockS.l0] at H
   by_cases c4 : x5_1 < (l0.length : Int)
   ·rw [if_pos c4] at H;have c4b0 : decide (x5_1 < (l0.length : Int)) = true:=decide_eq_true c4;clear c4
    by_cases c5 : 0 ≤ x5_1
    ·rw [if_pos c5] at H;have c5b0 : decide (0 ≤ x5_1) = true:=decide_eq_true c5;clear c5;replace H:=Option.bind_eq_some_iff.mp H;obtain ⟨t379,A60,H⟩:=H;replace H : (if t379 < 0 then (some (-1)) else (laws_szBlockS.l0 k1 l0 t379 (wrap64 (x5_1 + 1)))) = some r:=H;have A6:=Aside0.mk A60;clear A60
     by_cases c7 : t379 < 0
     ·rw [if_pos c7] at H;have c7b0 : decide (t379 < 0) = true:=decide_eq_true c7;clear c7;obtain rfl:=Option.some.inj H;have p378 : 0 ≤ (x5_1 : Int):=of_decide_eq_true (by first | (with_reducible assumption) | assumption);have q378 : x5_1 < (l0.length : Int):=of_decide_eq_true (by first | (with_reducible assumption) | assumption);obtain ⟨ad378,A378_2,c378_2,e378,hx378_0,hx378_1,hx378_2,hl378_2,hi378_2⟩:=at_T144 HR0.out x5_1 p378 q378;cases e378;replace hx378_0:=(HB.out.cell (World.block_lt_of_cell? w _ hx378_0)).trans hx378_0;replace hx378_1:=(HB.out.cell (World.block_lt_of_cell? w _ hx378_1)).trans hx378_1;replace hx378_2:=(HB.out.cell (World.block_lt_of_cell? w _ hx378_2)).trans hx378_2;have HR378_2:=Aside0.mk hi378_2;have HC378_2:=Aside0.mk hl378_2;clear hi378_2 hl378_2;replace p378:=eq_true p378;replace q378:=eq_true q378;go_wp2_with (first | ((with_reducible refine gate_callee (f:=101) rfl ?_);refine goesL_ (some 23) rfl rfl Try.func101 (by kernel_rfl) rfl #[.agg #[.bool ((rd_T144 l0 x5_1).f0),.int .i64 ((rd_T144 l0 x5_1).f1),.slice A378_2 ((rd_T144 l0 x5_1).f2).length c378_2],.int .i64 x1_1] rfl (by (try simp only [List.map_toArray,List.map_cons,List.map_nil]);first | done | rfl | (simp only [List.length_drop,List.length_take];rfl)) ?_;(with_reducible refine (laws_szBlock.calls k1 ((rd_T144 l0 x5_1).f0) ((rd_T144 l0 x5_1).f1) _ _ ((rd_T144 l0 x5_1).f2) x1_1 t379 _ ?side1 ?side2 A6.out).mono ?_);(case side1=>repeat (first | exact (Kd.C_below HR378_2.out HB.out) | (with_reducible refine Kd.C_alloc ?_ _) | (with_reducible refine Kd.C_drewN ?_ _) | (with_reducible refine Kd.C_drew ?_)));(case side2=>exact HC378_2.out);rintro e w8 ⟨rfl,hb⟩;refine ⟨_,rfl,?_⟩;have n0_:=Aside0.mk (below_step (hs HB) hb);clear HB;have HB:=n0_;clear n0_;(try clear hb);(try clear hb2);(try clear hk);(try clear hi)))
      go_ret
      exact ⟨by first | rfl | (simp [errW_none,errW_some] <;> rfl) | (simp [*,errW_none,errW_some] <;> rfl),hs HB⟩
     rw [if_neg c7] at H;have c7b0 : decide (t379 < 0) = false:=decide_eq_false c7;clear c7;have H':=Aside0.mk H;clear H;have p378 : 0 ≤ (x5_1 : Int):=of_decide_eq_true (by first | (with_reducible assumption) | assumption);have q378 : x5_1 < (l0.length : Int):=of_decide_eq_true (by first | (with_reducible assumption) | assumption);obtain ⟨ad378,A378_2,c378_2,e378,hx378_0,hx378_1,hx378_2,hl378_2,hi378_2⟩:=at_T144 HR0.out x5_1 p378 q378;cases e378;replace hx378_0:=(HB.out.cell (World.block_lt_of_cell? w _ hx378_0)).trans hx378_0;replace hx378_1:=(HB.out.cell (World.block_lt_of_cell? w _ hx378_1)).trans hx378_1;replace hx378_2:=(HB.out.cell (World.block_lt_of_cell? w _ hx378_2)).trans hx378_2;have HR378_2:=Aside0.mk hi378_2;have HC378_2:=Aside0.mk hl378_2;clear hi378_2 hl378_2;replace p378:=eq_true p378;replace q378:=eq_true q378;go_wp2_with (first | ((with_reducible refine gate_callee (f:=101) rfl ?_);refine goesL_ (some 23) rfl rfl Try.func101 (by kernel_rfl) rfl #[.agg #[.bool ((rd_T144 l0 x5_1).f0),.int .i64 ((rd_T144 l0 x5_1).f1),.slice A378_2 ((rd_T144 l0 x5_1).f2).length c378_2],.int .i64 x1_1] rfl (by (try simp only [List.map_toArray,List.map_cons,List.map_nil]);first | done | rfl | (simp only [List.length_drop,List.length_take];rfl)) ?_;(with_reducible refine (laws_szBlock.calls k1 ((rd_T144 l0 x5_1).f0) ((rd_T144 l0 x5_1).f1) _ _ ((rd_T144 l0 x5_1).f2) x1_1 t379 _ ?side1 ?side2 A6.out).mono ?_);(case side1=>repeat (first | exact (Kd.C_below HR378_2.out HB.out) | (with_reducible refine Kd.C_alloc ?_ _) | (with_reducible refine Kd.C_drewN ?_ _) | (with_reducible refine Kd.C_drew ?_)));(case side2=>exact HC378_2.out);rintro e w9 ⟨rfl,hb⟩;refine ⟨_,rfl,?_⟩;have n0_:=Aside0.mk (below_step (hs HB) hb);clear HB;have HB:=n0_;clear n0_;(try clear hb);(try clear hb2);(try clear hk);(try clear hi)));go_roundg k1;case measure=>have:=HK1.out;omega
     case rel=>exact ⟨(t379),(wrap64 (x5_1 + 1)),(by first | rfl | (simp;done) | (simp [*];done)),(by first | rfl | (simp;done) | (simp [*];done)),H',⟨by have:=HK1.out;omega⟩,⟨hs HB⟩⟩
    rw [if_neg c5] at H;exact absurd H (by simp)
   rw [if_neg c4] at H;have c4b0 : decide (x5_1 < (l0.length : Int)) = false:=decide_eq_false c4;clear c4;obtain rfl:=Option.some.inj H
   go_wp2
   go_ret
   exact ⟨by first | rfl | (simp [errW_none,errW_some] <;> rfl) | (simp [*,errW_none,errW_some] <;> rfl),hs HB⟩
end Go.Proofs.Ytijbejiajaiciaa.PC

namespace Go.Proofs.Ytijbejiajaiciaa.PC
open Go.RowKit Go.Proofs.YtijbejiajaiciaaW.PrintWords Go.Proofs.YtijbejiajaiciaaW.PrintLast Go.Proofs.YtijbejiajaiciaaW.PrintMore
attribute [local go_sem] max2_int min2_int max_two min_two max_three min_three max_four min_four   -- for this text's walks alone
set_option linter.unusedVariables false
set_option linter.unusedSimpArgs false
def laws_szFlash.f (k : Nat) (l0_0 : List (S144)) (a1 : Int) : Option (Int):=(laws_szBlockS.f k l0_0 a1).bind fun t381=>(if t381 < 0 then (some (-1)) else (some t381))
theorem laws_szFlash.mono : ∀ a0 a1 k,LeO (laws_szFlash.f k a0 a1) (laws_szFlash.f (k + 1) a0 a1):=by
 intro a0 a1 k;unfold laws_szFlash.f
 repeat' first
   | (with_reducible exact laws_szBlockS.mono _ _ _)
   | (with_reducible exact LeO.refl _)
   | (with_reducible exact LeO.none _)
   | (with_reducible refine LeO.ite ?_ ?_)
   | (with_reducible refine LeO.bind ?_ (fun _=>?_))
   | exact laws_szBlockS.mono _ _ _
   | exact LeO.none _
   | refine LeO.ite ?_ ?_
   | refine LeO.bind ?_ (fun _=>?_)
set_option maxHeartbeats 8000000 in
set_option maxRecDepth 100000 in
theorem laws_szFlash.calls (k : Nat) (A0_0 : Option Addr) (c0_0 : Nat) (l0_0 : List (S144)) (a1 : Int) (r : Int) (w : World) (hr0_0 : Kd.C k144 w A0_0 l0_0.length l0_0) (hc0_0 : l0_0.length ≤ c0_0) (h : laws_szFlash.f k l0_0 a1 = some r) :
  Calls Try.prog 31 #[.agg #[.slice A0_0 l0_0.length c0_0],.int .i64 a1] w fun e w'=>e = .returned (.int .i64 r) ∧ Below w.heap.size w w':=by
 have hu54:=Try.underlying54;have HR0_0:=Aside0.mk hr0_0;have HC0_0:=Aside0.mk hc0_0;clear hr0_0 hc0_0;have HB:=Aside0.mk (Below.refl w.heap.size w);have H : ((laws_szBlockS.f k l0_0 a1).bind fun t381=>(if t381 < 0 then (some (-1)) else (some t381))) = some r:=h;clear h;replace H:=Option.bind_eq_some_iff.mp H;obtain ⟨t381,A30,H⟩:=H;replace H : (if t381 < 0 then (some (-1)) else (some t381)) = some r:=H;have A3:=Aside0.mk A30;clear A30
 by_cases c4 : t381 < 0
 ·rw [if_pos c4] at H;have c4b0 : decide (t381 < 0) = true:=decide_eq_true c4;clear c4;obtain rfl:=Option.some.inj H
  go_enter Try.func31,Try.ntmps31
  go_wp2_with (first | ((with_reducible refine gate_dst (N:=2) rfl ?_);refine box_event ?hg (N:=2) ?hd (cs:=#[.slice A0_0 l0_0.length c0_0]) (t:=54) ?hr ?_;(case hd=>rfl);(case hg=>rfl);(case hr=>first | (go_simp;done) | (go_simp;rfl));intro gb380 hg w5 hbox hb;have n0_:=Aside0.mk (below_step (hs HB) hb);have n1_:=Aside0.mk (hbox);have n2_:=Aside0.mk ((by rw [hg];exact (below_size (hs HB)) : w.heap.size ≤ gb380));have n3_:=Aside0.mk ((by rw [hg];exact (below_size (hs HB)) : w.heap.size ≤ gb380));clear HB;have HB:=n0_;have BK380:=n1_;have GW380:=n2_;have GE380:=n3_;clear n0_ n1_ n2_ n3_;clear hb hbox hg;have hcz6_0 : w5.cell? ⟨gb380,0,none⟩ = some (.slice A0_0 l0_0.length c0_0):=(blk_cell BK380.out 0).trans rfl;have hfz6_0:=blk_frozen BK380.out 0) | ((with_reducible refine gate_callee (f:=69) rfl ?_);refine goesL_ (some 8) rfl rfl Try.func69 (by kernel_rfl) rfl #[.slice A0_0 l0_0.length c0_0,.int .i64 a1] rfl (by (try simp only [List.map_toArray,List.map_cons,List.map_nil]);first | done | rfl | (simp only [List.length_drop,List.length_take];rfl)) ?_;(with_reducible refine (laws_szBlockS.calls k _ _ l0_0 a1 t381 _ ?side1 ?side2 A3.out).mono ?_);(case side1=>repeat (first | exact (Kd.C_below HR0_0.out HB.out) | (with_reducible refine Kd.C_alloc ?_ _) | (with_reducible refine Kd.C_drewN ?_ _) | (with_reducible refine Kd.C_drew ?_)));(case side2=>exact HC0_0.out);rintro e w7 ⟨rfl,hb⟩;refine ⟨_,rfl,?_⟩;have n0_:=Aside0.mk (blk_below (g:=gb380) (o:=.cells #[.slice A0_0 l0_0.length c0_0] 54 (0,0)) (bs BK380) hb);have n1_:=Aside0.mk (below_step (hs1 HB GE380) hb);clear BK380;clear HB;have BK380:=n0_;have HB:=n1_;clear n0_ n1_;(try clear hb);(try clear hb2);(try clear hk);(try clear hi)))
  go_ret
  exact ⟨by first | rfl | (simp [errW_none,errW_some] <;> rfl) | (simp [*,errW_none,errW_some] <;> rfl),hs1 HB GE380⟩
 rw [if_neg c4] at H;have c4b0 : decide (t381 < 0) = false:=decide_eq_false c4;clear c4;obtain rfl:=Option.some.inj H
 go_enter Try.func31,Try.ntmps31
 go_wp2_with (first | ((with_reducible refine gate_dst (N:=2) rfl ?_);refine box_event ?hg (N:=2) ?hd (cs:=#[.slice A0_0 l0_0.length c0_0]) (t:=54) ?hr ?_;(case hd=>rfl);(case hg=>rfl);(case hr=>first | (go_simp;done) | (go_simp;rfl));intro gb380 hg w8 hbox hb;have n0_:=Aside0.mk (below_step (hs HB) hb);have n1_:=Aside0.mk (hbox);have n2_:=Aside0.mk ((by rw [hg];exact (below_size (hs HB)) : w.heap.size ≤ gb380));have n3_:=Aside0.mk ((by rw [hg];exact (below_size (hs HB)) : w.heap.size ≤ gb380));clear HB;have HB:=n0_;have BK380:=n1_;have GW380:=n2_;have GE380:=n3_;clear n0_ n1_ n2_ n3_;clear hb hbox hg;have hcz9_0 : w8.cell? ⟨gb380,0,none⟩ = some (.slice A0_0 l0_0.length c0_0):=(blk_cell BK380.out 0).trans rfl;have hfz9_0:=blk_frozen BK380.out 0) | ((with_reducible refine gate_callee (f:=69) rfl ?_);refine goesL_ (some 8) rfl rfl Try.func69 (by kernel_rfl) rfl #[.slice A0_0 l0_0.length c0_0,.int .i64 a1] rfl (by (try simp only [List.map_toArray,List.map_cons,List.map_nil]);first | done | rfl | (simp only [List.length_drop,List.length_take];rfl)) ?_;(with_reducible refine (laws_szBlockS.calls k _ _ l0_0 a1 t381 _ ?side1 ?side2 A3.out).mono ?_);(case side1=>repeat (first | exact (Kd.C_below HR0_0.out HB.out) | (with_reducible refine Kd.C_alloc ?_ _) | (with_reducible refine Kd.C_drewN ?_ _) | (with_reducible refine Kd.C_drew ?_)));(case side2=>exact HC0_0.out);rintro e w10 ⟨rfl,hb⟩;refine ⟨_,rfl,?_⟩;have n0_:=Aside0.mk (blk_below (g:=gb380) (o:=.cells #[.slice A0_0 l0_0.length c0_0] 54 (0,0)) (bs BK380) hb);have n1_:=Aside0.mk (below_step (hs1 HB GE380) hb);clear BK380;clear HB;have BK380:=n0_;have HB:=n1_;clear n0_ n1_;(try clear hb);(try clear hb2);(try clear hk);(try clear hi)))
 go_ret
 exact ⟨by first | rfl | (simp [errW_none,errW_some] <;> rfl) | (simp [*,errW_none,errW_some] <;> rfl),hs1 HB GE380⟩
end Go.Proofs.Ytijbejiajaiciaa.PC

namespace Go.Proofs.Ytijbejiajaiciaa.PC
open Go.RowKit Go.Proofs.YtijbejiajaiciaaW.PrintWords Go.Proofs.YtijbejiajaiciaaW.PrintLast Go.Proofs.YtijbejiajaiciaaW.PrintMore
attribute [local go_sem] max2_int min2_int max_two min_two max_three min_three max_four min_four   -- for this text's walks alone
set_option linter.unusedVariables false
set_option linter.unusedSimpArgs false
def laws_toLeaf.f (a0_0 : Int) (a0_1 : ByteArray) : Option (Int × ByteArray):=some (a0_0,a0_1)
set_option maxHeartbeats 8000000 in
set_option maxRecDepth 100000 in
theorem laws_toLeaf.calls (a0_0 : Int) (a0_1 : ByteArray) (r1 : Int) (r2 : ByteArray) (w : World) (h : laws_toLeaf.f a0_0 a0_1 = some (r1,r2)) :
  Calls Try.prog 122 #[.agg #[.int .i64 a0_0,.string a0_1]] w fun e w'=>e = .returned (.agg #[.int .i64 r1,.string r2]) ∧ Below w.heap.size w w':=by
 have hu163:=Try.underlying163;have hu114:=Try.underlying114;have HB:=Aside0.mk (Below.refl w.heap.size w);have H : (some (a0_0,a0_1)) = some (r1,r2):=h;clear h;simp only [Option.some.injEq,Prod.mk.injEq] at H;obtain ⟨rfl,rfl⟩:=H
 go_enter Try.func122,Try.ntmps122
 go_wp2_with (first | ((with_reducible refine gate_dst (N:=1) rfl ?_);refine box_event ?hg (N:=1) ?hd (cs:=#[.int .i64 a0_0,.string a0_1]) (t:=163) ?hr ?_;(case hd=>rfl);(case hg=>rfl);(case hr=>first | (go_simp;done) | (go_simp;rfl));intro gb393 hg w2 hbox hb;have n0_:=Aside0.mk (below_step (hs HB) hb);have n1_:=Aside0.mk (hbox);have n2_:=Aside0.mk ((by rw [hg];exact (below_size (hs HB)) : w.heap.size ≤ gb393));have n3_:=Aside0.mk ((by rw [hg];exact (below_size (hs HB)) : w.heap.size ≤ gb393));clear HB;have HB:=n0_;have BK393:=n1_;have GW393:=n2_;have GE393:=n3_;clear n0_ n1_ n2_ n3_;clear hb hbox hg) | ((with_reducible refine gate_dst (N:=2) rfl ?_);refine box_event ?hg (N:=2) ?hd (cs:=#[.int .i64 0,.string (⟨#[]⟩ : ByteArray)]) (t:=114) ?hr ?_;(case hd=>rfl);(case hg=>rfl);(case hr=>first | (go_simp;done) | (go_simp;rfl));intro gb394 hg w3 hbox hb;have n0_:=Aside0.mk (blk_below (g:=gb393) (o:=.cells #[.int .i64 a0_0,.string a0_1] 163 (0,0)) (bs BK393) hb);have n1_:=Aside0.mk (below_step (hs1 HB GE393) hb);have n2_:=Aside0.mk (hbox);have n3_:=Aside0.mk ((by rw [hg];exact (below_size (hs1 HB GE393)) : w.heap.size ≤ gb394));have n4_:=Aside0.mk ((by rw [hg];exact (below_size (hs1 HB GE393)) : w.heap.size ≤ gb394));have n5_:=Aside0.mk ((by rw [hg];exact Nat.ne_of_lt (blk_lt (g:=gb393) (o:=.cells #[.int .i64 a0_0,.string a0_1] 163 (0,0)) (bs BK393)) : gb393 ≠ gb394));have n6_:=Aside0.mk ((by rw [hg];exact Nat.ne_of_gt (blk_lt (g:=gb393) (o:=.cells #[.int .i64 a0_0,.string a0_1] 163 (0,0)) (bs BK393)) : gb394 ≠ gb393));clear BK393;clear HB;have BK393:=n0_;have HB:=n1_;have BK394:=n2_;have GW394:=n3_;have GE394:=n4_;have NB393_394:=n5_;have NB394_393:=n6_;clear n0_ n1_ n2_ n3_ n4_ n5_ n6_;clear hb hbox hg) | ((with_reducible refine gate_dst (N:=3) rfl ?_);refine box_event ?hg (N:=3) ?hd (cs:=#[.int .i64 0,.string (⟨#[]⟩ : ByteArray)]) (t:=114) ?hr ?_;(case hd=>rfl);(case hg=>rfl);(case hr=>first | (go_simp;done) | (go_simp;rfl));intro gb395 hg w4 hbox hb;have n0_:=Aside0.mk (blk_below (g:=gb393) (o:=.cells #[.int .i64 a0_0,.string a0_1] 163 (0,0)) (bs BK393) hb);have n1_:=Aside0.mk (blk_below (g:=gb394) (o:=.cells #[.int .i64 0,.string (⟨#[]⟩ : ByteArray)] 114 (0,0)) (bs BK394) hb);have n2_:=Aside0.mk (below_step (hs2 HB GE393 GE394) hb);have n3_:=Aside0.mk (hbox);have n4_:=Aside0.mk ((by rw [hg];exact (below_size (hs2 HB GE393 GE394)) : w.heap.size ≤ gb395));have n5_:=Aside0.mk ((by rw [hg];exact (below_size (hs2 HB GE393 GE394)) : w.heap.size ≤ gb395));have n6_:=Aside0.mk ((by rw [hg];exact Nat.ne_of_lt (blk_lt (g:=gb393) (o:=.cells #[.int .i64 a0_0,.string a0_1] 163 (0,0)) (bs BK393)) : gb393 ≠ gb395));have n7_:=Aside0.mk ((by rw [hg];exact Nat.ne_of_gt (blk_lt (g:=gb393) (o:=.cells #[.int .i64 a0_0,.string a0_1] 163 (0,0)) (bs BK393)) : gb395 ≠ gb393));have n8_:=Aside0.mk ((by rw [hg];exact Nat.ne_of_lt (blk_lt (g:=gb394) (o:=.cells #[.int .i64 0,.string (⟨#[]⟩ : ByteArray)] 114 (0,0)) (bs BK394)) : gb394 ≠ gb395));have n9_:=Aside0.mk ((by rw [hg];exact Nat.ne_of_gt (blk_lt (g:=gb394) (o:=.cells #[.int .i64 0,.string (⟨#[]⟩ : ByteArray)] 114 (0,0)) (bs BK394)) : gb395 ≠ gb394));clear BK393;clear BK394;clear HB;have BK393:=n0_;have BK394:=n1_;have HB:=n2_;have BK395:=n3_;have GW395:=n4_;have GE395:=n5_;have NB393_395:=n6_;have NB395_393:=n7_;have NB394_395:=n8_;have NB395_394:=n9_;clear n0_ n1_ n2_ n3_ n4_ n5_ n6_ n7_ n8_ n9_;clear hb hbox hg;have hnb5:=NB393_394.out;have hnc5:=NB394_393.out;have hnb6:=NB393_395.out;have hnc6:=NB395_393.out;have hcz7_0 : w4.cell? ⟨gb393,0,none⟩ = some (.int .i64 a0_0):=(blk_cell BK393.out 0).trans rfl;have hcz7_1 : w4.cell? ⟨gb393,1,none⟩ = some (.string a0_1):=(blk_cell BK393.out 1).trans rfl;have hfz7_0:=blk_frozen BK393.out 0;have hfz7_1:=blk_frozen BK393.out 1;have hnb8:=NB395_394.out;have hnc8:=NB394_395.out;have hcz9_0 : w4.cell? ⟨gb395,0,none⟩ = some (.int .i64 0):=(blk_cell BK395.out 0).trans rfl;have hcz9_1 : w4.cell? ⟨gb395,1,none⟩ = some (.string (⟨#[]⟩ : ByteArray)):=(blk_cell BK395.out 1).trans rfl;have hfz9_0:=blk_frozen BK395.out 0;have hfz9_1:=blk_frozen BK395.out 1;have hcz10_0 : w4.cell? ⟨gb394,0,none⟩ = some (.int .i64 0):=(blk_cell BK394.out 0).trans rfl;have hcz10_1 : w4.cell? ⟨gb394,1,none⟩ = some (.string (⟨#[]⟩ : ByteArray)):=(blk_cell BK394.out 1).trans rfl;have hfz10_0:=blk_frozen BK394.out 0;have hfz10_1:=blk_frozen BK394.out 1));refine bodyPost_ret (results_cell_row rfl _ _ gb394 114 #[.int .i64 a0_0,.string a0_1] (0,0) _ rfl (by (with_reducible repeat (first | refine blk_drewN ?_ _ | refine blk_drew ?_ | refine blk_alloc ?_ _));refine blk_put (cs:=#[.int .i64 a0_0,.string (⟨#[]⟩ : ByteArray)]) ?_ 1 _ rfl;(with_reducible repeat (first | refine blk_drewN ?_ _ | refine blk_drew ?_ | refine blk_alloc ?_ _));refine blk_put (cs:=#[.int .i64 0,.string (⟨#[]⟩ : ByteArray)]) ?_ 0 _ rfl;(with_reducible repeat (first | refine blk_drewN ?_ _ | refine blk_drew ?_ | refine blk_alloc ?_ _));refine blk_far ?_ NB394_395.out _;(with_reducible repeat (first | refine blk_drewN ?_ _ | refine blk_drew ?_ | refine blk_alloc ?_ _));refine blk_far ?_ NB394_395.out _;(with_reducible repeat (first | refine blk_drewN ?_ _ | refine blk_drew ?_ | refine blk_alloc ?_ _));exact BK394.out) Try.underlying114 rfl (by kernel_rfl)) rfl ?_;exact ⟨by first | rfl | (simp [errW_none,errW_some] <;> rfl) | (simp [*,errW_none,errW_some] <;> rfl),hs3 HB GE393 GE394 GE395⟩
end Go.Proofs.Ytijbejiajaiciaa.PC

namespace Go.Proofs.Ytijbejiajaiciaa.PC
open Go.RowKit Go.Proofs.YtijbejiajaiciaaW.PrintWords Go.Proofs.YtijbejiajaiciaaW.PrintLast Go.Proofs.YtijbejiajaiciaaW.PrintMore
attribute [local go_sem] max2_int min2_int max_two min_two max_three min_three max_four min_four   -- for this text's walks alone
set_option linter.unusedVariables false
set_option linter.unusedSimpArgs false
def laws_toLeafS.l0 : Nat → List (S163) → List (S114) → Int → Option ((List (S114)))
 | 0,_,_,_=>none
 | k + 1,x0,x3,x4=>if x4 < (x0.length : Int) then (if 0 ≤ x4 then ((laws_toLeaf.f ((rd_T163 x0 x4).f0) ((rd_T163 x0 x4).f1)).bind fun bt400=>(if x4 < (x3.length : Int) then (laws_toLeafS.l0 k x0 (x3.set (x4 : Int).toNat (⟨bt400.1,bt400.2⟩ : S114)) (wrap64 (x4 + 1))) else (none))) else (none)) else (some x3)
def laws_toLeafS.f (k : Nat) (l0 : List (S163)) : Option ((List (S114))):=if 0 ≤ (l0.length : Int) then (if ((l0.length : Int) : Int).toNat ≤ 11728124029610 then (laws_toLeafS.l0 k l0 (List.replicate ((l0.length : Int) : Int).toNat z114) 0) else (none)) else (none)
theorem laws_toLeafS.mono_l : ∀ k,(∀ y0 y1 y2,LeO (laws_toLeafS.l0 k y0 y1 y2) (laws_toLeafS.l0 (k + 1) y0 y1 y2))
 | 0=>fun _ _ _ r h=>by simp [laws_toLeafS.l0] at h
 | k + 1=>by
  have ih0:=laws_toLeafS.mono_l k;intro y0 y1 y2;unfold laws_toLeafS.l0
  repeat' first
  | (with_reducible exact ih0 _ _ _)
  | (with_reducible exact LeO.refl _)
  | (with_reducible exact LeO.none _)
  | (with_reducible refine LeO.ite ?_ ?_)
  | (with_reducible refine LeO.bind ?_ (fun _=>?_))
  | exact ih0 _ _ _
  | exact LeO.none _
  | refine LeO.ite ?_ ?_
  | refine LeO.bind ?_ (fun _=>?_)
theorem laws_toLeafS.mono : ∀ a0 k,LeO (laws_toLeafS.f k a0) (laws_toLeafS.f (k + 1) a0):=by
 intro a0 k;have ih0:=laws_toLeafS.mono_l k;unfold laws_toLeafS.f
 repeat' first
   | (with_reducible exact ih0 _ _ _)
   | (with_reducible exact LeO.refl _)
   | (with_reducible exact LeO.none _)
   | (with_reducible refine LeO.ite ?_ ?_)
   | (with_reducible refine LeO.bind ?_ (fun _=>?_))
   | exact ih0 _ _ _
   | exact LeO.none _
   | refine LeO.ite ?_ ?_
   | refine LeO.bind ?_ (fun _=>?_)
set_option maxHeartbeats 8000000 in
set_option maxRecDepth 100000 in
theorem laws_toLeafS.calls (k : Nat) (A0 : Option Addr) (c0 : Nat) (l0 : List (S163)) (r : List (S114)) (w : World) (hr0 : Kd.C k163 w A0 l0.length l0) (hc0 : l0.length ≤ c0) (h : laws_toLeafS.f k l0 = some r) :
  Calls Try.prog 116 #[.slice A0 l0.length c0] w fun e w'=>∃ v0_ : Value,e = .returned (v0_) ∧ Kd.R k114 114 w' w.heap.size (fun _=>True) v0_ r ∧ Below w.heap.size w w':=by
 have hu163:=Try.underlying163;have hu114:=Try.underlying114;have HR0:=Aside0.mk hr0;have HC0:=Aside0.mk hc0;clear hr0 hc0;have HB:=Aside0.mk (Below.refl w.heap.size w);have H : (if 0 ≤ (l0.length : Int) then (if ((l0.length : Int) : Int).toNat ≤ 11728124029610 then (laws_toLeafS.l0 k l0 (List.replicate ((l0.length : Int) : Int).toNat z114) 0) else (none)) else (none)) = some r:=h;clear h
 by_cases c2 : 0 ≤ (l0.length : Int)
 ·rw [if_pos c2] at H;have c2b0:=eq_true c2;have c2b1 : decide (0 ≤ (l0.length : Int)) = true:=decide_eq_true c2;clear c2
  by_cases c3 : ((l0.length : Int) : Int).toNat ≤ 11728124029610
  ·rw [if_pos c3] at H;have c3b0:=eq_true c3;have c3b1 : decide (((l0.length : Int) : Int).toNat ≤ 11728124029610) = true:=decide_eq_true c3;clear c3;obtain ⟨y396,hy396⟩ : ∃ y_ : List (S114),y_ = (List.replicate ((l0.length : Int) : Int).toNat z114):=⟨_,rfl⟩;replace H : (laws_toLeafS.l0 k l0 y396 0) = some r:=by first | (rw [hy396];with_reducible exact H) | (have H2_:=(Option.bind_some _ _).symm.trans H;rw [hy396];with_reducible exact H2_) | (have H2_:=(Option.bind_some _ _).symm.trans H;with_reducible exact H2_) | with_reducible exact H | (rw [hy396];exact H) | exact H
   have Ny396:=Aside0.mk hy396;clear hy396;have H':=Aside0.mk H;clear H
   go_enter Try.func116,Try.ntmps116
   go_wp2_with (first | ((with_reducible refine gate_dst (N:=7) rfl ?_);refine Kd.R_make k114 _ 114 rfl (N:=7) rfl 110 _ _ rfl (l0.length : Int) rfl rfl Try.underlying110 (.agg #[(.int .i64 0),(.string ⟨#[]⟩)]) 24 info114 rfl (by decide) (by omega) z114 (ok:=fun _=>True) (okp:=fun _=>True) (k114_mkM _ _ _ z114 ) (fun _ hk=>hk) trivial (of_decide_eq_true (by first | (with_reducible assumption) | assumption)) (Nat.le_trans (Nat.mul_le_mul_right _ (of_decide_eq_true (by first | (with_reducible assumption) | assumption) : (l0.length : Int).toNat ≤ 11728124029610)) (by omega)) (Below.refl _ _) (Nat.le_refl _) ?_;intro v397 w4 ho5 hb hg_ hnew_;clear hg_ hnew_;(first | rw [← Ny396.out] at ho5 | (simp only [Int.reduceToNat] at ho5;rw [← Ny396.out] at ho5));have n0_:=Aside0.mk (Kd.R_lower ho5 (below_size (hs HB)));have n1_:=Aside0.mk (below_step (hs HB) hb);clear HB;have HO398:=n0_;have HB:=n1_;clear n0_ n1_;clear hb ho5));go_loopg [4] k (fun kq v4 w'=>∃ (x3_1 : List (S114)) (x4_1 : Int),v4 = .int .i64 x4_1 ∧ Aside0 (laws_toLeafS.l0 kq l0 x3_1 x4_1 = some r) ∧ Aside0 (kq ≤ k) ∧ Aside0 (Kd.R k114 114 w' w.heap.size (fun _=>True) v397 x3_1) ∧ Aside0 (Below w.heap.size w w'));case atStart=>exact ⟨(y396),(0),(by first | rfl | (simp;done) | (simp [*];done)),H',⟨Nat.le_refl _⟩,⟨rs HO398⟩,⟨hs HB⟩⟩
   case round =>
    clear H'
    try clear c1
    try clear c2
    try clear c2b0
    try clear c2b1
    try clear p2
    try clear c3
    try clear c3b0
    try clear c3b1
    obtain ⟨x3_1,x4_1,rfl,HA,HK1,HO_3,HB⟩:=hrel;cases gk with
    | zero=>exact absurd HA.out (by simp [laws_toLeafS.l0])
    | succ k1 =>
     have H:=HA.out;clear HA;simp only [laws_toLeafS.l0] at H
     by_cases c6 : x4_1 < (l0.length : Int)
     ·rw [if_pos c6] at H;have c6b0 : decide (x4_1 < (l0.length : Int)) = true:=decide_eq_true c6;clear c6
      by_cases c7 : 0 ≤ x4_1
      ·rw [if_pos c7] at H;have c7b0 : decide (0 ≤ x4_1) = true:=decide_eq_true c7;clear c7;replace H:=Option.bind_eq_some_iff.mp H;obtain ⟨⟨t400,t401⟩,A80,H⟩:=H;replace H : (if x4_1 < (x3_1.length : Int) then (laws_toLeafS.l0 k1 l0 (x3_1.set (x4_1 : Int).toNat (⟨t400,t401⟩ : S114)) (wrap64 (x4_1 + 1))) else (none)) = some r:=H;have A8:=Aside0.mk A80;clear A80
       by_cases c9 : x4_1 < (x3_1.length : Int)
       ·rw [if_pos c9] at H;have c9b0 : decide (x4_1 < (x3_1.length : Int)) = true:=decide_eq_true c9;clear c9;obtain ⟨y402,hy402⟩ : ∃ y_ : List (S114),y_ = (x3_1.set (x4_1 : Int).toNat (⟨t400,t401⟩ : S114)):=⟨_,rfl⟩;replace H : (laws_toLeafS.l0 k1 l0 y402 (wrap64 (x4_1 + 1))) = some r:=by first | (rw [hy402];with_reducible exact H) | (have H2_:=(Option.bind_some _ _).symm.trans H;rw [hy402];with_reducible exact H2_) | (have H2_:=(Option.bind_some _ _).symm.trans H;with_reducible exact H2_) | with_reducible exact H | (rw [hy402];exact H) | exact H
        have Ny402:=Aside0.mk hy402;clear hy402;have H':=Aside0.mk H;clear H;have p399 : 0 ≤ (x4_1 : Int):=of_decide_eq_true (by first | (with_reducible assumption) | assumption);have q399 : x4_1 < (l0.length : Int):=of_decide_eq_true (by first | (with_reducible assumption) | assumption);obtain ⟨ad399,e399,hx399_0,hx399_1⟩:=at_T163 HR0.out x4_1 p399 q399;cases e399;replace hx399_0:=(HB.out.cell (World.block_lt_of_cell? w _ hx399_0)).trans hx399_0;replace hx399_1:=(HB.out.cell (World.block_lt_of_cell? w _ hx399_1)).trans hx399_1;replace p399:=eq_true p399;replace q399:=eq_true q399;go_wp2_with (first | ((with_reducible refine gate_callee (f:=122) rfl ?_);refine goesL_ (some 20) rfl rfl Try.func122 (by kernel_rfl) rfl #[.agg #[.int .i64 ((rd_T163 l0 x4_1).f0),.string ((rd_T163 l0 x4_1).f1)]] rfl (by (try simp only [List.map_toArray,List.map_cons,List.map_nil]);first | done | rfl | (simp only [List.length_drop,List.length_take];rfl)) ?_;(with_reducible refine (laws_toLeaf.calls ((rd_T163 l0 x4_1).f0) ((rd_T163 l0 x4_1).f1) t400 t401 _ A8.out).mono ?_);rintro e w11 ⟨rfl,hb⟩;refine ⟨_,rfl,?_⟩;have n0_:=Aside0.mk (Kd.R_below (rs HO_3) hb);have n1_:=Aside0.mk (below_step (hs HB) hb);clear HO_3;clear HB;have HO_3:=n0_;have HB:=n1_;clear n0_ n1_;(try clear hb);(try clear hb2);(try clear hk);(try clear hi);have p10 : 0 ≤ (x4_1 : Int):=of_decide_eq_true (by first | (with_reducible assumption) | assumption);have q10 : (x4_1 : Int) < ((x3_1.length : Int) : Int):=of_decide_eq_true (by first | (with_reducible assumption) | assumption);obtain ⟨go10,co10,eo10,gb10,gl10,cl10,HG10⟩:=Kd.R_form HO_3.out (by omega);(first | cases eo10 | (injection eo10 with ea_ en_ ec_;(first | subst ea_ | (injection ea_ with ea_;subst ea_));subst ec_;clear en_));have GB10:=Aside0.mk gb10;have GG10:=Aside0.mk HG10;clear gb10 gl10 HG10;obtain ⟨ce10,hcl10,hM10,hcc10,hfr10⟩:=Kd.R_elem HO_3.out z114 (x4_1 : Int) p10 q10;obtain rfl:=k114_openM hM10;have hx10_0 : w11.cell? ⟨go10,(x4_1 : Int).toNat * 2,none⟩ = some (.int .i64 ((rd_T114 x3_1 x4_1).f0)):=hcc10 0 _ rfl;have hx10_1 : w11.cell? ⟨go10,(x4_1 : Int).toNat * 2 + 1,none⟩ = some (.string ((rd_T114 x3_1 x4_1).f1)):=hcc10 1 _ rfl;have hf10_0 : w11.frozen? ⟨go10,(x4_1 : Int).toNat * 2,none⟩ = false:=hfr10 0;have hf10_1 : w11.frozen? ⟨go10,(x4_1 : Int).toNat * 2 + 1,none⟩ = false:=hfr10 1;clear hcl10 hcc10 hfr10 hM10;replace p10:=eq_true p10;replace q10:=eq_true q10;have HX12:=Aside0.mk (show Kd.R k114 114 w11 w.heap.size (fun _=>True) (.slice (some ⟨go10,0,none⟩) x3_1.length co10) x3_1 from (rs HO_3));obtain ⟨ce12,hcl12,hM12,hcc12,hfr12⟩:=Kd.R_elem HX12.out z114 (x4_1 : Int) (of_decide_eq_true (by first | (with_reducible assumption) | assumption)) (by have h_ : (x4_1 : Int) < ((x3_1.length : Int) : Int):=of_decide_eq_true (by first | (with_reducible assumption) | assumption);first | exact h_ | (have e_:=(Kd.R_reads' HO_3.out).1;omega) | simpa using h_);obtain rfl:=k114_openM hM12;have HP12:=Kd.R_seg HX12.out (x4_1 : Int) (of_decide_eq_true (by first | (with_reducible assumption) | assumption)) (by have h_ : (x4_1 : Int) < ((x3_1.length : Int) : Int):=of_decide_eq_true (by first | (with_reducible assumption) | assumption);first | exact h_ | (have e_:=(Kd.R_reads' HO_3.out).1;omega) | simpa using h_) (seg:=[.int .i64 t400,.string t401]) (j:=0) hcl12 hcc12 (show 2 ≤ 2 from by decide) (x':=(⟨t400,t401⟩ : S114)) (k114_mkM _ _ _ (⟨t400,t401⟩ : S114) ) (fun _ hk=>hk);have hx12_0:=hcc12 0 _ rfl;(try simp only [show (k114).sz = 2 from rfl,Nat.mul_one,Nat.add_zero] at hx12_0);have hf12_0:=hfr12 0;(try simp only [show (k114).sz = 2 from rfl,Nat.mul_one,Nat.add_zero] at hf12_0);have hx12_1:=hcc12 1 _ rfl;(try simp only [show (k114).sz = 2 from rfl,Nat.mul_one,Nat.add_zero] at hx12_1);have hf12_1:=hfr12 1;(try simp only [show (k114).sz = 2 from rfl,Nat.mul_one,Nat.add_zero] at hf12_1);clear hcl12 hcc12 hfr12 hM12) | ((with_reducible refine gate_store (t:=114) (p:=21) rfl ?_);refine store_event (t:=114) (p:=21) (v:=?vo_w13) (w1:=((w11.setCell ⟨go10,(x4_1 : Int).toNat * 2,none⟩ (.int .i64 t400)).setCell ⟨go10,(x4_1 : Int).toNat * 2 + 1,none⟩ (.string t401))) ?hg ?ho ?hn ?hr ?_;(case ho=>rfl);(case hg=>rfl);(case hn=>rfl);(case hr=>first | (go_simp;done) | (go_simp;rfl));intro w13 hw;have hg : w11.grownBy w13 (some go10):=(by rw [hw];exact HP12.2);have hp_ : Kd.R k114 114 w13 w.heap.size (fun _=>True) (.slice (some ⟨go10,0,none⟩) x3_1.length co10) y402:=(by rw [hw,Ny402.out];exact HP12.1);clear HP12;have n0_:=Aside0.mk (hp_);have n1_:=Aside0.mk ((by rw [hw];exact below_set (below_set (HB.out) GB10.out) GB10.out : Below w.heap.size w w13));clear HO_3;clear HB;have HO_3:=n0_;have HB:=n1_;clear n0_ n1_;clear hg hw hp_));go_roundg k1;case measure=>have:=HK1.out;omega
        case rel=>exact ⟨(y402),(wrap64 (x4_1 + 1)),(by first | rfl | (simp;done) | (simp [*];done)),H',⟨by have:=HK1.out;omega⟩,⟨rs HO_3⟩,⟨hs HB⟩⟩
       rw [if_neg c9] at H;exact absurd H (by simp)
      rw [if_neg c7] at H;exact absurd H (by simp)
     rw [if_neg c6] at H;have c6b0 : decide (x4_1 < (l0.length : Int)) = false:=decide_eq_false c6;clear c6;obtain rfl:=Option.some.inj H
     go_wp2
     go_ret
     exact ⟨_,by first | rfl | (simp [errW_none,errW_some] <;> rfl) | (simp [*,errW_none,errW_some] <;> rfl),rs HO_3,hs HB⟩
  rw [if_neg c3] at H;exact absurd H (by simp)
 rw [if_neg c2] at H;exact absurd H (by simp)
end Go.Proofs.Ytijbejiajaiciaa.PC

namespace Go.Proofs.Ytijbejiajaiciaa.PC
open Go.RowKit Go.Proofs.YtijbejiajaiciaaW.PrintWords Go.Proofs.YtijbejiajaiciaaW.PrintLast Go.Proofs.YtijbejiajaiciaaW.PrintMore
attribute [local go_sem] max2_int min2_int max_two min_two max_three min_three max_four min_four   -- for this text's walks alone
set_option linter.unusedVariables false
set_option linter.unusedSimpArgs false
def laws_toBlock.f (k : Nat) (a0_0 : Bool) (a0_1 : Int) (l0_2 : List (S163)) : Option (Bool × Int × (List (S114))):=(laws_toLeafS.f k l0_2).bind fun t406=>(some (a0_0,a0_1,t406))
theorem laws_toBlock.mono : ∀ a0 a1 a2 k,LeO (laws_toBlock.f k a0 a1 a2) (laws_toBlock.f (k + 1) a0 a1 a2):=by
 intro a0 a1 a2 k;unfold laws_toBlock.f
 repeat' first
   | (with_reducible exact laws_toLeafS.mono _ _)
   | (with_reducible exact LeO.refl _)
   | (with_reducible exact LeO.none _)
   | (with_reducible refine LeO.ite ?_ ?_)
   | (with_reducible refine LeO.bind ?_ (fun _=>?_))
   | exact laws_toLeafS.mono _ _
   | exact LeO.none _
   | refine LeO.ite ?_ ?_
   | refine LeO.bind ?_ (fun _=>?_)
set_option maxHeartbeats 8000000 in
set_option maxRecDepth 100000 in
theorem laws_toBlock.calls (k : Nat) (a0_0 : Bool) (a0_1 : Int) (A0_2 : Option Addr) (c0_2 : Nat) (l0_2 : List (S163)) (r1 : Bool) (r2 : Int) (r3 : List (S114)) (w : World) (hr0_2 : Kd.C k163 w A0_2 l0_2.length l0_2) (hc0_2 : l0_2.length ≤ c0_2) (h : laws_toBlock.f k a0_0 a0_1 l0_2 = some (r1,r2,r3)) :
  Calls Try.prog 102 #[.agg #[.bool a0_0,.int .i64 a0_1,.slice A0_2 l0_2.length c0_2]] w fun e w'=>∃ v2_ : Value,e = .returned (.agg #[.bool r1,.int .i64 r2,v2_]) ∧ Kd.R k114 114 w' w.heap.size (fun _=>True) v2_ r3 ∧ Below w.heap.size w w':=by
 have hu144:=Try.underlying144;have hu112:=Try.underlying112;have HR0_2:=Aside0.mk hr0_2;have HC0_2:=Aside0.mk hc0_2;clear hr0_2 hc0_2;have HB:=Aside0.mk (Below.refl w.heap.size w);have H : ((laws_toLeafS.f k l0_2).bind fun t406=>(some (a0_0,a0_1,t406))) = some (r1,r2,r3):=h;clear h;replace H:=Option.bind_eq_some_iff.mp H;obtain ⟨t406,A20,H⟩:=H;replace H : (some (a0_0,a0_1,t406)) = some (r1,r2,r3):=H;have A2:=Aside0.mk A20;clear A20;simp only [Option.some.injEq,Prod.mk.injEq] at H;obtain ⟨rfl,rfl,rfl⟩:=H
 go_enter Try.func102,Try.ntmps102
 go_wp2_with (first | ((with_reducible refine gate_dst (N:=1) rfl ?_);refine box_event ?hg (N:=1) ?hd (cs:=#[.bool a0_0,.int .i64 a0_1,.slice A0_2 l0_2.length c0_2]) (t:=144) ?hr ?_;(case hd=>rfl);(case hg=>rfl);(case hr=>first | (go_simp;done) | (go_simp;rfl));intro gb403 hg w3 hbox hb;have n0_:=Aside0.mk (below_step (hs HB) hb);have n1_:=Aside0.mk (hbox);have n2_:=Aside0.mk ((by rw [hg];exact (below_size (hs HB)) : w.heap.size ≤ gb403));have n3_:=Aside0.mk ((by rw [hg];exact (below_size (hs HB)) : w.heap.size ≤ gb403));clear HB;have HB:=n0_;have BK403:=n1_;have GW403:=n2_;have GE403:=n3_;clear n0_ n1_ n2_ n3_;clear hb hbox hg) | ((with_reducible refine gate_dst (N:=2) rfl ?_);refine box_event ?hg (N:=2) ?hd (cs:=#[.bool false,.int .i64 0,.slice none 0 0]) (t:=112) ?hr ?_;(case hd=>rfl);(case hg=>rfl);(case hr=>first | (go_simp;done) | (go_simp;rfl));intro gb404 hg w4 hbox hb;have n0_:=Aside0.mk (blk_below (g:=gb403) (o:=.cells #[.bool a0_0,.int .i64 a0_1,.slice A0_2 l0_2.length c0_2] 144 (0,0)) (bs BK403) hb);have n1_:=Aside0.mk (below_step (hs1 HB GE403) hb);have n2_:=Aside0.mk (hbox);have n3_:=Aside0.mk ((by rw [hg];exact (below_size (hs1 HB GE403)) : w.heap.size ≤ gb404));have n4_:=Aside0.mk ((by rw [hg];exact (below_size (hs1 HB GE403)) : w.heap.size ≤ gb404));have n5_:=Aside0.mk ((by rw [hg];exact Nat.ne_of_lt (blk_lt (g:=gb403) (o:=.cells #[.bool a0_0,.int .i64 a0_1,.slice A0_2 l0_2.length c0_2] 144 (0,0)) (bs BK403)) : gb403 ≠ gb404));have n6_:=Aside0.mk ((by rw [hg];exact Nat.ne_of_gt (blk_lt (g:=gb403) (o:=.cells #[.bool a0_0,.int .i64 a0_1,.slice A0_2 l0_2.length c0_2] 144 (0,0)) (bs BK403)) : gb404 ≠ gb403));clear BK403;clear HB;have BK403:=n0_;have HB:=n1_;have BK404:=n2_;have GW404:=n3_;have GE404:=n4_;have NB403_404:=n5_;have NB404_403:=n6_;clear n0_ n1_ n2_ n3_ n4_ n5_ n6_;clear hb hbox hg) | ((with_reducible refine gate_dst (N:=3) rfl ?_);refine box_event ?hg (N:=3) ?hd (cs:=#[.bool false,.int .i64 0,.slice none 0 0]) (t:=112) ?hr ?_;(case hd=>rfl);(case hg=>rfl);(case hr=>first | (go_simp;done) | (go_simp;rfl));intro gb405 hg w5 hbox hb;have n0_:=Aside0.mk (blk_below (g:=gb403) (o:=.cells #[.bool a0_0,.int .i64 a0_1,.slice A0_2 l0_2.length c0_2] 144 (0,0)) (bs BK403) hb);have n1_:=Aside0.mk (blk_below (g:=gb404) (o:=.cells #[.bool false,.int .i64 0,.slice none 0 0] 112 (0,0)) (bs BK404) hb);have n2_:=Aside0.mk (below_step (hs2 HB GE403 GE404) hb);have n3_:=Aside0.mk (hbox);have n4_:=Aside0.mk ((by rw [hg];exact (below_size (hs2 HB GE403 GE404)) : w.heap.size ≤ gb405));have n5_:=Aside0.mk ((by rw [hg];exact (below_size (hs2 HB GE403 GE404)) : w.heap.size ≤ gb405));have n6_:=Aside0.mk ((by rw [hg];exact Nat.ne_of_lt (blk_lt (g:=gb403) (o:=.cells #[.bool a0_0,.int .i64 a0_1,.slice A0_2 l0_2.length c0_2] 144 (0,0)) (bs BK403)) : gb403 ≠ gb405));have n7_:=Aside0.mk ((by rw [hg];exact Nat.ne_of_gt (blk_lt (g:=gb403) (o:=.cells #[.bool a0_0,.int .i64 a0_1,.slice A0_2 l0_2.length c0_2] 144 (0,0)) (bs BK403)) : gb405 ≠ gb403));have n8_:=Aside0.mk ((by rw [hg];exact Nat.ne_of_lt (blk_lt (g:=gb404) (o:=.cells #[.bool false,.int .i64 0,.slice none 0 0] 112 (0,0)) (bs BK404)) : gb404 ≠ gb405));have n9_:=Aside0.mk ((by rw [hg];exact Nat.ne_of_gt (blk_lt (g:=gb404) (o:=.cells #[.bool false,.int .i64 0,.slice none 0 0] 112 (0,0)) (bs BK404)) : gb405 ≠ gb404));clear BK403;clear BK404;clear HB;have BK403:=n0_;have BK404:=n1_;have HB:=n2_;have BK405:=n3_;have GW405:=n4_;have GE405:=n5_;have NB403_405:=n6_;have NB405_403:=n7_;have NB404_405:=n8_;have NB405_404:=n9_;clear n0_ n1_ n2_ n3_ n4_ n5_ n6_ n7_ n8_ n9_;clear hb hbox hg;have hnb6:=NB403_404.out;have hnc6:=NB404_403.out;have hnb7:=NB403_405.out;have hnc7:=NB405_403.out;have hcz8_0 : w5.cell? ⟨gb403,0,none⟩ = some (.bool a0_0):=(blk_cell BK403.out 0).trans rfl;have hcz8_1 : w5.cell? ⟨gb403,1,none⟩ = some (.int .i64 a0_1):=(blk_cell BK403.out 1).trans rfl;have hcz8_2 : w5.cell? ⟨gb403,2,none⟩ = some (.slice A0_2 l0_2.length c0_2):=(blk_cell BK403.out 2).trans rfl;have hfz8_0:=blk_frozen BK403.out 0;have hfz8_1:=blk_frozen BK403.out 1;have hfz8_2:=blk_frozen BK403.out 2;have hnb9:=NB405_404.out;have hnc9:=NB404_405.out;have hcz10_0 : w5.cell? ⟨gb405,0,none⟩ = some (.bool false):=(blk_cell BK405.out 0).trans rfl;have hcz10_1 : w5.cell? ⟨gb405,1,none⟩ = some (.int .i64 0):=(blk_cell BK405.out 1).trans rfl;have hcz10_2 : w5.cell? ⟨gb405,2,none⟩ = some (.slice none 0 0):=(blk_cell BK405.out 2).trans rfl;have hfz10_0:=blk_frozen BK405.out 0;have hfz10_1:=blk_frozen BK405.out 1;have hfz10_2:=blk_frozen BK405.out 2) | ((with_reducible refine gate_callee (f:=116) rfl ?_);refine goesL_ (some 12) rfl rfl Try.func116 (by kernel_rfl) rfl #[.slice A0_2 l0_2.length c0_2] rfl (by (try simp only [List.map_toArray,List.map_cons,List.map_nil]);first | done | rfl | (simp only [List.length_drop,List.length_take];rfl)) ?_;(with_reducible refine (laws_toLeafS.calls k _ _ l0_2 t406 _ ?side1 ?side2 A2.out).mono ?_);(case side1=>exact Kd.C_below HR0_2.out (hs3 HB GE403 GE404 GE405));(case side2=>exact HC0_2.out);rintro e w11 ⟨v407,rfl,ho0,hb⟩;refine ⟨_,rfl,?_⟩;have n0_:=Aside0.mk (Kd.R_lower ho0 (below_size (hs3 HB GE403 GE404 GE405)));have n1_:=Aside0.mk (blk_below (g:=gb403) (o:=.cells #[.bool a0_0,.int .i64 a0_1,.slice A0_2 l0_2.length c0_2] 144 (0,0)) (by (with_reducible repeat (first | refine blk_drewN ?_ _ | refine blk_drew ?_ | refine blk_alloc ?_ _));refine blk_far ?_ NB403_405.out _;(with_reducible repeat (first | refine blk_drewN ?_ _ | refine blk_drew ?_ | refine blk_alloc ?_ _));refine blk_far ?_ NB403_405.out _;(with_reducible repeat (first | refine blk_drewN ?_ _ | refine blk_drew ?_ | refine blk_alloc ?_ _));exact BK403.out) hb);have n2_:=Aside0.mk (blk_below (g:=gb404) (o:=.cells #[.bool false,.int .i64 0,.slice none 0 0] 112 (0,0)) (by (with_reducible repeat (first | refine blk_drewN ?_ _ | refine blk_drew ?_ | refine blk_alloc ?_ _));refine blk_far ?_ NB404_405.out _;(with_reducible repeat (first | refine blk_drewN ?_ _ | refine blk_drew ?_ | refine blk_alloc ?_ _));refine blk_far ?_ NB404_405.out _;(with_reducible repeat (first | refine blk_drewN ?_ _ | refine blk_drew ?_ | refine blk_alloc ?_ _));exact BK404.out) hb);have n3_:=Aside0.mk (blk_below (g:=gb405) (o:=.cells #[.bool a0_0,.int .i64 a0_1,.slice none 0 0] 112 (0,0)) (by (with_reducible repeat (first | refine blk_drewN ?_ _ | refine blk_drew ?_ | refine blk_alloc ?_ _));refine blk_put (cs:=#[.bool a0_0,.int .i64 0,.slice none 0 0]) ?_ 1 _ rfl;(with_reducible repeat (first | refine blk_drewN ?_ _ | refine blk_drew ?_ | refine blk_alloc ?_ _));refine blk_put (cs:=#[.bool false,.int .i64 0,.slice none 0 0]) ?_ 0 _ rfl;(with_reducible repeat (first | refine blk_drewN ?_ _ | refine blk_drew ?_ | refine blk_alloc ?_ _));exact BK405.out) hb);have n4_:=Aside0.mk (below_step (hs3 HB GE403 GE404 GE405) hb);clear BK403;clear BK404;clear BK405;clear HB;have HO408:=n0_;have BK403:=n1_;have BK404:=n2_;have BK405:=n3_;have HB:=n4_;clear n0_ n1_ n2_ n3_ n4_;(try clear hb);(try clear hb2);(try clear hk);(try clear hi);(try clear ho0);obtain ⟨Ao12,co12,eo12⟩:=Kd.R_slice HO408.out;subst eo12;have hcz13_0 : w11.cell? ⟨gb405,0,none⟩ = some (.bool a0_0):=(blk_cell BK405.out 0).trans rfl;have hcz13_1 : w11.cell? ⟨gb405,1,none⟩ = some (.int .i64 a0_1):=(blk_cell BK405.out 1).trans rfl;have hcz13_2 : w11.cell? ⟨gb405,2,none⟩ = some (.slice none 0 0):=(blk_cell BK405.out 2).trans rfl;have hfz13_0:=blk_frozen BK405.out 0;have hfz13_1:=blk_frozen BK405.out 1;have hfz13_2:=blk_frozen BK405.out 2;have hcz14_0 : w11.cell? ⟨gb404,0,none⟩ = some (.bool false):=(blk_cell BK404.out 0).trans rfl;have hcz14_1 : w11.cell? ⟨gb404,1,none⟩ = some (.int .i64 0):=(blk_cell BK404.out 1).trans rfl;have hcz14_2 : w11.cell? ⟨gb404,2,none⟩ = some (.slice none 0 0):=(blk_cell BK404.out 2).trans rfl;have hfz14_0:=blk_frozen BK404.out 0;have hfz14_1:=blk_frozen BK404.out 1;have hfz14_2:=blk_frozen BK404.out 2));refine bodyPost_ret (results_cell_row rfl _ _ gb404 112 #[.bool a0_0,.int .i64 a0_1,.slice Ao12 t406.length co12] (0,0) _ rfl (by (with_reducible repeat (first | refine blk_drewN ?_ _ | refine blk_drew ?_ | refine blk_alloc ?_ _));refine blk_put (cs:=#[.bool a0_0,.int .i64 a0_1,.slice none 0 0]) ?_ 2 _ rfl;(with_reducible repeat (first | refine blk_drewN ?_ _ | refine blk_drew ?_ | refine blk_alloc ?_ _));refine blk_put (cs:=#[.bool a0_0,.int .i64 0,.slice none 0 0]) ?_ 1 _ rfl;(with_reducible repeat (first | refine blk_drewN ?_ _ | refine blk_drew ?_ | refine blk_alloc ?_ _));refine blk_put (cs:=#[.bool false,.int .i64 0,.slice none 0 0]) ?_ 0 _ rfl;(with_reducible repeat (first | refine blk_drewN ?_ _ | refine blk_drew ?_ | refine blk_alloc ?_ _));refine blk_far ?_ NB404_405.out _;(with_reducible repeat (first | refine blk_drewN ?_ _ | refine blk_drew ?_ | refine blk_alloc ?_ _));exact BK404.out) Try.underlying112 rfl (by kernel_rfl)) rfl ?_;exact ⟨_,by first | rfl | (simp [errW_none,errW_some] <;> rfl) | (simp [*,errW_none,errW_some] <;> rfl),by (with_reducible repeat (first | apply Kd.R_alloc | apply Kd.R_drewN | apply Kd.R_drew));exact Kd.R_mono (Kd.R_far (p:=⟨gb404,2,none⟩) (Kd.R_far (p:=⟨gb404,1,none⟩) (Kd.R_far (p:=⟨gb404,0,none⟩) (Kd.R_far (p:=⟨gb405,2,none⟩) (Kd.R_types (Kd.R_types HO408.out BK405.out (by decide)) BK404.out (by decide)) (fun _ hk=>hk.1.2) (.slice Ao12 t406.length co12)) (fun _ hk=>hk.2) (.bool a0_0)) (fun _ hk=>hk.2) (.int .i64 a0_1)) (fun _ hk=>hk.2) (.slice Ao12 t406.length co12)) (fun _ hk=>trivial),hs3 HB GE403 GE404 GE405⟩
end Go.Proofs.Ytijbejiajaiciaa.PC

namespace Go.Proofs.Ytijbejiajaiciaa.PC
open Go.RowKit Go.Proofs.YtijbejiajaiciaaW.PrintWords Go.Proofs.YtijbejiajaiciaaW.PrintLast Go.Proofs.YtijbejiajaiciaaW.PrintMore
attribute [local go_sem] max2_int min2_int max_two min_two max_three min_three max_four min_four   -- for this text's walks alone
set_option linter.unusedVariables false
set_option linter.unusedSimpArgs false
def laws_toBlockS.l0 : Nat → List (S144) → List (S112) → Int → Option ((List (S112)))
 | 0,_,_,_=>none
 | k + 1,x0,x3,x4=>if x4 < (x0.length : Int) then (if 0 ≤ x4 then ((laws_toBlock.f k ((rd_T144 x0 x4).f0) ((rd_T144 x0 x4).f1) ((rd_T144 x0 x4).f2)).bind fun bt413=>(if x4 < (x3.length : Int) then (laws_toBlockS.l0 k x0 (x3.set (x4 : Int).toNat (⟨bt413.1,bt413.2.1,bt413.2.2⟩ : S112)) (wrap64 (x4 + 1))) else (none))) else (none)) else (some x3)
def laws_toBlockS.f (k : Nat) (l0 : List (S144)) : Option ((List (S112))):=if 0 ≤ (l0.length : Int) then (if ((l0.length : Int) : Int).toNat ≤ 7036874417766 then (laws_toBlockS.l0 k l0 (List.replicate ((l0.length : Int) : Int).toNat z112) 0) else (none)) else (none)
theorem laws_toBlockS.mono_l : ∀ k,(∀ y0 y1 y2,LeO (laws_toBlockS.l0 k y0 y1 y2) (laws_toBlockS.l0 (k + 1) y0 y1 y2))
 | 0=>fun _ _ _ r h=>by simp [laws_toBlockS.l0] at h
 | k + 1=>by
  have ih0:=laws_toBlockS.mono_l k;intro y0 y1 y2;unfold laws_toBlockS.l0
  repeat' first
  | (with_reducible exact ih0 _ _ _)
  | (with_reducible exact laws_toBlock.mono _ _ _ _)
  | (with_reducible exact LeO.refl _)
  | (with_reducible exact LeO.none _)
  | (with_reducible refine LeO.ite ?_ ?_)
  | (with_reducible refine LeO.bind ?_ (fun _=>?_))
  | exact ih0 _ _ _
  | exact laws_toBlock.mono _ _ _ _
  | exact LeO.none _
  | refine LeO.ite ?_ ?_
  | refine LeO.bind ?_ (fun _=>?_)
theorem laws_toBlockS.mono : ∀ a0 k,LeO (laws_toBlockS.f k a0) (laws_toBlockS.f (k + 1) a0):=by
 intro a0 k;have ih0:=laws_toBlockS.mono_l k;unfold laws_toBlockS.f
 repeat' first
   | (with_reducible exact ih0 _ _ _)
   | (with_reducible exact laws_toBlock.mono _ _ _ _)
   | (with_reducible exact LeO.refl _)
   | (with_reducible exact LeO.none _)
   | (with_reducible refine LeO.ite ?_ ?_)
   | (with_reducible refine LeO.bind ?_ (fun _=>?_))
   | exact ih0 _ _ _
   | exact laws_toBlock.mono _ _ _ _
   | exact LeO.none _
   | refine LeO.ite ?_ ?_
   | refine LeO.bind ?_ (fun _=>?_)
set_option maxHeartbeats 8000000 in
set_option maxRecDepth 100000 in
theorem laws_toBlockS.calls (k : Nat) (A0 : Option Addr) (c0 : Nat) (l0 : List (S144)) (r : List (S112)) (w : World) (hr0 : Kd.C k144 w A0 l0.length l0) (hc0 : l0.length ≤ c0) (h : laws_toBlockS.f k l0 = some r) :
  Calls Try.prog 70 #[.slice A0 l0.length c0] w fun e w'=>∃ v0_ : Value,e = .returned (v0_) ∧ Kd.S k112 112 w' w.heap.size (fun _=>True) v0_ r ∧ Below w.heap.size w w':=by
 have hu144:=Try.underlying144;have hu112:=Try.underlying112;have HR0:=Aside0.mk hr0;have HC0:=Aside0.mk hc0;clear hr0 hc0;have HB:=Aside0.mk (Below.refl w.heap.size w);have H : (if 0 ≤ (l0.length : Int) then (if ((l0.length : Int) : Int).toNat ≤ 7036874417766 then (laws_toBlockS.l0 k l0 (List.replicate ((l0.length : Int) : Int).toNat z112) 0) else (none)) else (none)) = some r:=h;clear h
 by_cases c2 : 0 ≤ (l0.length : Int)
 ·rw [if_pos c2] at H;have c2b0:=eq_true c2;have c2b1 : decide (0 ≤ (l0.length : Int)) = true:=decide_eq_true c2;clear c2
  by_cases c3 : ((l0.length : Int) : Int).toNat ≤ 7036874417766
  ·rw [if_pos c3] at H;have c3b0:=eq_true c3;have c3b1 : decide (((l0.length : Int) : Int).toNat ≤ 7036874417766) = true:=decide_eq_true c3;clear c3;obtain ⟨y409,hy409⟩ : ∃ y_ : List (S112),y_ = (List.replicate ((l0.length : Int) : Int).toNat z112):=⟨_,rfl⟩;replace H : (laws_toBlockS.l0 k l0 y409 0) = some r:=by first | (rw [hy409];with_reducible exact H) | (have H2_:=(Option.bind_some _ _).symm.trans H;rw [hy409];with_reducible exact H2_) | (have H2_:=(Option.bind_some _ _).symm.trans H;with_reducible exact H2_) | with_reducible exact H | (rw [hy409];exact H) | exact H
   have Ny409:=Aside0.mk hy409;clear hy409;have H':=Aside0.mk H;clear H
   go_enter Try.func70,Try.ntmps70
   go_wp2_with (first | ((with_reducible refine gate_dst (N:=7) rfl ?_);refine Kd.S_make k112 _ 112 rfl (N:=7) rfl 57 _ _ rfl (l0.length : Int) rfl rfl Try.underlying57 (.agg #[(.bool false),(.int .i64 0),(.slice none 0 0)]) 40 info112 rfl (by decide) (by omega) z112 (ok:=fun _=>True) (okp:=fun _=>True) (k112_mkM _ _ _ z112 (Kd.R_nil _ _ _ _ _)) (fun _ hk=>hk) trivial (of_decide_eq_true (by first | (with_reducible assumption) | assumption)) (Nat.le_trans (Nat.mul_le_mul_right _ (of_decide_eq_true (by first | (with_reducible assumption) | assumption) : (l0.length : Int).toNat ≤ 7036874417766)) (by omega)) (Below.refl _ _) (Nat.le_refl _) ?_;intro v410 w4 ho5 hb hg_ hnew_;clear hg_ hnew_;(first | rw [← Ny409.out] at ho5 | (simp only [Int.reduceToNat] at ho5;rw [← Ny409.out] at ho5));have n0_:=Aside0.mk (Kd.S_lower ho5 (below_size (hs HB)));have n1_:=Aside0.mk (below_step (hs HB) hb);clear HB;have HO411:=n0_;have HB:=n1_;clear n0_ n1_;clear hb ho5));go_loopg [4] k (fun kq v4 w'=>∃ (x3_1 : List (S112)) (x4_1 : Int),v4 = .int .i64 x4_1 ∧ Aside0 (laws_toBlockS.l0 kq l0 x3_1 x4_1 = some r) ∧ Aside0 (kq ≤ k) ∧ Aside0 (Kd.S k112 112 w' w.heap.size (fun _=>True) v410 x3_1) ∧ Aside0 (Below w.heap.size w w'));case atStart=>exact ⟨(y409),(0),(by first | rfl | (simp;done) | (simp [*];done)),H',⟨Nat.le_refl _⟩,⟨ss HO411⟩,⟨hs HB⟩⟩
   case round =>
    clear H'
    try clear c2
    try clear c2b0
    try clear c2b1
    try clear p2
    try clear c3
    try clear c3b0
    try clear c3b1
    obtain ⟨x3_1,x4_1,rfl,HA,HK1,HO_3,HB⟩:=hrel;cases gk with
    | zero=>exact absurd HA.out (by simp [laws_toBlockS.l0])
    | succ k1 =>
     have H:=HA.out;clear HA;simp only [laws_toBlockS.l0] at H
     by_cases c6 : x4_1 < (l0.length : Int)
     ·rw [if_pos c6] at H;have c6b0 : decide (x4_1 < (l0.length : Int)) = true:=decide_eq_true c6;clear c6
      by_cases c7 : 0 ≤ x4_1
      ·rw [if_pos c7] at H;have c7b0 : decide (0 ≤ x4_1) = true:=decide_eq_true c7;clear c7;replace H:=Option.bind_eq_some_iff.mp H;obtain ⟨⟨t413,t414,t415⟩,A80,H⟩:=H;replace H : (if x4_1 < (x3_1.length : Int) then (laws_toBlockS.l0 k1 l0 (x3_1.set (x4_1 : Int).toNat (⟨t413,t414,t415⟩ : S112)) (wrap64 (x4_1 + 1))) else (none)) = some r:=H;have A8:=Aside0.mk A80;clear A80
       by_cases c9 : x4_1 < (x3_1.length : Int)
       ·rw [if_pos c9] at H;have c9b0 : decide (x4_1 < (x3_1.length : Int)) = true:=decide_eq_true c9;clear c9;obtain ⟨y418,hy418⟩ : ∃ y_ : List (S112),y_ = (x3_1.set (x4_1 : Int).toNat (⟨t413,t414,t415⟩ : S112)):=⟨_,rfl⟩;replace H : (laws_toBlockS.l0 k1 l0 y418 (wrap64 (x4_1 + 1))) = some r:=by first | (rw [hy418];with_reducible exact H) | (have H2_:=(Option.bind_some _ _).symm.trans H;rw [hy418];with_reducible exact H2_) | (have H2_:=(Option.bind_some _ _).symm.trans H;with_reducible exact H2_) | with_reducible exact H | (rw [hy418];exact H) | exact H
        have Ny418:=Aside0.mk hy418;clear hy418;have H':=Aside0.mk H;clear H;have p412 : 0 ≤ (x4_1 : Int):=of_decide_eq_true (by first | (with_reducible assumption) | assumption);have q412 : x4_1 < (l0.length : Int):=of_decide_eq_true (by first | (with_reducible assumption) | assumption);obtain ⟨ad412,A412_2,c412_2,e412,hx412_0,hx412_1,hx412_2,hl412_2,hi412_2⟩:=at_T144 HR0.out x4_1 p412 q412;cases e412;replace hx412_0:=(HB.out.cell (World.block_lt_of_cell? w _ hx412_0)).trans hx412_0;replace hx412_1:=(HB.out.cell (World.block_lt_of_cell? w _ hx412_1)).trans hx412_1;replace hx412_2:=(HB.out.cell (World.block_lt_of_cell? w _ hx412_2)).trans hx412_2;have HR412_2:=Aside0.mk hi412_2;have HC412_2:=Aside0.mk hl412_2;clear hi412_2 hl412_2;replace p412:=eq_true p412;replace q412:=eq_true q412;go_wp2_with (first | ((with_reducible refine gate_callee (f:=102) rfl ?_);refine goesL_ (some 20) rfl rfl Try.func102 (by kernel_rfl) rfl #[.agg #[.bool ((rd_T144 l0 x4_1).f0),.int .i64 ((rd_T144 l0 x4_1).f1),.slice A412_2 ((rd_T144 l0 x4_1).f2).length c412_2]] rfl (by (try simp only [List.map_toArray,List.map_cons,List.map_nil]);first | done | rfl | (simp only [List.length_drop,List.length_take];rfl)) ?_;(with_reducible refine (laws_toBlock.calls k1 ((rd_T144 l0 x4_1).f0) ((rd_T144 l0 x4_1).f1) _ _ ((rd_T144 l0 x4_1).f2) t413 t414 t415 _ ?side1 ?side2 A8.out).mono ?_);(case side1=>repeat (first | exact (Kd.C_below HR412_2.out HB.out) | (with_reducible refine Kd.C_alloc ?_ _) | (with_reducible refine Kd.C_drewN ?_ _) | (with_reducible refine Kd.C_drew ?_)));(case side2=>exact HC412_2.out);rintro e w11 ⟨v416,rfl,ho0,hb⟩;refine ⟨_,rfl,?_⟩;have n0_:=Aside0.mk (Kd.S_elder' (ss HO_3) (Kd.R_base ho0) hb);have n1_:=Aside0.mk (Kd.R_lower ho0 (below_size (hs HB)));have n2_:=Aside0.mk (below_step (hs HB) hb);clear HO_3;clear HB;have HO_3:=n0_;have HO417:=n1_;have HB:=n2_;clear n0_ n1_ n2_;(try clear hb);(try clear hb2);(try clear hk);(try clear hi);(try clear ho0);have p10 : 0 ≤ (x4_1 : Int):=of_decide_eq_true (by first | (with_reducible assumption) | assumption);have q10 : (x4_1 : Int) < ((x3_1.length : Int) : Int):=of_decide_eq_true (by first | (with_reducible assumption) | assumption);obtain ⟨go10,co10,eo10,gb10,gl10,cl10,HG10⟩:=Kd.S_form HO_3.out (by omega);(first | cases eo10 | (injection eo10 with ea_ en_ ec_;(first | subst ea_ | (injection ea_ with ea_;subst ea_));subst ec_;clear en_));have GB10:=Aside0.mk gb10;have GG10:=Aside0.mk HG10;clear gb10 gl10 HG10;obtain ⟨_,ce10,hcl10,hM10,hcc10,hfr10,_,_⟩:=Kd.S_elem HO_3.out z112 (x4_1 : Int) p10 q10;obtain ⟨ve10_2,rfl,ge10_2⟩:=k112_openM hM10;have hx10_0 : w11.cell? ⟨go10,(x4_1 : Int).toNat * 3,none⟩ = some (.bool ((rd_T112 x3_1 x4_1).f0)):=hcc10 0 _ rfl;have hx10_1 : w11.cell? ⟨go10,(x4_1 : Int).toNat * 3 + 1,none⟩ = some (.int .i64 ((rd_T112 x3_1 x4_1).f1)):=hcc10 1 _ rfl;have hx10_2 : w11.cell? ⟨go10,(x4_1 : Int).toNat * 3 + 2,none⟩ = some (ve10_2):=hcc10 2 _ rfl;have hf10_0 : w11.frozen? ⟨go10,(x4_1 : Int).toNat * 3,none⟩ = false:=hfr10 0;have hf10_1 : w11.frozen? ⟨go10,(x4_1 : Int).toNat * 3 + 1,none⟩ = false:=hfr10 1;have hf10_2 : w11.frozen? ⟨go10,(x4_1 : Int).toNat * 3 + 2,none⟩ = false:=hfr10 2;clear hcl10 hcc10 hfr10 hM10;replace p10:=eq_true p10;replace q10:=eq_true q10;have n_:=Aside0.mk (Kd.S_mono (ok':=(fun k_=>some k_ ≠ (v416 : Value).ownBlock)) HO_3.out (fun k_ hk=>hk.2));clear HO_3;have HO_3:=n_;clear n_;have HX12:=Aside0.mk (show Kd.S k112 112 w11 w.heap.size (fun k_=>((fun _=>True)) k_ ∧ ¬ ((fun k_=>some k_ = (v416 : Value).ownBlock)) k_) (.slice (some ⟨go10,0,none⟩) x3_1.length co10) x3_1 from (by (with_reducible repeat (first | apply Kd.S_alloc | apply Kd.S_drewN | apply Kd.S_drew));exact Kd.S_mono HO_3.out (fun k_ hk=>⟨trivial,fun e_=>hk e_⟩)));obtain ⟨oki12,ce12,hcl12,hM12,hcc12,hfr12,hoki12,hH12⟩:=Kd.S_elem HX12.out z112 (x4_1 : Int) (of_decide_eq_true (by first | (with_reducible assumption) | assumption)) (by have h_ : (x4_1 : Int) < ((x3_1.length : Int) : Int):=of_decide_eq_true (by first | (with_reducible assumption) | assumption);first | exact h_ | (have e_:=(Kd.S_reads' HO_3.out).1;omega) | simpa using h_);obtain ⟨ve12_2,rfl,ge12_2⟩:=k112_openM hM12;have HP12:=Kd.S_seg hH12 (of_decide_eq_true (by first | (with_reducible assumption) | assumption)) (by have h_ : (x4_1 : Int) < ((x3_1.length : Int) : Int):=of_decide_eq_true (by first | (with_reducible assumption) | assumption);first | exact h_ | (have e_:=(Kd.S_reads' HO_3.out).1;omega) | simpa using h_) (seg:=[.bool t413,.int .i64 t414,v416]) (j:=0) (show 3 ≤ 3 from by decide) (x':=(⟨t413,t414,t415⟩ : S112)) (k112_mkM _ _ _ (⟨t413,t414,t415⟩ : S112) (Kd.R_mono (Kd.R_tight rfl (Kd.R_mono (ok':=fun k_=>((fun _=>True)) k_ ∧ k_ ≠ go10) (Kd.R_apart' (HO417.out) (Kd.S_typed HO_3.out) (by decide)) (fun k_ hk=>⟨trivial,fun e_=>(hk.2) (by rw [e_];rfl)⟩))) (fun _ h_=>Or.inr (h_)))) (fun _ hk=>hk) (fun k_ hk_=>((Kd.R_mono (ok':=fun k_=>((fun _=>True)) k_ ∧ k_ ≠ go10) (Kd.R_apart' (HO417.out) (Kd.S_typed HO_3.out) (by decide)) (fun k_ hk=>⟨trivial,fun e_=>(hk.2) (by rw [e_];rfl)⟩))).1 k_ hk_.symm);have hx12_0:=hcc12 0 _ rfl;(try simp only [show (k112).sz = 3 from rfl,Nat.mul_one,Nat.add_zero] at hx12_0);have hf12_0:=hfr12 0;(try simp only [show (k112).sz = 3 from rfl,Nat.mul_one,Nat.add_zero] at hf12_0);have hx12_1:=hcc12 1 _ rfl;(try simp only [show (k112).sz = 3 from rfl,Nat.mul_one,Nat.add_zero] at hx12_1);have hf12_1:=hfr12 1;(try simp only [show (k112).sz = 3 from rfl,Nat.mul_one,Nat.add_zero] at hf12_1);have hx12_2:=hcc12 2 _ rfl;(try simp only [show (k112).sz = 3 from rfl,Nat.mul_one,Nat.add_zero] at hx12_2);have hf12_2:=hfr12 2;(try simp only [show (k112).sz = 3 from rfl,Nat.mul_one,Nat.add_zero] at hf12_2);clear hcl12 hcc12 hfr12 hM12 hoki12 hH12;have hst12_2:=fun (W_ : World) (a_ : Addr) (m_ : Mode)=>run_store Try.prog W_ a_ v416 m_ (Kd.R_val HO417.out).2) | ((with_reducible refine gate_store (t:=112) (p:=21) rfl ?_);refine store_event (t:=112) (p:=21) (v:=?vo_w13) (w1:=(((w11.setCell ⟨go10,(x4_1 : Int).toNat * 3,none⟩ (.bool t413)).setCell ⟨go10,(x4_1 : Int).toNat * 3 + 1,none⟩ (.int .i64 t414)).setCell ⟨go10,(x4_1 : Int).toNat * 3 + 2,none⟩ (v416))) ?hg ?ho ?hn ?hr ?_;(case ho=>rfl);(case hg=>rfl);(case hn=>rfl);(case hr=>first | (go_simp;done) | (go_simp;rfl));intro w13 hw;have hg : w11.grownBy w13 (some go10):=(by rw [hw];exact HP12.2);have hp_ : Kd.S k112 112 w13 w.heap.size (fun _=>True) (.slice (some ⟨go10,0,none⟩) x3_1.length co10) y418:=(by rw [hw,Ny418.out];exact HP12.1);clear HP12;have n0_:=Aside0.mk (hp_);have n1_:=Aside0.mk ((by rw [hw];exact below_set (below_set (below_set (HB.out) GB10.out) GB10.out) GB10.out : Below w.heap.size w w13));clear HO_3;clear HB;clear HO417;have HO_3:=n0_;have HB:=n1_;clear n0_ n1_;clear hg hw hp_ hst12_2));go_roundg k1;case measure=>have:=HK1.out;omega
        case rel=>exact ⟨(y418),(wrap64 (x4_1 + 1)),(by first | rfl | (simp;done) | (simp [*];done)),H',⟨by have:=HK1.out;omega⟩,⟨ss HO_3⟩,⟨hs HB⟩⟩
       rw [if_neg c9] at H;exact absurd H (by simp)
      rw [if_neg c7] at H;exact absurd H (by simp)
     rw [if_neg c6] at H;have c6b0 : decide (x4_1 < (l0.length : Int)) = false:=decide_eq_false c6;clear c6;obtain rfl:=Option.some.inj H
     go_wp2
     go_ret
     exact ⟨_,by first | rfl | (simp [errW_none,errW_some] <;> rfl) | (simp [*,errW_none,errW_some] <;> rfl),ss HO_3,hs HB⟩
  rw [if_neg c3] at H;exact absurd H (by simp)
 rw [if_neg c2] at H;exact absurd H (by simp)
end Go.Proofs.Ytijbejiajaiciaa.PC

namespace Go.Proofs.Ytijbejiajaiciaa.PC
open Go.RowKit Go.Proofs.YtijbejiajaiciaaW.PrintWords Go.Proofs.YtijbejiajaiciaaW.PrintLast Go.Proofs.YtijbejiajaiciaaW.PrintMore
attribute [local go_sem] max2_int min2_int max_two min_two max_three min_three max_four min_four   -- for this text's walks alone
set_option linter.unusedVariables false
set_option linter.unusedSimpArgs false
def laws_toFlash.f (k : Nat) (l0_0 : List (S144)) : Option ((List (S112))):=(laws_toBlockS.f k l0_0).bind fun t422=>(some t422)
theorem laws_toFlash.mono : ∀ a0 k,LeO (laws_toFlash.f k a0) (laws_toFlash.f (k + 1) a0):=by
 intro a0 k;unfold laws_toFlash.f
 repeat' first
   | (with_reducible exact laws_toBlockS.mono _ _)
   | (with_reducible exact LeO.refl _)
   | (with_reducible exact LeO.none _)
   | (with_reducible refine LeO.ite ?_ ?_)
   | (with_reducible refine LeO.bind ?_ (fun _=>?_))
   | exact laws_toBlockS.mono _ _
   | exact LeO.none _
   | refine LeO.ite ?_ ?_
   | refine LeO.bind ?_ (fun _=>?_)
set_option maxHeartbeats 8000000 in
set_option maxRecDepth 100000 in
theorem laws_toFlash.calls (k : Nat) (A0_0 : Option Addr) (c0_0 : Nat) (l0_0 : List (S144)) (r : List (S112)) (w : World) (hr0_0 : Kd.C k144 w A0_0 l0_0.length l0_0) (hc0_0 : l0_0.length ≤ c0_0) (h : laws_toFlash.f k l0_0 = some r) :
  Calls Try.prog 33 #[.agg #[.slice A0_0 l0_0.length c0_0]] w fun e w'=>∃ v0_ : Value,e = .returned (.agg #[v0_]) ∧ Kd.S k112 112 w' w.heap.size (fun _=>True) v0_ r ∧ Below w.heap.size w w':=by
 have hu54:=Try.underlying54;have hu59:=Try.underlying59;have HR0_0:=Aside0.mk hr0_0;have HC0_0:=Aside0.mk hc0_0;clear hr0_0 hc0_0;have HB:=Aside0.mk (Below.refl w.heap.size w);have H : ((laws_toBlockS.f k l0_0).bind fun t422=>(some t422)) = some r:=h;clear h;replace H:=Option.bind_eq_some_iff.mp H;obtain ⟨t422,A20,H⟩:=H;replace H : (some t422) = some r:=H;have A2:=Aside0.mk A20;clear A20;obtain rfl:=Option.some.inj H
 go_enter Try.func33,Try.ntmps33
 go_wp2_with (first | ((with_reducible refine gate_dst (N:=1) rfl ?_);refine box_event ?hg (N:=1) ?hd (cs:=#[.slice A0_0 l0_0.length c0_0]) (t:=54) ?hr ?_;(case hd=>rfl);(case hg=>rfl);(case hr=>first | (go_simp;done) | (go_simp;rfl));intro gb419 hg w3 hbox hb;have n0_:=Aside0.mk (below_step (hs HB) hb);have n1_:=Aside0.mk (hbox);have n2_:=Aside0.mk ((by rw [hg];exact (below_size (hs HB)) : w.heap.size ≤ gb419));have n3_:=Aside0.mk ((by rw [hg];exact (below_size (hs HB)) : w.heap.size ≤ gb419));clear HB;have HB:=n0_;have BK419:=n1_;have GW419:=n2_;have GE419:=n3_;clear n0_ n1_ n2_ n3_;clear hb hbox hg) | ((with_reducible refine gate_dst (N:=2) rfl ?_);refine box_event ?hg (N:=2) ?hd (cs:=#[.slice none 0 0]) (t:=59) ?hr ?_;(case hd=>rfl);(case hg=>rfl);(case hr=>first | (go_simp;done) | (go_simp;rfl));intro gb420 hg w4 hbox hb;have n0_:=Aside0.mk (blk_below (g:=gb419) (o:=.cells #[.slice A0_0 l0_0.length c0_0] 54 (0,0)) (bs BK419) hb);have n1_:=Aside0.mk (below_step (hs1 HB GE419) hb);have n2_:=Aside0.mk (hbox);have n3_:=Aside0.mk ((by rw [hg];exact (below_size (hs1 HB GE419)) : w.heap.size ≤ gb420));have n4_:=Aside0.mk ((by rw [hg];exact (below_size (hs1 HB GE419)) : w.heap.size ≤ gb420));have n5_:=Aside0.mk ((by rw [hg];exact Nat.ne_of_lt (blk_lt (g:=gb419) (o:=.cells #[.slice A0_0 l0_0.length c0_0] 54 (0,0)) (bs BK419)) : gb419 ≠ gb420));have n6_:=Aside0.mk ((by rw [hg];exact Nat.ne_of_gt (blk_lt (g:=gb419) (o:=.cells #[.slice A0_0 l0_0.length c0_0] 54 (0,0)) (bs BK419)) : gb420 ≠ gb419));clear BK419;clear HB;have BK419:=n0_;have HB:=n1_;have BK420:=n2_;have GW420:=n3_;have GE420:=n4_;have NB419_420:=n5_;have NB420_419:=n6_;clear n0_ n1_ n2_ n3_ n4_ n5_ n6_;clear hb hbox hg) | ((with_reducible refine gate_dst (N:=3) rfl ?_);refine box_event ?hg (N:=3) ?hd (cs:=#[.slice none 0 0]) (t:=59) ?hr ?_;(case hd=>rfl);(case hg=>rfl);(case hr=>first | (go_simp;done) | (go_simp;rfl));intro gb421 hg w5 hbox hb;have n0_:=Aside0.mk (blk_below (g:=gb419) (o:=.cells #[.slice A0_0 l0_0.length c0_0] 54 (0,0)) (bs BK419) hb);have n1_:=Aside0.mk (blk_below (g:=gb420) (o:=.cells #[.slice none 0 0] 59 (0,0)) (bs BK420) hb);have n2_:=Aside0.mk (below_step (hs2 HB GE419 GE420) hb);have n3_:=Aside0.mk (hbox);have n4_:=Aside0.mk ((by rw [hg];exact (below_size (hs2 HB GE419 GE420)) : w.heap.size ≤ gb421));have n5_:=Aside0.mk ((by rw [hg];exact (below_size (hs2 HB GE419 GE420)) : w.heap.size ≤ gb421));have n6_:=Aside0.mk ((by rw [hg];exact Nat.ne_of_lt (blk_lt (g:=gb419) (o:=.cells #[.slice A0_0 l0_0.length c0_0] 54 (0,0)) (bs BK419)) : gb419 ≠ gb421));have n7_:=Aside0.mk ((by rw [hg];exact Nat.ne_of_gt (blk_lt (g:=gb419) (o:=.cells #[.slice A0_0 l0_0.length c0_0] 54 (0,0)) (bs BK419)) : gb421 ≠ gb419));have n8_:=Aside0.mk ((by rw [hg];exact Nat.ne_of_lt (blk_lt (g:=gb420) (o:=.cells #[.slice none 0 0] 59 (0,0)) (bs BK420)) : gb420 ≠ gb421));have n9_:=Aside0.mk ((by rw [hg];exact Nat.ne_of_gt (blk_lt (g:=gb420) (o:=.cells #[.slice none 0 0] 59 (0,0)) (bs BK420)) : gb421 ≠ gb420));clear BK419;clear BK420;clear HB;have BK419:=n0_;have BK420:=n1_;have HB:=n2_;have BK421:=n3_;have GW421:=n4_;have GE421:=n5_;have NB419_421:=n6_;have NB421_419:=n7_;have NB420_421:=n8_;have NB421_420:=n9_;clear n0_ n1_ n2_ n3_ n4_ n5_ n6_ n7_ n8_ n9_;clear hb hbox hg;have hnb6:=NB419_420.out;have hnc6:=NB420_419.out;have hnb7:=NB419_421.out;have hnc7:=NB421_419.out;have hcz8_0 : w5.cell? ⟨gb419,0,none⟩ = some (.slice A0_0 l0_0.length c0_0):=(blk_cell BK419.out 0).trans rfl;have hfz8_0:=blk_frozen BK419.out 0) | ((with_reducible refine gate_callee (f:=70) rfl ?_);refine goesL_ (some 6) rfl rfl Try.func70 (by kernel_rfl) rfl #[.slice A0_0 l0_0.length c0_0] rfl (by (try simp only [List.map_toArray,List.map_cons,List.map_nil]);first | done | rfl | (simp only [List.length_drop,List.length_take];rfl)) ?_;(with_reducible refine (laws_toBlockS.calls k _ _ l0_0 t422 _ ?side1 ?side2 A2.out).mono ?_);(case side1=>repeat (first | exact (Kd.C_below HR0_0.out HB.out) | (with_reducible refine Kd.C_alloc ?_ _) | (with_reducible refine Kd.C_drewN ?_ _) | (with_reducible refine Kd.C_drew ?_)));(case side2=>exact HC0_0.out);rintro e w9 ⟨v423,rfl,ho0,hb⟩;refine ⟨_,rfl,?_⟩;have n0_:=Aside0.mk (Kd.S_lower ho0 (below_size (hs3 HB GE419 GE420 GE421)));have n1_:=Aside0.mk (blk_below (g:=gb419) (o:=.cells #[.slice A0_0 l0_0.length c0_0] 54 (0,0)) (bs BK419) hb);have n2_:=Aside0.mk (blk_below (g:=gb420) (o:=.cells #[.slice none 0 0] 59 (0,0)) (bs BK420) hb);have n3_:=Aside0.mk (blk_below (g:=gb421) (o:=.cells #[.slice none 0 0] 59 (0,0)) (bs BK421) hb);have n4_:=Aside0.mk (below_step (hs3 HB GE419 GE420 GE421) hb);clear BK419;clear BK420;clear BK421;clear HB;have HO424:=n0_;have BK419:=n1_;have BK420:=n2_;have BK421:=n3_;have HB:=n4_;clear n0_ n1_ n2_ n3_ n4_;(try clear hb);(try clear hb2);(try clear hk);(try clear hi);(try clear ho0);obtain ⟨Ao10,co10,eo10⟩:=Kd.S_slice HO424.out;subst eo10;have hnb11:=NB421_420.out;have hnc11:=NB420_421.out;have hcz12_0 : w9.cell? ⟨gb421,0,none⟩ = some (.slice none 0 0):=(blk_cell BK421.out 0).trans rfl;have hfz12_0:=blk_frozen BK421.out 0;have hcz13_0 : w9.cell? ⟨gb420,0,none⟩ = some (.slice none 0 0):=(blk_cell BK420.out 0).trans rfl;have hfz13_0:=blk_frozen BK420.out 0));refine bodyPost_ret (results_cell_row rfl _ _ gb420 59 #[.slice Ao10 t422.length co10] (0,0) _ rfl (by (with_reducible repeat (first | refine blk_drewN ?_ _ | refine blk_drew ?_ | refine blk_alloc ?_ _));refine blk_put (cs:=#[.slice none 0 0]) ?_ 0 _ rfl;(with_reducible repeat (first | refine blk_drewN ?_ _ | refine blk_drew ?_ | refine blk_alloc ?_ _));refine blk_far ?_ NB420_421.out _;(with_reducible repeat (first | refine blk_drewN ?_ _ | refine blk_drew ?_ | refine blk_alloc ?_ _));exact BK420.out) Try.underlying59 rfl (by kernel_rfl)) rfl ?_;exact ⟨_,by first | rfl | (simp [errW_none,errW_some] <;> rfl) | (simp [*,errW_none,errW_some] <;> rfl),by (with_reducible repeat (first | apply Kd.S_alloc | apply Kd.S_drewN | apply Kd.S_drew));exact Kd.S_mono (Kd.S_far (p:=⟨gb420,0,none⟩) (Kd.S_far (p:=⟨gb421,0,none⟩) (Kd.S_types (Kd.S_types HO424.out BK421.out (by decide)) BK420.out (by decide)) (fun _ hk=>hk.1.2) (.slice Ao10 t422.length co10)) (fun _ hk=>hk.2) (.slice Ao10 t422.length co10)) (fun _ hk=>trivial),hs3 HB GE419 GE420 GE421⟩
end Go.Proofs.Ytijbejiajaiciaa.PC

namespace Go.Proofs.Ytijbejiajaiciaa.PC
open Go.RowKit Go.Proofs.YtijbejiajaiciaaW.PrintWords Go.Proofs.YtijbejiajaiciaaW.PrintLast Go.Proofs.YtijbejiajaiciaaW.PrintMore
attribute [local go_sem] max2_int min2_int max_two min_two max_three min_three max_four min_four   -- for this text's walks alone
set_option linter.unusedVariables false
set_option linter.unusedSimpArgs false
def laws_eqLeaf.f (a0_0 : Int) (a0_1 : ByteArray) (a1_0 : Int) (a1_1 : ByteArray) : Option (Bool):=if a0_0 = a1_0 then (if a0_1.toList = a1_1.toList then (some true) else (some false)) else (some false)
set_option maxHeartbeats 8000000 in
set_option maxRecDepth 100000 in
theorem laws_eqLeaf.calls (a0_0 : Int) (a0_1 : ByteArray) (a1_0 : Int) (a1_1 : ByteArray) (r : Bool) (w : World) (h : laws_eqLeaf.f a0_0 a0_1 a1_0 a1_1 = some r) :
  Calls Try.prog 123 #[.agg #[.int .i64 a0_0,.string a0_1],.agg #[.int .i64 a1_0,.string a1_1]] w fun e w'=>e = .returned (.bool r) ∧ Below w.heap.size w w':=by
 have hu114:=Try.underlying114;have HB:=Aside0.mk (Below.refl w.heap.size w);have H : (if a0_0 = a1_0 then (if a0_1.toList = a1_1.toList then (some true) else (some false)) else (some false)) = some r:=h;clear h
 by_cases c3 : a0_0 = a1_0
 ·rw [if_pos c3] at H;have c3b0 : (a0_0 == a1_0) = true:=beq_iff_eq.mpr c3;have c3b1 : (a0_0 != a1_0) = false:=bne_eq_false_iff_eq.mpr c3;clear c3
  by_cases c4 : a0_1.toList = a1_1.toList
  ·rw [if_pos c4] at H;have c4b0 : (a0_1.toList == a1_1.toList) = true:=beq_iff_eq.mpr c4;have c4b1 : (a0_1.toList != a1_1.toList) = false:=bne_eq_false_iff_eq.mpr c4;clear c4;obtain rfl:=Option.some.inj H
   go_enter Try.func123,Try.ntmps123
   go_wp2_with (first | ((with_reducible refine gate_dst (N:=2) rfl ?_);refine box_event ?hg (N:=2) ?hd (cs:=#[.int .i64 a0_0,.string a0_1]) (t:=114) ?hr ?_;(case hd=>rfl);(case hg=>rfl);(case hr=>first | (go_simp;done) | (go_simp;rfl));intro gb435 hg w5 hbox hb;have n0_:=Aside0.mk (below_step (hs HB) hb);have n1_:=Aside0.mk (hbox);have n2_:=Aside0.mk ((by rw [hg];exact (below_size (hs HB)) : w.heap.size ≤ gb435));have n3_:=Aside0.mk ((by rw [hg];exact (below_size (hs HB)) : w.heap.size ≤ gb435));clear HB;have HB:=n0_;have BK435:=n1_;have GW435:=n2_;have GE435:=n3_;clear n0_ n1_ n2_ n3_;clear hb hbox hg) | ((with_reducible refine gate_dst (N:=3) rfl ?_);refine box_event ?hg (N:=3) ?hd (cs:=#[.int .i64 a1_0,.string a1_1]) (t:=114) ?hr ?_;(case hd=>rfl);(case hg=>rfl);(case hr=>first | (go_simp;done) | (go_simp;rfl));intro gb436 hg w6 hbox hb;have n0_:=Aside0.mk (blk_below (g:=gb435) (o:=.cells #[.int .i64 a0_0,.string a0_1] 114 (0,0)) (bs BK435) hb);have n1_:=Aside0.mk (below_step (hs1 HB GE435) hb);have n2_:=Aside0.mk (hbox);have n3_:=Aside0.mk ((by rw [hg];exact (below_size (hs1 HB GE435)) : w.heap.size ≤ gb436));have n4_:=Aside0.mk ((by rw [hg];exact (below_size (hs1 HB GE435)) : w.heap.size ≤ gb436));have n5_:=Aside0.mk ((by rw [hg];exact Nat.ne_of_lt (blk_lt (g:=gb435) (o:=.cells #[.int .i64 a0_0,.string a0_1] 114 (0,0)) (bs BK435)) : gb435 ≠ gb436));have n6_:=Aside0.mk ((by rw [hg];exact Nat.ne_of_gt (blk_lt (g:=gb435) (o:=.cells #[.int .i64 a0_0,.string a0_1] 114 (0,0)) (bs BK435)) : gb436 ≠ gb435));clear BK435;clear HB;have BK435:=n0_;have HB:=n1_;have BK436:=n2_;have GW436:=n3_;have GE436:=n4_;have NB435_436:=n5_;have NB436_435:=n6_;clear n0_ n1_ n2_ n3_ n4_ n5_ n6_;clear hb hbox hg;have hnb7:=NB435_436.out;have hnc7:=NB436_435.out;have hcz8_0 : w6.cell? ⟨gb435,0,none⟩ = some (.int .i64 a0_0):=(blk_cell BK435.out 0).trans rfl;have hcz8_1 : w6.cell? ⟨gb435,1,none⟩ = some (.string a0_1):=(blk_cell BK435.out 1).trans rfl;have hfz8_0:=blk_frozen BK435.out 0;have hfz8_1:=blk_frozen BK435.out 1;have hcz9_0 : w6.cell? ⟨gb436,0,none⟩ = some (.int .i64 a1_0):=(blk_cell BK436.out 0).trans rfl;have hcz9_1 : w6.cell? ⟨gb436,1,none⟩ = some (.string a1_1):=(blk_cell BK436.out 1).trans rfl;have hfz9_0:=blk_frozen BK436.out 0;have hfz9_1:=blk_frozen BK436.out 1))
   go_ret
   exact ⟨by first | rfl | (simp [errW_none,errW_some] <;> rfl) | (simp [*,errW_none,errW_some] <;> rfl),hs2 HB GE435 GE436⟩
  rw [if_neg c4] at H;have c4b0 : (a0_1.toList == a1_1.toList) = false:=beq_eq_false_iff_ne.mpr c4;have c4b1 : (a0_1.toList != a1_1.toList) = true:=bne_iff_ne.mpr c4;obtain rfl:=Option.some.inj H
  go_enter Try.func123,Try.ntmps123
  go_wp2_with (first | ((with_reducible refine gate_dst (N:=2) rfl ?_);refine box_event ?hg (N:=2) ?hd (cs:=#[.int .i64 a0_0,.string a0_1]) (t:=114) ?hr ?_;(case hd=>rfl);(case hg=>rfl);(case hr=>first | (go_simp;done) | (go_simp;rfl));intro gb435 hg w10 hbox hb;have n0_:=Aside0.mk (below_step (hs HB) hb);have n1_:=Aside0.mk (hbox);have n2_:=Aside0.mk ((by rw [hg];exact (below_size (hs HB)) : w.heap.size ≤ gb435));have n3_:=Aside0.mk ((by rw [hg];exact (below_size (hs HB)) : w.heap.size ≤ gb435));clear HB;have HB:=n0_;have BK435:=n1_;have GW435:=n2_;have GE435:=n3_;clear n0_ n1_ n2_ n3_;clear hb hbox hg) | ((with_reducible refine gate_dst (N:=3) rfl ?_);refine box_event ?hg (N:=3) ?hd (cs:=#[.int .i64 a1_0,.string a1_1]) (t:=114) ?hr ?_;(case hd=>rfl);(case hg=>rfl);(case hr=>first | (go_simp;done) | (go_simp;rfl));intro gb436 hg w11 hbox hb;have n0_:=Aside0.mk (blk_below (g:=gb435) (o:=.cells #[.int .i64 a0_0,.string a0_1] 114 (0,0)) (bs BK435) hb);have n1_:=Aside0.mk (below_step (hs1 HB GE435) hb);have n2_:=Aside0.mk (hbox);have n3_:=Aside0.mk ((by rw [hg];exact (below_size (hs1 HB GE435)) : w.heap.size ≤ gb436));have n4_:=Aside0.mk ((by rw [hg];exact (below_size (hs1 HB GE435)) : w.heap.size ≤ gb436));have n5_:=Aside0.mk ((by rw [hg];exact Nat.ne_of_lt (blk_lt (g:=gb435) (o:=.cells #[.int .i64 a0_0,.string a0_1] 114 (0,0)) (bs BK435)) : gb435 ≠ gb436));have n6_:=Aside0.mk ((by rw [hg];exact Nat.ne_of_gt (blk_lt (g:=gb435) (o:=.cells #[.int .i64 a0_0,.string a0_1] 114 (0,0)) (bs BK435)) : gb436 ≠ gb435));clear BK435;clear HB;have BK435:=n0_;have HB:=n1_;have BK436:=n2_;have GW436:=n3_;have GE436:=n4_;have NB435_436:=n5_;have NB436_435:=n6_;clear n0_ n1_ n2_ n3_ n4_ n5_ n6_;clear hb hbox hg;have hnb12:=NB435_436.out;have hnc12:=NB436_435.out;have hcz13_0 : w11.cell? ⟨gb435,0,none⟩ = some (.int .i64 a0_0):=(blk_cell BK435.out 0).trans rfl;have hcz13_1 : w11.cell? ⟨gb435,1,none⟩ = some (.string a0_1):=(blk_cell BK435.out 1).trans rfl;have hfz13_0:=blk_frozen BK435.out 0;have hfz13_1:=blk_frozen BK435.out 1;have hcz14_0 : w11.cell? ⟨gb436,0,none⟩ = some (.int .i64 a1_0):=(blk_cell BK436.out 0).trans rfl;have hcz14_1 : w11.cell? ⟨gb436,1,none⟩ = some (.string a1_1):=(blk_cell BK436.out 1).trans rfl;have hfz14_0:=blk_frozen BK436.out 0;have hfz14_1:=blk_frozen BK436.out 1))
  go_ret
  exact ⟨by first | rfl | (simp [errW_none,errW_some] <;> rfl) | (simp [*,errW_none,errW_some] <;> rfl),hs2 HB GE435 GE436⟩
 rw [if_neg c3] at H;have c3b0 : (a0_0 == a1_0) = false:=beq_eq_false_iff_ne.mpr c3;have c3b1 : (a0_0 != a1_0) = true:=bne_iff_ne.mpr c3;obtain rfl:=Option.some.inj H
 go_enter Try.func123,Try.ntmps123
 go_wp2_with (first | ((with_reducible refine gate_dst (N:=2) rfl ?_);refine box_event ?hg (N:=2) ?hd (cs:=#[.int .i64 a0_0,.string a0_1]) (t:=114) ?hr ?_;(case hd=>rfl);(case hg=>rfl);(case hr=>first | (go_simp;done) | (go_simp;rfl));intro gb435 hg w15 hbox hb;have n0_:=Aside0.mk (below_step (hs HB) hb);have n1_:=Aside0.mk (hbox);have n2_:=Aside0.mk ((by rw [hg];exact (below_size (hs HB)) : w.heap.size ≤ gb435));have n3_:=Aside0.mk ((by rw [hg];exact (below_size (hs HB)) : w.heap.size ≤ gb435));clear HB;have HB:=n0_;have BK435:=n1_;have GW435:=n2_;have GE435:=n3_;clear n0_ n1_ n2_ n3_;clear hb hbox hg) | ((with_reducible refine gate_dst (N:=3) rfl ?_);refine box_event ?hg (N:=3) ?hd (cs:=#[.int .i64 a1_0,.string a1_1]) (t:=114) ?hr ?_;(case hd=>rfl);(case hg=>rfl);(case hr=>first | (go_simp;done) | (go_simp;rfl));intro gb436 hg w16 hbox hb;have n0_:=Aside0.mk (blk_below (g:=gb435) (o:=.cells #[.int .i64 a0_0,.string a0_1] 114 (0,0)) (bs BK435) hb);have n1_:=Aside0.mk (below_step (hs1 HB GE435) hb);have n2_:=Aside0.mk (hbox);have n3_:=Aside0.mk ((by rw [hg];exact (below_size (hs1 HB GE435)) : w.heap.size ≤ gb436));have n4_:=Aside0.mk ((by rw [hg];exact (below_size (hs1 HB GE435)) : w.heap.size ≤ gb436));have n5_:=Aside0.mk ((by rw [hg];exact Nat.ne_of_lt (blk_lt (g:=gb435) (o:=.cells #[.int .i64 a0_0,.string a0_1] 114 (0,0)) (bs BK435)) : gb435 ≠ gb436));have n6_:=Aside0.mk ((by rw [hg];exact Nat.ne_of_gt (blk_lt (g:=gb435) (o:=.cells #[.int .i64 a0_0,.string a0_1] 114 (0,0)) (bs BK435)) : gb436 ≠ gb435));clear BK435;clear HB;have BK435:=n0_;have HB:=n1_;have BK436:=n2_;have GW436:=n3_;have GE436:=n4_;have NB435_436:=n5_;have NB436_435:=n6_;clear n0_ n1_ n2_ n3_ n4_ n5_ n6_;clear hb hbox hg;have hnb17:=NB435_436.out;have hnc17:=NB436_435.out;have hcz18_0 : w16.cell? ⟨gb435,0,none⟩ = some (.int .i64 a0_0):=(blk_cell BK435.out 0).trans rfl;have hcz18_1 : w16.cell? ⟨gb435,1,none⟩ = some (.string a0_1):=(blk_cell BK435.out 1).trans rfl;have hfz18_0:=blk_frozen BK435.out 0;have hfz18_1:=blk_frozen BK435.out 1;have hcz19_0 : w16.cell? ⟨gb436,0,none⟩ = some (.int .i64 a1_0):=(blk_cell BK436.out 0).trans rfl;have hcz19_1 : w16.cell? ⟨gb436,1,none⟩ = some (.string a1_1):=(blk_cell BK436.out 1).trans rfl;have hfz19_0:=blk_frozen BK436.out 0;have hfz19_1:=blk_frozen BK436.out 1))
 go_ret
 exact ⟨by first | rfl | (simp [errW_none,errW_some] <;> rfl) | (simp [*,errW_none,errW_some] <;> rfl),hs2 HB GE435 GE436⟩
end Go.Proofs.Ytijbejiajaiciaa.PC

namespace Go.Proofs.Ytijbejiajaiciaa.PC
open Go.RowKit Go.Proofs.YtijbejiajaiciaaW.PrintWords Go.Proofs.YtijbejiajaiciaaW.PrintLast Go.Proofs.YtijbejiajaiciaaW.PrintMore
attribute [local go_sem] max2_int min2_int max_two min_two max_three min_three max_four min_four   -- for this text's walks alone
set_option linter.unusedVariables false
set_option linter.unusedSimpArgs false
def laws_eqLeafS.l0 : Nat → List (S114) → List (S114) → Int → Option (Bool)
 | 0,_,_,_=>none
 | k + 1,x0,x1,x5=>if x5 < (x0.length : Int) then (if 0 ≤ x5 then (if x5 < (x1.length : Int) then ((laws_eqLeaf.f ((rd_T114 x0 x5).f0) ((rd_T114 x0 x5).f1) ((rd_T114 x1 x5).f0) ((rd_T114 x1 x5).f1)).bind fun t439=>(if t439 = true then (laws_eqLeafS.l0 k x0 x1 (wrap64 (x5 + 1))) else (some false))) else (none)) else (none)) else (some true)
def laws_eqLeafS.f (k : Nat) (l0 : List (S114)) (l1 : List (S114)) : Option (Bool):=if (l0.length : Int) = (l1.length : Int) then (laws_eqLeafS.l0 k l0 l1 0) else (some false)
theorem laws_eqLeafS.mono_l : ∀ k,(∀ y0 y1 y2,LeO (laws_eqLeafS.l0 k y0 y1 y2) (laws_eqLeafS.l0 (k + 1) y0 y1 y2))
 | 0=>fun _ _ _ r h=>by simp [laws_eqLeafS.l0] at h
 | k + 1=>by
  have ih0:=laws_eqLeafS.mono_l k;intro y0 y1 y2;unfold laws_eqLeafS.l0
  repeat' first
  | (with_reducible exact ih0 _ _ _)
  | (with_reducible exact LeO.refl _)
  | (with_reducible exact LeO.none _)
  | (with_reducible refine LeO.ite ?_ ?_)
  | (with_reducible refine LeO.bind ?_ (fun _=>?_))
  | exact ih0 _ _ _
  | exact LeO.none _
  | refine LeO.ite ?_ ?_
  | refine LeO.bind ?_ (fun _=>?_)
theorem laws_eqLeafS.mono : ∀ a0 a1 k,LeO (laws_eqLeafS.f k a0 a1) (laws_eqLeafS.f (k + 1) a0 a1):=by
 intro a0 a1 k;have ih0:=laws_eqLeafS.mono_l k;unfold laws_eqLeafS.f
 repeat' first
   | (with_reducible exact ih0 _ _ _)
   | (with_reducible exact LeO.refl _)
   | (with_reducible exact LeO.none _)
   | (with_reducible refine LeO.ite ?_ ?_)
   | (with_reducible refine LeO.bind ?_ (fun _=>?_))
   | exact ih0 _ _ _
   | exact LeO.none _
   | refine LeO.ite ?_ ?_
   | refine LeO.bind ?_ (fun _=>?_)
def laws_eqLeafS.T6 : Bool × List (List Nat × List Nat):=(true,[([],[]),([],[]),([0,1],[0,1]),([2],[2]),([],[]),([],[]),([4,5],[4,5]),([6],[6]),([3,7],[3,7]),([8],[8])])
def laws_eqLeafS.B6 : List Nat:=[0,0,3,7,0,0,48,112,255,511]
theorem laws_eqLeafS.tab6 : rtab .any (opsOf Try.f117 6) = laws_eqLeafS.T6:=by kernel_rfl
theorem laws_eqLeafS.bits6 : waitsOk laws_eqLeafS.T6.2 laws_eqLeafS.B6 = true:=by kernel_rfl
set_option maxHeartbeats 8000000 in
set_option maxRecDepth 100000 in
theorem laws_eqLeafS.calls (k : Nat) (A0 : Option Addr) (c0 : Nat) (l0 : List (S114)) (A1 : Option Addr) (c1 : Nat) (l1 : List (S114)) (r : Bool) (w : World) (hr0 : Kd.C k114 w A0 l0.length l0) (hc0 : l0.length ≤ c0) (hr1 : Kd.C k114 w A1 l1.length l1) (hc1 : l1.length ≤ c1) (h : laws_eqLeafS.f k l0 l1 = some r) :
  Calls Try.prog 117 #[.slice A0 l0.length c0,.slice A1 l1.length c1] w fun e w'=>e = .returned (.bool r) ∧ Below w.heap.size w w':=by
 have hu114:=Try.underlying114;have HR0:=Aside0.mk hr0;have HC0:=Aside0.mk hc0;clear hr0 hc0;have HR1:=Aside0.mk hr1;have HC1:=Aside0.mk hc1;clear hr1 hc1;have HB:=Aside0.mk (Below.refl w.heap.size w);have H : (if (l0.length : Int) = (l1.length : Int) then (laws_eqLeafS.l0 k l0 l1 0) else (some false)) = some r:=h;clear h
 by_cases c3 : (l0.length : Int) = (l1.length : Int)
 ·rw [if_pos c3] at H;have c3b0 : ((l0.length : Int) == (l1.length : Int)) = true:=beq_iff_eq.mpr c3;have c3b1 : ((l0.length : Int) != (l1.length : Int)) = false:=bne_eq_false_iff_eq.mpr c3;have c3b2 : (l0.length == l1.length) = true:=by first | simpa using c3 | (simp at c3 ⊢;omega)
  clear c3;have H':=Aside0.mk H;clear H
  go_enter Try.func117,Try.ntmps117
  go_wp2
  go_loopg [5] k (fun kq v5 w'=>∃ (x5_1 : Int),v5 = .int .i64 x5_1 ∧ Aside0 (laws_eqLeafS.l0 kq l0 l1 x5_1 = some r) ∧ Aside0 (kq ≤ k) ∧ Aside0 (Below w.heap.size w w'));case atStart=>exact ⟨(0),(by first | rfl | (simp;done) | (simp [*];done)),H',⟨Nat.le_refl _⟩,⟨hs HB⟩⟩
  case round =>
   clear H'
   try clear c1
   try clear p2
   try clear c3
   try clear c3b0
   try clear c3b1
   try clear c3b2
   obtain ⟨x5_1,rfl,HA,HK1,HB⟩:=hrel;cases gk with
   | zero=>exact absurd HA.out (by simp [laws_eqLeafS.l0])
   | succ k1 =>
    have H:=HA.out;clear HA;simp only [laws_eqLeafS.l0] at H
    by_cases c4 : x5_1 < (l0.length : Int)
    ·rw [if_pos c4] at H;have c4b0 : decide (x5_1 < (l0.length : Int)) = true:=decide_eq_true c4;clear c4
     by_cases c5 : 0 ≤ x5_1
     ·rw [if_pos c5] at H;have c5b0 : decide (0 ≤ x5_1) = true:=decide_eq_true c5;clear c5
      by_cases c6 : x5_1 < (l1.length : Int)
      ·rw [if_pos c6] at H;have c6b0 : decide (x5_1 < (l1.length : Int)) = true:=decide_eq_true c6;clear c6;replace H:=Option.bind_eq_some_iff.mp H;obtain ⟨t439,A70,H⟩:=H;replace H : (if t439 = true then (laws_eqLeafS.l0 k1 l0 l1 (wrap64 (x5_1 + 1))) else (some false)) = some r:=H;have A7:=Aside0.mk A70;clear A70
       by_cases c8 : t439 = true
       ·subst c8;have H1 : (laws_eqLeafS.l0 k1 l0 l1 (wrap64 (x5_1 + 1))) = some r:=by rw [if_pos rfl] at H;exact H
        clear H;have H:=H1;clear H1;have H':=Aside0.mk H;clear H
        try go_wp2
        have n0_:=Aside0.mk (below_drew1 HB.out);clear HB;have HB:=n0_;clear n0_;have p437 : 0 ≤ (x5_1 : Int):=of_decide_eq_true (by first | (with_reducible assumption) | assumption);have q437 : x5_1 < (l0.length : Int):=of_decide_eq_true (by first | (with_reducible assumption) | assumption);obtain ⟨ad437,e437,hx437_0,hx437_1⟩:=at_T114 HR0.out x5_1 p437 q437;have hw437_1:=hx437_1;have hw437_0:=hx437_0;cases e437;replace hx437_0:=(HB.out.cell (World.block_lt_of_cell? w _ hx437_0)).trans hx437_0;replace hx437_1:=(HB.out.cell (World.block_lt_of_cell? w _ hx437_1)).trans hx437_1;replace p437:=eq_true p437;replace q437:=eq_true q437;have p438 : 0 ≤ (x5_1 : Int):=of_decide_eq_true (by first | (with_reducible assumption) | assumption);have q438 : x5_1 < (l1.length : Int):=of_decide_eq_true (by first | (with_reducible assumption) | assumption);obtain ⟨ad438,e438,hx438_0,hx438_1⟩:=at_T114 HR1.out x5_1 p438 q438;have hw438_1:=hx438_1;have hw438_0:=hx438_0;cases e438;replace hx438_0:=(HB.out.cell (World.block_lt_of_cell? w _ hx438_0)).trans hx438_0;replace hx438_1:=(HB.out.cell (World.block_lt_of_cell? w _ hx438_1)).trans hx438_1;replace p438:=eq_true p438;replace q438:=eq_true q438;refine start_ (n:=10) (S:=fun w'=>w'.cell? (ad437.add ((x5_1).toNat * 2)) = some (.int .i64 ((rd_T114 l0 x5_1).f0)) ∧ w'.cell? ⟨(ad437.add ((x5_1).toNat * 2)).block,(ad437.add ((x5_1).toNat * 2)).off + 1,none⟩ = some (.string ((rd_T114 l0 x5_1).f1)) ∧ w'.cell? (ad438.add ((x5_1).toNat * 2)) = some (.int .i64 ((rd_T114 l1 x5_1).f0)) ∧ w'.cell? ⟨(ad438.add ((x5_1).toNat * 2)).block,(ad438.add ((x5_1).toNat * 2)).off + 1,none⟩ = some (.string ((rd_T114 l1 x5_1).f1))) (ds:=[]) #[false,false,false,false,false,false,false,false,false,false] (by kernel_rfl) rfl rfl ⟨((HB.out.cell (World.block_lt_of_cell? w _ hw437_0)).trans hw437_0),((HB.out.cell (World.block_lt_of_cell? w _ hw437_1)).trans hw437_1),((HB.out.cell (World.block_lt_of_cell? w _ hw438_0)).trans hw438_0),((HB.out.cell (World.block_lt_of_cell? w _ hw438_1)).trans hw438_1)⟩ (fun hHeld=>?_);refine with_tabW laws_eqLeafS.tab6 laws_eqLeafS.bits6 (fun HT_ HW_=>?_);generalize wr.drew = w9 at HB hx437_0 hx437_1 hx438_0 hx438_1 hHeld ⊢;refine pure_ (i:=0) (N:=some 17) (v:=?_) (a':=?_) #[true,false,false,false,false,false,false,false,false,false] rfl rfl (any_of HT_.out (by kernel_rfl)) (fun _ _ _ h=>h) (Or.inl ⟨by rfl,?_⟩) ?_ ?_;rotate_left
        ·intro w';go_simp;with_reducible rfl
        rotate_left
        ·simp only [Act.put,List.setIfInBounds_toArray,List.set_cons_zero,List.set_cons_succ,i64_w,i32_w];rfl
        refine pure_ (i:=1) (N:=some 18) (v:=?_) (a':=?_) #[true,true,false,false,false,false,false,false,false,false] rfl rfl (any_of HT_.out (by kernel_rfl)) (fun _ _ _ h=>h) (Or.inl ⟨by rfl,?_⟩) ?_ ?_;rotate_left
        ·intro w';go_simp;with_reducible rfl
        rotate_left
        ·simp only [Act.put,List.setIfInBounds_toArray,List.set_cons_zero,List.set_cons_succ,i64_w,i32_w];rfl
        refine pure_ (i:=2) (N:=some 19) (v:=?_) (a':=?_) #[true,true,true,false,false,false,false,false,false,false] rfl rfl (any_of HT_.out (by kernel_rfl)) (fun _ _ _ h=>h) (Or.inl ⟨by rfl,?_⟩) ?_ ?_;rotate_left
        ·intro w';go_simp;with_reducible rfl
        rotate_left
        ·simp only [Act.put,List.setIfInBounds_toArray,List.set_cons_zero,List.set_cons_succ,i64_w,i32_w];rfl
        refine pure_ (i:=4) (N:=some 21) (v:=?_) (a':=?_) #[true,true,true,false,true,false,false,false,false,false] rfl rfl (any_of HT_.out (by kernel_rfl)) (fun _ _ _ h=>h) (Or.inl ⟨by rfl,?_⟩) ?_ ?_;rotate_left
        ·intro w';go_simp;with_reducible rfl
        rotate_left
        ·simp only [Act.put,List.setIfInBounds_toArray,List.set_cons_zero,List.set_cons_succ,i64_w,i32_w];rfl
        refine pure_ (i:=5) (N:=some 22) (v:=?_) (a':=?_) #[true,true,true,false,true,true,false,false,false,false] rfl rfl (any_of HT_.out (by kernel_rfl)) (fun _ _ _ h=>h) (Or.inl ⟨by rfl,?_⟩) ?_ ?_;rotate_left
        ·intro w';go_simp;with_reducible rfl
        rotate_left
        ·simp only [Act.put,List.setIfInBounds_toArray,List.set_cons_zero,List.set_cons_succ,i64_w,i32_w];rfl
        refine pure_ (i:=6) (N:=some 23) (v:=?_) (a':=?_) #[true,true,true,false,true,true,true,false,false,false] rfl rfl (any_of HT_.out (by kernel_rfl)) (fun _ _ _ h=>h) (Or.inl ⟨by rfl,?_⟩) ?_ ?_;rotate_left
        ·intro w';go_simp;with_reducible rfl
        rotate_left
        ·simp only [Act.put,List.setIfInBounds_toArray,List.set_cons_zero,List.set_cons_succ,i64_w,i32_w];rfl
        refine take_ (i:=3) (N:=some 20) (v:=?_) (a':=?_) #[true,true,true,true,true,true,true,false,false,false] rfl rfl (take_ofW HT_.out HW_.out (by kernel_rfl)) (fun _ _ _ h=>h) (Or.inl ⟨by rfl,?_⟩) hHeld ?_ ?_;rotate_left
        ·rintro w' ⟨s0,s1,s2,s3⟩;go_simp;with_reducible rfl
        rotate_left
        ·simp only [Act.put,List.setIfInBounds_toArray,List.set_cons_zero,List.set_cons_succ,i64_w,i32_w];rfl
        refine take_ (i:=7) (N:=some 24) (v:=?_) (a':=?_) #[true,true,true,true,true,true,true,true,false,false] rfl rfl (take_ofW HT_.out HW_.out (by kernel_rfl)) (fun _ _ _ h=>h) (Or.inl ⟨by rfl,?_⟩) hHeld ?_ ?_;rotate_left
        ·rintro w' ⟨s0,s1,s2,s3⟩;go_simp;with_reducible rfl
        rotate_left
        ·simp only [Act.put,List.setIfInBounds_toArray,List.set_cons_zero,List.set_cons_succ,i64_w,i32_w];rfl
        refine one_ (i:=8) (N:=some 25) #[true,true,true,true,true,true,true,true,true,false] rfl rfl (one_of HT_.out (by kernel_rfl)) (by decide) (fun K hK=>?_);refine goes_ Try.func123 (by kernel_rfl) rfl #[.agg #[.int .i64 ((rd_T114 l0 x5_1).f0),.string ((rd_T114 l0 x5_1).f1)],.agg #[.int .i64 ((rd_T114 l1 x5_1).f0),.string ((rd_T114 l1 x5_1).f1)]] (by rfl) rfl rfl (by (try simp only [List.map_toArray,List.map_cons,List.map_nil]);first | done | rfl | (simp only [List.length_drop,List.length_take];rfl)) ?_;with_reducible refine (laws_eqLeaf.calls ((rd_T114 l0 x5_1).f0) ((rd_T114 l0 x5_1).f1) ((rd_T114 l1 x5_1).f0) ((rd_T114 l1 x5_1).f1) true _ A7.out).mono ?_
        rintro e w10 ⟨rfl,hb⟩;refine ⟨_,rfl,?_⟩;have n0_:=Aside0.mk (below_step (hs HB) hb);clear HB;have HB:=n0_;clear n0_
        (try clear hb)
        (try clear hb2)
        (try clear hk)
        (try clear hi)
        refine hK.out _ _ ⟨((HB.out.cell (World.block_lt_of_cell? w _ hw437_0)).trans hw437_0),((HB.out.cell (World.block_lt_of_cell? w _ hw437_1)).trans hw437_1),((HB.out.cell (World.block_lt_of_cell? w _ hw438_0)).trans hw438_0),((HB.out.cell (World.block_lt_of_cell? w _ hw438_1)).trans hw438_1)⟩ (fun hHeld=>?_);clear hK K;refine norm_ (a':=?_) ?_ ?_;rotate_left
        ·show Act.put _ (some 25) _ = _;simp only [Act.put,List.setIfInBounds_toArray,List.set_cons_zero,List.set_cons_succ,i64_w,i32_w];rfl
        refine pure_ (i:=9) (N:=some 26) (v:=?_) (a':=?_) #[true,true,true,true,true,true,true,true,true,true] rfl rfl (any_of HT_.out (by kernel_rfl)) (fun _ _ _ h=>h) (Or.inl ⟨by rfl,?_⟩) ?_ ?_;rotate_left
        ·intro w';go_simp;with_reducible rfl
        rotate_left
        ·simp only [Act.put,List.setIfInBounds_toArray,List.set_cons_zero,List.set_cons_succ,i64_w,i32_w];rfl
        refine done_ (done_of HT_.out (by kernel_rfl)) ?_
        try go_wp2
        go_roundg k1;case measure=>have:=HK1.out;omega
        case rel=>exact ⟨(wrap64 (x5_1 + 1)),(by first | rfl | (simp;done) | (simp [*];done)),H',⟨by have:=HK1.out;omega⟩,⟨hs HB⟩⟩
       replace c8:=Bool.eq_false_iff.mpr c8;subst c8;have H1 : (some false) = some r:=by rw [if_neg (show ¬ (false = true) by decide)] at H;exact H
       clear H;have H:=H1;clear H1;obtain rfl:=Option.some.inj H
       try go_wp2
       have n0_:=Aside0.mk (below_drew1 HB.out);clear HB;have HB:=n0_;clear n0_;have p437 : 0 ≤ (x5_1 : Int):=of_decide_eq_true (by first | (with_reducible assumption) | assumption);have q437 : x5_1 < (l0.length : Int):=of_decide_eq_true (by first | (with_reducible assumption) | assumption);obtain ⟨ad437,e437,hx437_0,hx437_1⟩:=at_T114 HR0.out x5_1 p437 q437;have hw437_1:=hx437_1;have hw437_0:=hx437_0;cases e437;replace hx437_0:=(HB.out.cell (World.block_lt_of_cell? w _ hx437_0)).trans hx437_0;replace hx437_1:=(HB.out.cell (World.block_lt_of_cell? w _ hx437_1)).trans hx437_1;replace p437:=eq_true p437;replace q437:=eq_true q437;have p438 : 0 ≤ (x5_1 : Int):=of_decide_eq_true (by first | (with_reducible assumption) | assumption);have q438 : x5_1 < (l1.length : Int):=of_decide_eq_true (by first | (with_reducible assumption) | assumption);obtain ⟨ad438,e438,hx438_0,hx438_1⟩:=at_T114 HR1.out x5_1 p438 q438;have hw438_1:=hx438_1;have hw438_0:=hx438_0;cases e438;replace hx438_0:=(HB.out.cell (World.block_lt_of_cell? w _ hx438_0)).trans hx438_0;replace hx438_1:=(HB.out.cell (World.block_lt_of_cell? w _ hx438_1)).trans hx438_1;replace p438:=eq_true p438;replace q438:=eq_true q438;refine start_ (n:=10) (S:=fun w'=>w'.cell? (ad437.add ((x5_1).toNat * 2)) = some (.int .i64 ((rd_T114 l0 x5_1).f0)) ∧ w'.cell? ⟨(ad437.add ((x5_1).toNat * 2)).block,(ad437.add ((x5_1).toNat * 2)).off + 1,none⟩ = some (.string ((rd_T114 l0 x5_1).f1)) ∧ w'.cell? (ad438.add ((x5_1).toNat * 2)) = some (.int .i64 ((rd_T114 l1 x5_1).f0)) ∧ w'.cell? ⟨(ad438.add ((x5_1).toNat * 2)).block,(ad438.add ((x5_1).toNat * 2)).off + 1,none⟩ = some (.string ((rd_T114 l1 x5_1).f1))) (ds:=[]) #[false,false,false,false,false,false,false,false,false,false] (by kernel_rfl) rfl rfl ⟨((HB.out.cell (World.block_lt_of_cell? w _ hw437_0)).trans hw437_0),((HB.out.cell (World.block_lt_of_cell? w _ hw437_1)).trans hw437_1),((HB.out.cell (World.block_lt_of_cell? w _ hw438_0)).trans hw438_0),((HB.out.cell (World.block_lt_of_cell? w _ hw438_1)).trans hw438_1)⟩ (fun hHeld=>?_);refine with_tabW laws_eqLeafS.tab6 laws_eqLeafS.bits6 (fun HT_ HW_=>?_);generalize wr.drew = w11 at HB hx437_0 hx437_1 hx438_0 hx438_1 hHeld ⊢;refine pure_ (i:=0) (N:=some 17) (v:=?_) (a':=?_) #[true,false,false,false,false,false,false,false,false,false] rfl rfl (any_of HT_.out (by kernel_rfl)) (fun _ _ _ h=>h) (Or.inl ⟨by rfl,?_⟩) ?_ ?_;rotate_left
       ·intro w';go_simp;with_reducible rfl
       rotate_left
       ·simp only [Act.put,List.setIfInBounds_toArray,List.set_cons_zero,List.set_cons_succ,i64_w,i32_w];rfl
       refine pure_ (i:=1) (N:=some 18) (v:=?_) (a':=?_) #[true,true,false,false,false,false,false,false,false,false] rfl rfl (any_of HT_.out (by kernel_rfl)) (fun _ _ _ h=>h) (Or.inl ⟨by rfl,?_⟩) ?_ ?_;rotate_left
       ·intro w';go_simp;with_reducible rfl
       rotate_left
       ·simp only [Act.put,List.setIfInBounds_toArray,List.set_cons_zero,List.set_cons_succ,i64_w,i32_w];rfl
       refine pure_ (i:=2) (N:=some 19) (v:=?_) (a':=?_) #[true,true,true,false,false,false,false,false,false,false] rfl rfl (any_of HT_.out (by kernel_rfl)) (fun _ _ _ h=>h) (Or.inl ⟨by rfl,?_⟩) ?_ ?_;rotate_left
       ·intro w';go_simp;with_reducible rfl
       rotate_left
       ·simp only [Act.put,List.setIfInBounds_toArray,List.set_cons_zero,List.set_cons_succ,i64_w,i32_w];rfl
       refine pure_ (i:=4) (N:=some 21) (v:=?_) (a':=?_) #[true,true,true,false,true,false,false,false,false,false] rfl rfl (any_of HT_.out (by kernel_rfl)) (fun _ _ _ h=>h) (Or.inl ⟨by rfl,?_⟩) ?_ ?_;rotate_left
       ·intro w';go_simp;with_reducible rfl
       rotate_left
       ·simp only [Act.put,List.setIfInBounds_toArray,List.set_cons_zero,List.set_cons_succ,i64_w,i32_w];rfl
       refine pure_ (i:=5) (N:=some 22) (v:=?_) (a':=?_) #[true,true,true,false,true,true,false,false,false,false] rfl rfl (any_of HT_.out (by kernel_rfl)) (fun _ _ _ h=>h) (Or.inl ⟨by rfl,?_⟩) ?_ ?_;rotate_left
       ·intro w';go_simp;with_reducible rfl
       rotate_left
       ·simp only [Act.put,List.setIfInBounds_toArray,List.set_cons_zero,List.set_cons_succ,i64_w,i32_w];rfl
       refine pure_ (i:=6) (N:=some 23) (v:=?_) (a':=?_) #[true,true,true,false,true,true,true,false,false,false] rfl rfl (any_of HT_.out (by kernel_rfl)) (fun _ _ _ h=>h) (Or.inl ⟨by rfl,?_⟩) ?_ ?_;rotate_left
       ·intro w';go_simp;with_reducible rfl
       rotate_left
       ·simp only [Act.put,List.setIfInBounds_toArray,List.set_cons_zero,List.set_cons_succ,i64_w,i32_w];rfl
       refine take_ (i:=3) (N:=some 20) (v:=?_) (a':=?_) #[true,true,true,true,true,true,true,false,false,false] rfl rfl (take_ofW HT_.out HW_.out (by kernel_rfl)) (fun _ _ _ h=>h) (Or.inl ⟨by rfl,?_⟩) hHeld ?_ ?_;rotate_left
       ·rintro w' ⟨s0,s1,s2,s3⟩;go_simp;with_reducible rfl
       rotate_left
       ·simp only [Act.put,List.setIfInBounds_toArray,List.set_cons_zero,List.set_cons_succ,i64_w,i32_w];rfl
       refine take_ (i:=7) (N:=some 24) (v:=?_) (a':=?_) #[true,true,true,true,true,true,true,true,false,false] rfl rfl (take_ofW HT_.out HW_.out (by kernel_rfl)) (fun _ _ _ h=>h) (Or.inl ⟨by rfl,?_⟩) hHeld ?_ ?_;rotate_left
       ·rintro w' ⟨s0,s1,s2,s3⟩;go_simp;with_reducible rfl
       rotate_left
       ·simp only [Act.put,List.setIfInBounds_toArray,List.set_cons_zero,List.set_cons_succ,i64_w,i32_w];rfl
       refine one_ (i:=8) (N:=some 25) #[true,true,true,true,true,true,true,true,true,false] rfl rfl (one_of HT_.out (by kernel_rfl)) (by decide) (fun K hK=>?_);refine goes_ Try.func123 (by kernel_rfl) rfl #[.agg #[.int .i64 ((rd_T114 l0 x5_1).f0),.string ((rd_T114 l0 x5_1).f1)],.agg #[.int .i64 ((rd_T114 l1 x5_1).f0),.string ((rd_T114 l1 x5_1).f1)]] (by rfl) rfl rfl (by (try simp only [List.map_toArray,List.map_cons,List.map_nil]);first | done | rfl | (simp only [List.length_drop,List.length_take];rfl)) ?_;with_reducible refine (laws_eqLeaf.calls ((rd_T114 l0 x5_1).f0) ((rd_T114 l0 x5_1).f1) ((rd_T114 l1 x5_1).f0) ((rd_T114 l1 x5_1).f1) false _ A7.out).mono ?_
       rintro e w12 ⟨rfl,hb⟩;refine ⟨_,rfl,?_⟩;have n0_:=Aside0.mk (below_step (hs HB) hb);clear HB;have HB:=n0_;clear n0_
       (try clear hb)
       (try clear hb2)
       (try clear hk)
       (try clear hi)
       refine hK.out _ _ ⟨((HB.out.cell (World.block_lt_of_cell? w _ hw437_0)).trans hw437_0),((HB.out.cell (World.block_lt_of_cell? w _ hw437_1)).trans hw437_1),((HB.out.cell (World.block_lt_of_cell? w _ hw438_0)).trans hw438_0),((HB.out.cell (World.block_lt_of_cell? w _ hw438_1)).trans hw438_1)⟩ (fun hHeld=>?_);clear hK K;refine norm_ (a':=?_) ?_ ?_;rotate_left
       ·show Act.put _ (some 25) _ = _;simp only [Act.put,List.setIfInBounds_toArray,List.set_cons_zero,List.set_cons_succ,i64_w,i32_w];rfl
       refine pure_ (i:=9) (N:=some 26) (v:=?_) (a':=?_) #[true,true,true,true,true,true,true,true,true,true] rfl rfl (any_of HT_.out (by kernel_rfl)) (fun _ _ _ h=>h) (Or.inl ⟨by rfl,?_⟩) ?_ ?_;rotate_left
       ·intro w';go_simp;with_reducible rfl
       rotate_left
       ·simp only [Act.put,List.setIfInBounds_toArray,List.set_cons_zero,List.set_cons_succ,i64_w,i32_w];rfl
       refine done_ (done_of HT_.out (by kernel_rfl)) ?_
       try go_wp2
       go_ret
       exact ⟨by first | rfl | (simp [errW_none,errW_some] <;> rfl) | (simp [*,errW_none,errW_some] <;> rfl),hs HB⟩
      rw [if_neg c6] at H;exact absurd H (by simp)
     rw [if_neg c5] at H;exact absurd H (by simp)
    rw [if_neg c4] at H;have c4b0 : decide (x5_1 < (l0.length : Int)) = false:=decide_eq_false c4;clear c4;obtain rfl:=Option.some.inj H
    go_wp2
    go_ret
    exact ⟨by first | rfl | (simp [errW_none,errW_some] <;> rfl) | (simp [*,errW_none,errW_some] <;> rfl),hs HB⟩
 rw [if_neg c3] at H;have c3b0 : ((l0.length : Int) == (l1.length : Int)) = false:=beq_eq_false_iff_ne.mpr c3;have c3b1 : ((l0.length : Int) != (l1.length : Int)) = true:=bne_iff_ne.mpr c3;have c3b2 : (l0.length == l1.length) = false:=by first | simpa using c3 | (simp at c3 ⊢;omega)
 obtain rfl:=Option.some.inj H
 go_enter Try.func117,Try.ntmps117
 go_wp2
 go_ret
 exact ⟨by first | rfl | (simp [errW_none,errW_some] <;> rfl) | (simp [*,errW_none,errW_some] <;> rfl),hs HB⟩
end Go.Proofs.Ytijbejiajaiciaa.PC

namespace Go.Proofs.Ytijbejiajaiciaa.PC
open Go.RowKit Go.Proofs.YtijbejiajaiciaaW.PrintWords Go.Proofs.YtijbejiajaiciaaW.PrintLast Go.Proofs.YtijbejiajaiciaaW.PrintMore
attribute [local go_sem] max2_int min2_int max_two min_two max_three min_three max_four min_four   -- for this text's walks alone
set_option linter.unusedVariables false
set_option linter.unusedSimpArgs false
def laws_eqBlock.f (k : Nat) (a0_0 : Bool) (a0_1 : Int) (l0_2 : List (S114)) (a1_0 : Bool) (a1_1 : Int) (l1_2 : List (S114)) : Option (Bool):=if (a0_0 != a1_0) = true then (some false) else (if a0_1 = a1_1 then ((laws_eqLeafS.f k l0_2 l1_2).bind fun t442=>(if t442 = true then (some true) else (some false))) else (some false))
theorem laws_eqBlock.mono : ∀ a0 a1 a2 a3 a4 a5 k,LeO (laws_eqBlock.f k a0 a1 a2 a3 a4 a5) (laws_eqBlock.f (k + 1) a0 a1 a2 a3 a4 a5):=by
 intro a0 a1 a2 a3 a4 a5 k;unfold laws_eqBlock.f
 repeat' first
   | (with_reducible exact laws_eqLeafS.mono _ _ _)
   | (with_reducible exact LeO.refl _)
   | (with_reducible exact LeO.none _)
   | (with_reducible refine LeO.ite ?_ ?_)
   | (with_reducible refine LeO.bind ?_ (fun _=>?_))
   | exact laws_eqLeafS.mono _ _ _
   | exact LeO.none _
   | refine LeO.ite ?_ ?_
   | refine LeO.bind ?_ (fun _=>?_)
set_option maxHeartbeats 8000000 in
set_option maxRecDepth 100000 in
theorem laws_eqBlock.calls (k : Nat) (a0_0 : Bool) (a0_1 : Int) (A0_2 : Option Addr) (c0_2 : Nat) (l0_2 : List (S114)) (a1_0 : Bool) (a1_1 : Int) (A1_2 : Option Addr) (c1_2 : Nat) (l1_2 : List (S114)) (r : Bool) (w : World) (hr0_2 : Kd.C k114 w A0_2 l0_2.length l0_2) (hc0_2 : l0_2.length ≤ c0_2) (hr1_2 : Kd.C k114 w A1_2 l1_2.length l1_2) (hc1_2 : l1_2.length ≤ c1_2) (h : laws_eqBlock.f k a0_0 a0_1 l0_2 a1_0 a1_1 l1_2 = some r) :
  Calls Try.prog 103 #[.agg #[.bool a0_0,.int .i64 a0_1,.slice A0_2 l0_2.length c0_2],.agg #[.bool a1_0,.int .i64 a1_1,.slice A1_2 l1_2.length c1_2]] w fun e w'=>e = .returned (.bool r) ∧ Below w.heap.size w w':=by
 have hu112:=Try.underlying112;have HR0_2:=Aside0.mk hr0_2;have HC0_2:=Aside0.mk hc0_2;clear hr0_2 hc0_2;have HR1_2:=Aside0.mk hr1_2;have HC1_2:=Aside0.mk hc1_2;clear hr1_2 hc1_2;have HB:=Aside0.mk (Below.refl w.heap.size w);have H : (if (a0_0 != a1_0) = true then (some false) else (if a0_1 = a1_1 then ((laws_eqLeafS.f k l0_2 l1_2).bind fun t442=>(if t442 = true then (some true) else (some false))) else (some false))) = some r:=h;clear h
 by_cases c3 : (a0_0 != a1_0) = true
 ·rw [if_pos c3] at H;have c3b0 : (a0_0 != a1_0) = true:=c3
  (try (have c3b1 : decide (a0_0 = a1_0) = false:=by simpa using c3))
  (try (have c3b2 : (a0_0 == a1_0) = false:=by simpa using c3))
  (try (have c3b3 : ¬ (a0_0 = a1_0):=by simpa using c3))
  clear c3;obtain rfl:=Option.some.inj H
  go_enter Try.func103,Try.ntmps103
  go_wp2_with (first | ((with_reducible refine gate_dst (N:=2) rfl ?_);refine box_event ?hg (N:=2) ?hd (cs:=#[.bool a0_0,.int .i64 a0_1,.slice A0_2 l0_2.length c0_2]) (t:=112) ?hr ?_;(case hd=>rfl);(case hg=>rfl);(case hr=>first | (go_simp;done) | (go_simp;rfl));intro gb440 hg w4 hbox hb;have n0_:=Aside0.mk (below_step (hs HB) hb);have n1_:=Aside0.mk (hbox);have n2_:=Aside0.mk ((by rw [hg];exact (below_size (hs HB)) : w.heap.size ≤ gb440));have n3_:=Aside0.mk ((by rw [hg];exact (below_size (hs HB)) : w.heap.size ≤ gb440));clear HB;have HB:=n0_;have BK440:=n1_;have GW440:=n2_;have GE440:=n3_;clear n0_ n1_ n2_ n3_;clear hb hbox hg) | ((with_reducible refine gate_dst (N:=3) rfl ?_);refine box_event ?hg (N:=3) ?hd (cs:=#[.bool a1_0,.int .i64 a1_1,.slice A1_2 l1_2.length c1_2]) (t:=112) ?hr ?_;(case hd=>rfl);(case hg=>rfl);(case hr=>first | (go_simp;done) | (go_simp;rfl));intro gb441 hg w5 hbox hb;have n0_:=Aside0.mk (blk_below (g:=gb440) (o:=.cells #[.bool a0_0,.int .i64 a0_1,.slice A0_2 l0_2.length c0_2] 112 (0,0)) (bs BK440) hb);have n1_:=Aside0.mk (below_step (hs1 HB GE440) hb);have n2_:=Aside0.mk (hbox);have n3_:=Aside0.mk ((by rw [hg];exact (below_size (hs1 HB GE440)) : w.heap.size ≤ gb441));have n4_:=Aside0.mk ((by rw [hg];exact (below_size (hs1 HB GE440)) : w.heap.size ≤ gb441));have n5_:=Aside0.mk ((by rw [hg];exact Nat.ne_of_lt (blk_lt (g:=gb440) (o:=.cells #[.bool a0_0,.int .i64 a0_1,.slice A0_2 l0_2.length c0_2] 112 (0,0)) (bs BK440)) : gb440 ≠ gb441));have n6_:=Aside0.mk ((by rw [hg];exact Nat.ne_of_gt (blk_lt (g:=gb440) (o:=.cells #[.bool a0_0,.int .i64 a0_1,.slice A0_2 l0_2.length c0_2] 112 (0,0)) (bs BK440)) : gb441 ≠ gb440));clear BK440;clear HB;have BK440:=n0_;have HB:=n1_;have BK441:=n2_;have GW441:=n3_;have GE441:=n4_;have NB440_441:=n5_;have NB441_440:=n6_;clear n0_ n1_ n2_ n3_ n4_ n5_ n6_;clear hb hbox hg;have hnb6:=NB440_441.out;have hnc6:=NB441_440.out;have hcz7_0 : w5.cell? ⟨gb440,0,none⟩ = some (.bool a0_0):=(blk_cell BK440.out 0).trans rfl;have hcz7_1 : w5.cell? ⟨gb440,1,none⟩ = some (.int .i64 a0_1):=(blk_cell BK440.out 1).trans rfl;have hcz7_2 : w5.cell? ⟨gb440,2,none⟩ = some (.slice A0_2 l0_2.length c0_2):=(blk_cell BK440.out 2).trans rfl;have hfz7_0:=blk_frozen BK440.out 0;have hfz7_1:=blk_frozen BK440.out 1;have hfz7_2:=blk_frozen BK440.out 2;have hcz8_0 : w5.cell? ⟨gb441,0,none⟩ = some (.bool a1_0):=(blk_cell BK441.out 0).trans rfl;have hcz8_1 : w5.cell? ⟨gb441,1,none⟩ = some (.int .i64 a1_1):=(blk_cell BK441.out 1).trans rfl;have hcz8_2 : w5.cell? ⟨gb441,2,none⟩ = some (.slice A1_2 l1_2.length c1_2):=(blk_cell BK441.out 2).trans rfl;have hfz8_0:=blk_frozen BK441.out 0;have hfz8_1:=blk_frozen BK441.out 1;have hfz8_2:=blk_frozen BK441.out 2))
  go_ret
  exact ⟨by first | rfl | (simp [errW_none,errW_some] <;> rfl) | (simp [*,errW_none,errW_some] <;> rfl),hs2 HB GE440 GE441⟩
 rw [if_neg c3] at H;have c3b0 : (a0_0 != a1_0) = false:=by simpa using c3
 (try (have c3b1 : decide (a0_0 = a1_0) = true:=by simpa using c3))
 (try (have c3b2 : (a0_0 == a1_0) = true:=by simpa using c3))
 clear c3
 by_cases c9 : a0_1 = a1_1
 ·rw [if_pos c9] at H;have c9b0 : (a0_1 == a1_1) = true:=beq_iff_eq.mpr c9;have c9b1 : (a0_1 != a1_1) = false:=bne_eq_false_iff_eq.mpr c9;clear c9;replace H:=Option.bind_eq_some_iff.mp H;obtain ⟨t442,A100,H⟩:=H;replace H : (if t442 = true then (some true) else (some false)) = some r:=H;have A10:=Aside0.mk A100;clear A100
  by_cases c11 : t442 = true
  ·subst c11;have H1 : (some true) = some r:=by rw [if_pos rfl] at H;exact H
   clear H;have H:=H1;clear H1;obtain rfl:=Option.some.inj H
   go_enter Try.func103,Try.ntmps103
   go_wp2_with (first | ((with_reducible refine gate_dst (N:=2) rfl ?_);refine box_event ?hg (N:=2) ?hd (cs:=#[.bool a0_0,.int .i64 a0_1,.slice A0_2 l0_2.length c0_2]) (t:=112) ?hr ?_;(case hd=>rfl);(case hg=>rfl);(case hr=>first | (go_simp;done) | (go_simp;rfl));intro gb440 hg w12 hbox hb;have n0_:=Aside0.mk (below_step (hs HB) hb);have n1_:=Aside0.mk (hbox);have n2_:=Aside0.mk ((by rw [hg];exact (below_size (hs HB)) : w.heap.size ≤ gb440));have n3_:=Aside0.mk ((by rw [hg];exact (below_size (hs HB)) : w.heap.size ≤ gb440));clear HB;have HB:=n0_;have BK440:=n1_;have GW440:=n2_;have GE440:=n3_;clear n0_ n1_ n2_ n3_;clear hb hbox hg) | ((with_reducible refine gate_dst (N:=3) rfl ?_);refine box_event ?hg (N:=3) ?hd (cs:=#[.bool a1_0,.int .i64 a1_1,.slice A1_2 l1_2.length c1_2]) (t:=112) ?hr ?_;(case hd=>rfl);(case hg=>rfl);(case hr=>first | (go_simp;done) | (go_simp;rfl));intro gb441 hg w13 hbox hb;have n0_:=Aside0.mk (blk_below (g:=gb440) (o:=.cells #[.bool a0_0,.int .i64 a0_1,.slice A0_2 l0_2.length c0_2] 112 (0,0)) (bs BK440) hb);have n1_:=Aside0.mk (below_step (hs1 HB GE440) hb);have n2_:=Aside0.mk (hbox);have n3_:=Aside0.mk ((by rw [hg];exact (below_size (hs1 HB GE440)) : w.heap.size ≤ gb441));have n4_:=Aside0.mk ((by rw [hg];exact (below_size (hs1 HB GE440)) : w.heap.size ≤ gb441));have n5_:=Aside0.mk ((by rw [hg];exact Nat.ne_of_lt (blk_lt (g:=gb440) (o:=.cells #[.bool a0_0,.int .i64 a0_1,.slice A0_2 l0_2.length c0_2] 112 (0,0)) (bs BK440)) : gb440 ≠ gb441));have n6_:=Aside0.mk ((by rw [hg];exact Nat.ne_of_gt (blk_lt (g:=gb440) (o:=.cells #[.bool a0_0,.int .i64 a0_1,.slice A0_2 l0_2.length c0_2] 112 (0,0)) (bs BK440)) : gb441 ≠ gb440));clear BK440;clear HB;have BK440:=n0_;have HB:=n1_;have BK441:=n2_;have GW441:=n3_;have GE441:=n4_;have NB440_441:=n5_;have NB441_440:=n6_;clear n0_ n1_ n2_ n3_ n4_ n5_ n6_;clear hb hbox hg;have hnb14:=NB440_441.out;have hnc14:=NB441_440.out;have hcz15_0 : w13.cell? ⟨gb440,0,none⟩ = some (.bool a0_0):=(blk_cell BK440.out 0).trans rfl;have hcz15_1 : w13.cell? ⟨gb440,1,none⟩ = some (.int .i64 a0_1):=(blk_cell BK440.out 1).trans rfl;have hcz15_2 : w13.cell? ⟨gb440,2,none⟩ = some (.slice A0_2 l0_2.length c0_2):=(blk_cell BK440.out 2).trans rfl;have hfz15_0:=blk_frozen BK440.out 0;have hfz15_1:=blk_frozen BK440.out 1;have hfz15_2:=blk_frozen BK440.out 2;have hcz16_0 : w13.cell? ⟨gb441,0,none⟩ = some (.bool a1_0):=(blk_cell BK441.out 0).trans rfl;have hcz16_1 : w13.cell? ⟨gb441,1,none⟩ = some (.int .i64 a1_1):=(blk_cell BK441.out 1).trans rfl;have hcz16_2 : w13.cell? ⟨gb441,2,none⟩ = some (.slice A1_2 l1_2.length c1_2):=(blk_cell BK441.out 2).trans rfl;have hfz16_0:=blk_frozen BK441.out 0;have hfz16_1:=blk_frozen BK441.out 1;have hfz16_2:=blk_frozen BK441.out 2) | ((with_reducible refine gate_callee (f:=117) rfl ?_);refine goesL_ (some 19) rfl rfl Try.func117 (by kernel_rfl) rfl #[.slice A0_2 l0_2.length c0_2,.slice A1_2 l1_2.length c1_2] rfl (by (try simp only [List.map_toArray,List.map_cons,List.map_nil]);first | done | rfl | (simp only [List.length_drop,List.length_take];rfl)) ?_;(with_reducible refine (laws_eqLeafS.calls k _ _ l0_2 _ _ l1_2 true _ ?side1 ?side2 ?side3 ?side4 A10.out).mono ?_);(case side1=>repeat (first | exact (Kd.C_below HR0_2.out HB.out) | (with_reducible refine Kd.C_alloc ?_ _) | (with_reducible refine Kd.C_drewN ?_ _) | (with_reducible refine Kd.C_drew ?_)));(case side2=>exact HC0_2.out);(case side3=>repeat (first | exact (Kd.C_below HR1_2.out HB.out) | (with_reducible refine Kd.C_alloc ?_ _) | (with_reducible refine Kd.C_drewN ?_ _) | (with_reducible refine Kd.C_drew ?_)));(case side4=>exact HC1_2.out);rintro e w17 ⟨rfl,hb⟩;refine ⟨_,rfl,?_⟩;have n0_:=Aside0.mk (blk_below (g:=gb440) (o:=.cells #[.bool a0_0,.int .i64 a0_1,.slice A0_2 l0_2.length c0_2] 112 (0,0)) (bs BK440) hb);have n1_:=Aside0.mk (blk_below (g:=gb441) (o:=.cells #[.bool a1_0,.int .i64 a1_1,.slice A1_2 l1_2.length c1_2] 112 (0,0)) (bs BK441) hb);have n2_:=Aside0.mk (below_step (hs2 HB GE440 GE441) hb);clear BK440;clear BK441;clear HB;have BK440:=n0_;have BK441:=n1_;have HB:=n2_;clear n0_ n1_ n2_;(try clear hb);(try clear hb2);(try clear hk);(try clear hi)))
   go_ret
   exact ⟨by first | rfl | (simp [errW_none,errW_some] <;> rfl) | (simp [*,errW_none,errW_some] <;> rfl),hs2 HB GE440 GE441⟩
  replace c11:=Bool.eq_false_iff.mpr c11;subst c11;have H1 : (some false) = some r:=by rw [if_neg (show ¬ (false = true) by decide)] at H;exact H
  clear H;have H:=H1;clear H1;obtain rfl:=Option.some.inj H
  go_enter Try.func103,Try.ntmps103
  go_wp2_with (first | ((with_reducible refine gate_dst (N:=2) rfl ?_);refine box_event ?hg (N:=2) ?hd (cs:=#[.bool a0_0,.int .i64 a0_1,.slice A0_2 l0_2.length c0_2]) (t:=112) ?hr ?_;(case hd=>rfl);(case hg=>rfl);(case hr=>first | (go_simp;done) | (go_simp;rfl));intro gb440 hg w18 hbox hb;have n0_:=Aside0.mk (below_step (hs HB) hb);have n1_:=Aside0.mk (hbox);have n2_:=Aside0.mk ((by rw [hg];exact (below_size (hs HB)) : w.heap.size ≤ gb440));have n3_:=Aside0.mk ((by rw [hg];exact (below_size (hs HB)) : w.heap.size ≤ gb440));clear HB;have HB:=n0_;have BK440:=n1_;have GW440:=n2_;have GE440:=n3_;clear n0_ n1_ n2_ n3_;clear hb hbox hg) | ((with_reducible refine gate_dst (N:=3) rfl ?_);refine box_event ?hg (N:=3) ?hd (cs:=#[.bool a1_0,.int .i64 a1_1,.slice A1_2 l1_2.length c1_2]) (t:=112) ?hr ?_;(case hd=>rfl);(case hg=>rfl);(case hr=>first | (go_simp;done) | (go_simp;rfl));intro gb441 hg w19 hbox hb;have n0_:=Aside0.mk (blk_below (g:=gb440) (o:=.cells #[.bool a0_0,.int .i64 a0_1,.slice A0_2 l0_2.length c0_2] 112 (0,0)) (bs BK440) hb);have n1_:=Aside0.mk (below_step (hs1 HB GE440) hb);have n2_:=Aside0.mk (hbox);have n3_:=Aside0.mk ((by rw [hg];exact (below_size (hs1 HB GE440)) : w.heap.size ≤ gb441));have n4_:=Aside0.mk ((by rw [hg];exact (below_size (hs1 HB GE440)) : w.heap.size ≤ gb441));have n5_:=Aside0.mk ((by rw [hg];exact Nat.ne_of_lt (blk_lt (g:=gb440) (o:=.cells #[.bool a0_0,.int .i64 a0_1,.slice A0_2 l0_2.length c0_2] 112 (0,0)) (bs BK440)) : gb440 ≠ gb441));have n6_:=Aside0.mk ((by rw [hg];exact Nat.ne_of_gt (blk_lt (g:=gb440) (o:=.cells #[.bool a0_0,.int .i64 a0_1,.slice A0_2 l0_2.length c0_2] 112 (0,0)) (bs BK440)) : gb441 ≠ gb440));clear BK440;clear HB;have BK440:=n0_;have HB:=n1_;have BK441:=n2_;have GW441:=n3_;have GE441:=n4_;have NB440_441:=n5_;have NB441_440:=n6_;clear n0_ n1_ n2_ n3_ n4_ n5_ n6_;clear hb hbox hg;have hnb20:=NB440_441.out;have hnc20:=NB441_440.out;have hcz21_0 : w19.cell? ⟨gb440,0,none⟩ = some (.bool a0_0):=(blk_cell BK440.out 0).trans rfl;have hcz21_1 : w19.cell? ⟨gb440,1,none⟩ = some (.int .i64 a0_1):=(blk_cell BK440.out 1).trans rfl;have hcz21_2 : w19.cell? ⟨gb440,2,none⟩ = some (.slice A0_2 l0_2.length c0_2):=(blk_cell BK440.out 2).trans rfl;have hfz21_0:=blk_frozen BK440.out 0;have hfz21_1:=blk_frozen BK440.out 1;have hfz21_2:=blk_frozen BK440.out 2;have hcz22_0 : w19.cell? ⟨gb441,0,none⟩ = some (.bool a1_0):=(blk_cell BK441.out 0).trans rfl;have hcz22_1 : w19.cell? ⟨gb441,1,none⟩ = some (.int .i64 a1_1):=(blk_cell BK441.out 1).trans rfl;have hcz22_2 : w19.cell? ⟨gb441,2,none⟩ = some (.slice A1_2 l1_2.length c1_2):=(blk_cell BK441.out 2).trans rfl;have hfz22_0:=blk_frozen BK441.out 0;have hfz22_1:=blk_frozen BK441.out 1;have hfz22_2:=blk_frozen BK441.out 2) | ((with_reducible refine gate_callee (f:=117) rfl ?_);refine goesL_ (some 19) rfl rfl Try.func117 (by kernel_rfl) rfl #[.slice A0_2 l0_2.length c0_2,.slice A1_2 l1_2.length c1_2] rfl (by (try simp only [List.map_toArray,List.map_cons,List.map_nil]);first | done | rfl | (simp only [List.length_drop,List.length_take];rfl)) ?_;(with_reducible refine (laws_eqLeafS.calls k _ _ l0_2 _ _ l1_2 false _ ?side1 ?side2 ?side3 ?side4 A10.out).mono ?_);(case side1=>repeat (first | exact (Kd.C_below HR0_2.out HB.out) | (with_reducible refine Kd.C_alloc ?_ _) | (with_reducible refine Kd.C_drewN ?_ _) | (with_reducible refine Kd.C_drew ?_)));(case side2=>exact HC0_2.out);(case side3=>repeat (first | exact (Kd.C_below HR1_2.out HB.out) | (with_reducible refine Kd.C_alloc ?_ _) | (with_reducible refine Kd.C_drewN ?_ _) | (with_reducible refine Kd.C_drew ?_)));(case side4=>exact HC1_2.out);rintro e w23 ⟨rfl,hb⟩;refine ⟨_,rfl,?_⟩;have n0_:=Aside0.mk (blk_below (g:=gb440) (o:=.cells #[.bool a0_0,.int .i64 a0_1,.slice A0_2 l0_2.length c0_2] 112 (0,0)) (bs BK440) hb);have n1_:=Aside0.mk (blk_below (g:=gb441) (o:=.cells #[.bool a1_0,.int .i64 a1_1,.slice A1_2 l1_2.length c1_2] 112 (0,0)) (bs BK441) hb);have n2_:=Aside0.mk (below_step (hs2 HB GE440 GE441) hb);clear BK440;clear BK441;clear HB;have BK440:=n0_;have BK441:=n1_;have HB:=n2_;clear n0_ n1_ n2_;(try clear hb);(try clear hb2);(try clear hk);(try clear hi)))
  go_ret
  exact ⟨by first | rfl | (simp [errW_none,errW_some] <;> rfl) | (simp [*,errW_none,errW_some] <;> rfl),hs2 HB GE440 GE441⟩
 rw [if_neg c9] at H;have c9b0 : (a0_1 == a1_1) = false:=beq_eq_false_iff_ne.mpr c9;have c9b1 : (a0_1 != a1_1) = true:=bne_iff_ne.mpr c9;obtain rfl:=Option.some.inj H
 go_enter Try.func103,Try.ntmps103
 go_wp2_with (first | ((with_reducible refine gate_dst (N:=2) rfl ?_);refine box_event ?hg (N:=2) ?hd (cs:=#[.bool a0_0,.int .i64 a0_1,.slice A0_2 l0_2.length c0_2]) (t:=112) ?hr ?_;(case hd=>rfl);(case hg=>rfl);(case hr=>first | (go_simp;done) | (go_simp;rfl));intro gb440 hg w24 hbox hb;have n0_:=Aside0.mk (below_step (hs HB) hb);have n1_:=Aside0.mk (hbox);have n2_:=Aside0.mk ((by rw [hg];exact (below_size (hs HB)) : w.heap.size ≤ gb440));have n3_:=Aside0.mk ((by rw [hg];exact (below_size (hs HB)) : w.heap.size ≤ gb440));clear HB;have HB:=n0_;have BK440:=n1_;have GW440:=n2_;have GE440:=n3_;clear n0_ n1_ n2_ n3_;clear hb hbox hg) | ((with_reducible refine gate_dst (N:=3) rfl ?_);refine box_event ?hg (N:=3) ?hd (cs:=#[.bool a1_0,.int .i64 a1_1,.slice A1_2 l1_2.length c1_2]) (t:=112) ?hr ?_;(case hd=>rfl);(case hg=>rfl);(case hr=>first | (go_simp;done) | (go_simp;rfl));intro gb441 hg w25 hbox hb;have n0_:=Aside0.mk (blk_below (g:=gb440) (o:=.cells #[.bool a0_0,.int .i64 a0_1,.slice A0_2 l0_2.length c0_2] 112 (0,0)) (bs BK440) hb);have n1_:=Aside0.mk (below_step (hs1 HB GE440) hb);have n2_:=Aside0.mk (hbox);have n3_:=Aside0.mk ((by rw [hg];exact (below_size (hs1 HB GE440)) : w.heap.size ≤ gb441));have n4_:=Aside0.mk ((by rw [hg];exact (below_size (hs1 HB GE440)) : w.heap.size ≤ gb441));have n5_:=Aside0.mk ((by rw [hg];exact Nat.ne_of_lt (blk_lt (g:=gb440) (o:=.cells #[.bool a0_0,.int .i64 a0_1,.slice A0_2 l0_2.length c0_2] 112 (0,0)) (bs BK440)) : gb440 ≠ gb441));have n6_:=Aside0.mk ((by rw [hg];exact Nat.ne_of_gt (blk_lt (g:=gb440) (o:=.cells #[.bool a0_0,.int .i64 a0_1,.slice A0_2 l0_2.length c0_2] 112 (0,0)) (bs BK440)) : gb441 ≠ gb440));clear BK440;clear HB;have BK440:=n0_;have HB:=n1_;have BK441:=n2_;have GW441:=n3_;have GE441:=n4_;have NB440_441:=n5_;have NB441_440:=n6_;clear n0_ n1_ n2_ n3_ n4_ n5_ n6_;clear hb hbox hg;have hnb26:=NB440_441.out;have hnc26:=NB441_440.out;have hcz27_0 : w25.cell? ⟨gb440,0,none⟩ = some (.bool a0_0):=(blk_cell BK440.out 0).trans rfl;have hcz27_1 : w25.cell? ⟨gb440,1,none⟩ = some (.int .i64 a0_1):=(blk_cell BK440.out 1).trans rfl;have hcz27_2 : w25.cell? ⟨gb440,2,none⟩ = some (.slice A0_2 l0_2.length c0_2):=(blk_cell BK440.out 2).trans rfl;have hfz27_0:=blk_frozen BK440.out 0;have hfz27_1:=blk_frozen BK440.out 1;have hfz27_2:=blk_frozen BK440.out 2;have hcz28_0 : w25.cell? ⟨gb441,0,none⟩ = some (.bool a1_0):=(blk_cell BK441.out 0).trans rfl;have hcz28_1 : w25.cell? ⟨gb441,1,none⟩ = some (.int .i64 a1_1):=(blk_cell BK441.out 1).trans rfl;have hcz28_2 : w25.cell? ⟨gb441,2,none⟩ = some (.slice A1_2 l1_2.length c1_2):=(blk_cell BK441.out 2).trans rfl;have hfz28_0:=blk_frozen BK441.out 0;have hfz28_1:=blk_frozen BK441.out 1;have hfz28_2:=blk_frozen BK441.out 2))
 go_ret
 exact ⟨by first | rfl | (simp [errW_none,errW_some] <;> rfl) | (simp [*,errW_none,errW_some] <;> rfl),hs2 HB GE440 GE441⟩
end Go.Proofs.Ytijbejiajaiciaa.PC

namespace Go.Proofs.Ytijbejiajaiciaa.PC
open Go.RowKit Go.Proofs.YtijbejiajaiciaaW.PrintWords Go.Proofs.YtijbejiajaiciaaW.PrintLast Go.Proofs.YtijbejiajaiciaaW.PrintMore
attribute [local go_sem] max2_int min2_int max_two min_two max_three min_three max_four min_four   -- for this text's walks alone
set_option linter.unusedVariables false
set_option linter.unusedSimpArgs false
def laws_eqBlockS.l0 : Nat → List (S112) → List (S112) → Int → Option (Bool)
 | 0,_,_,_=>none
 | k + 1,x0,x1,x5=>if x5 < (x0.length : Int) then (if 0 ≤ x5 then (if x5 < (x1.length : Int) then ((laws_eqBlock.f k ((rd_T112 x0 x5).f0) ((rd_T112 x0 x5).f1) ((rd_T112 x0 x5).f2) ((rd_T112 x1 x5).f0) ((rd_T112 x1 x5).f1) ((rd_T112 x1 x5).f2)).bind fun t445=>(if t445 = true then (laws_eqBlockS.l0 k x0 x1 (wrap64 (x5 + 1))) else (some false))) else (none)) else (none)) else (some true)
def laws_eqBlockS.f (k : Nat) (l0 : List (S112)) (l1 : List (S112)) : Option (Bool):=if (l0.length : Int) = (l1.length : Int) then (laws_eqBlockS.l0 k l0 l1 0) else (some false)
theorem laws_eqBlockS.mono_l : ∀ k,(∀ y0 y1 y2,LeO (laws_eqBlockS.l0 k y0 y1 y2) (laws_eqBlockS.l0 (k + 1) y0 y1 y2))
 | 0=>fun _ _ _ r h=>by simp [laws_eqBlockS.l0] at h
 | k + 1=>by
  have ih0:=laws_eqBlockS.mono_l k;intro y0 y1 y2;unfold laws_eqBlockS.l0
  repeat' first
  | (with_reducible exact ih0 _ _ _)
  | (with_reducible exact laws_eqBlock.mono _ _ _ _ _ _ _)
  | (with_reducible exact LeO.refl _)
  | (with_reducible exact LeO.none _)
  | (with_reducible refine LeO.ite ?_ ?_)
  | (with_reducible refine LeO.bind ?_ (fun _=>?_))
  | exact ih0 _ _ _
  | exact laws_eqBlock.mono _ _ _ _ _ _ _
  | exact LeO.none _
  | refine LeO.ite ?_ ?_
  | refine LeO.bind ?_ (fun _=>?_)
theorem laws_eqBlockS.mono : ∀ a0 a1 k,LeO (laws_eqBlockS.f k a0 a1) (laws_eqBlockS.f (k + 1) a0 a1):=by
 intro a0 a1 k;have ih0:=laws_eqBlockS.mono_l k;unfold laws_eqBlockS.f
 repeat' first
   | (with_reducible exact ih0 _ _ _)
   | (with_reducible exact laws_eqBlock.mono _ _ _ _ _ _ _)
   | (with_reducible exact LeO.refl _)
   | (with_reducible exact LeO.none _)
   | (with_reducible refine LeO.ite ?_ ?_)
   | (with_reducible refine LeO.bind ?_ (fun _=>?_))
   | exact ih0 _ _ _
   | exact laws_eqBlock.mono _ _ _ _ _ _ _
   | exact LeO.none _
   | refine LeO.ite ?_ ?_
   | refine LeO.bind ?_ (fun _=>?_)
def laws_eqBlockS.T6 : Bool × List (List Nat × List Nat):=(true,[([],[]),([],[]),([0,1],[0,1]),([2],[2]),([],[]),([],[]),([4,5],[4,5]),([6],[6]),([3,7],[3,7]),([8],[8])])
def laws_eqBlockS.B6 : List Nat:=[0,0,3,7,0,0,48,112,255,511]
theorem laws_eqBlockS.tab6 : rtab .any (opsOf Try.f72 6) = laws_eqBlockS.T6:=by kernel_rfl
theorem laws_eqBlockS.bits6 : waitsOk laws_eqBlockS.T6.2 laws_eqBlockS.B6 = true:=by kernel_rfl
set_option maxHeartbeats 8000000 in
set_option maxRecDepth 100000 in
theorem laws_eqBlockS.calls (k : Nat) (A0 : Option Addr) (c0 : Nat) (l0 : List (S112)) (A1 : Option Addr) (c1 : Nat) (l1 : List (S112)) (r : Bool) (w : World) (hr0 : Kd.C k112 w A0 l0.length l0) (hc0 : l0.length ≤ c0) (hr1 : Kd.C k112 w A1 l1.length l1) (hc1 : l1.length ≤ c1) (h : laws_eqBlockS.f k l0 l1 = some r) :
  Calls Try.prog 72 #[.slice A0 l0.length c0,.slice A1 l1.length c1] w fun e w'=>e = .returned (.bool r) ∧ Below w.heap.size w w':=by
 have hu112:=Try.underlying112;have HR0:=Aside0.mk hr0;have HC0:=Aside0.mk hc0;clear hr0 hc0;have HR1:=Aside0.mk hr1;have HC1:=Aside0.mk hc1;clear hr1 hc1;have HB:=Aside0.mk (Below.refl w.heap.size w);have H : (if (l0.length : Int) = (l1.length : Int) then (laws_eqBlockS.l0 k l0 l1 0) else (some false)) = some r:=h;clear h
 by_cases c3 : (l0.length : Int) = (l1.length : Int)
 ·rw [if_pos c3] at H;have c3b0 : ((l0.length : Int) == (l1.length : Int)) = true:=beq_iff_eq.mpr c3;have c3b1 : ((l0.length : Int) != (l1.length : Int)) = false:=bne_eq_false_iff_eq.mpr c3;have c3b2 : (l0.length == l1.length) = true:=by first | simpa using c3 | (simp at c3 ⊢;omega)
  clear c3;have H':=Aside0.mk H;clear H
  go_enter Try.func72,Try.ntmps72
  go_wp2
  go_loopg [5] k (fun kq v5 w'=>∃ (x5_1 : Int),v5 = .int .i64 x5_1 ∧ Aside0 (laws_eqBlockS.l0 kq l0 l1 x5_1 = some r) ∧ Aside0 (kq ≤ k) ∧ Aside0 (Below w.heap.size w w'));case atStart=>exact ⟨(0),(by first | rfl | (simp;done) | (simp [*];done)),H',⟨Nat.le_refl _⟩,⟨hs HB⟩⟩
  case round =>
   clear H'
   try clear c1
   try clear p2
   try clear c3
   try clear c3b0
   try clear c3b1
   try clear c3b2
   obtain ⟨x5_1,rfl,HA,HK1,HB⟩:=hrel;cases gk with
   | zero=>exact absurd HA.out (by simp [laws_eqBlockS.l0])
   | succ k1 =>
    have H:=HA.out;clear HA;simp only [laws_eqBlockS.l0] at H
    by_cases c4 : x5_1 < (l0.length : Int)
    ·rw [if_pos c4] at H;have c4b0 : decide (x5_1 < (l0.length : Int)) = true:=decide_eq_true c4;clear c4
     by_cases c5 : 0 ≤ x5_1
     ·rw [if_pos c5] at H;have c5b0 : decide (0 ≤ x5_1) = true:=decide_eq_true c5;clear c5
      by_cases c6 : x5_1 < (l1.length : Int)
      ·rw [if_pos c6] at H;have c6b0 : decide (x5_1 < (l1.length : Int)) = true:=decide_eq_true c6;clear c6;replace H:=Option.bind_eq_some_iff.mp H;obtain ⟨t445,A70,H⟩:=H;replace H : (if t445 = true then (laws_eqBlockS.l0 k1 l0 l1 (wrap64 (x5_1 + 1))) else (some false)) = some r:=H;have A7:=Aside0.mk A70;clear A70
       by_cases c8 : t445 = true
       ·subst c8;have H1 : (laws_eqBlockS.l0 k1 l0 l1 (wrap64 (x5_1 + 1))) = some r:=by rw [if_pos rfl] at H;exact H
        clear H;have H:=H1;clear H1;have H':=Aside0.mk H;clear H
        try go_wp2
        have n0_:=Aside0.mk (below_drew1 HB.out);clear HB;have HB:=n0_;clear n0_;have p443 : 0 ≤ (x5_1 : Int):=of_decide_eq_true (by first | (with_reducible assumption) | assumption);have q443 : x5_1 < (l0.length : Int):=of_decide_eq_true (by first | (with_reducible assumption) | assumption);obtain ⟨ad443,A443_2,c443_2,e443,hx443_0,hx443_1,hx443_2,hl443_2,hi443_2⟩:=at_T112 HR0.out x5_1 p443 q443;have hw443_2:=hx443_2;have hw443_1:=hx443_1;have hw443_0:=hx443_0;cases e443;replace hx443_0:=(HB.out.cell (World.block_lt_of_cell? w _ hx443_0)).trans hx443_0;replace hx443_1:=(HB.out.cell (World.block_lt_of_cell? w _ hx443_1)).trans hx443_1;replace hx443_2:=(HB.out.cell (World.block_lt_of_cell? w _ hx443_2)).trans hx443_2;have HR443_2:=Aside0.mk hi443_2;have HC443_2:=Aside0.mk hl443_2;clear hi443_2 hl443_2;replace p443:=eq_true p443;replace q443:=eq_true q443;have p444 : 0 ≤ (x5_1 : Int):=of_decide_eq_true (by first | (with_reducible assumption) | assumption);have q444 : x5_1 < (l1.length : Int):=of_decide_eq_true (by first | (with_reducible assumption) | assumption);obtain ⟨ad444,A444_2,c444_2,e444,hx444_0,hx444_1,hx444_2,hl444_2,hi444_2⟩:=at_T112 HR1.out x5_1 p444 q444;have hw444_2:=hx444_2;have hw444_1:=hx444_1;have hw444_0:=hx444_0;cases e444;replace hx444_0:=(HB.out.cell (World.block_lt_of_cell? w _ hx444_0)).trans hx444_0;replace hx444_1:=(HB.out.cell (World.block_lt_of_cell? w _ hx444_1)).trans hx444_1;replace hx444_2:=(HB.out.cell (World.block_lt_of_cell? w _ hx444_2)).trans hx444_2;have HR444_2:=Aside0.mk hi444_2;have HC444_2:=Aside0.mk hl444_2;clear hi444_2 hl444_2;replace p444:=eq_true p444;replace q444:=eq_true q444;refine start_ (n:=10) (S:=fun w'=>w'.cell? (ad443.add ((x5_1).toNat * 3)) = some (.bool ((rd_T112 l0 x5_1).f0)) ∧ w'.cell? ⟨(ad443.add ((x5_1).toNat * 3)).block,(ad443.add ((x5_1).toNat * 3)).off + 1,none⟩ = some (.int .i64 ((rd_T112 l0 x5_1).f1)) ∧ w'.cell? ⟨(ad443.add ((x5_1).toNat * 3)).block,(ad443.add ((x5_1).toNat * 3)).off + 2,none⟩ = some (.slice A443_2 ((rd_T112 l0 x5_1).f2).length c443_2) ∧ w'.cell? (ad444.add ((x5_1).toNat * 3)) = some (.bool ((rd_T112 l1 x5_1).f0)) ∧ w'.cell? ⟨(ad444.add ((x5_1).toNat * 3)).block,(ad444.add ((x5_1).toNat * 3)).off + 1,none⟩ = some (.int .i64 ((rd_T112 l1 x5_1).f1)) ∧ w'.cell? ⟨(ad444.add ((x5_1).toNat * 3)).block,(ad444.add ((x5_1).toNat * 3)).off + 2,none⟩ = some (.slice A444_2 ((rd_T112 l1 x5_1).f2).length c444_2)) (ds:=[]) #[false,false,false,false,false,false,false,false,false,false] (by kernel_rfl) rfl rfl ⟨((HB.out.cell (World.block_lt_of_cell? w _ hw443_0)).trans hw443_0),((HB.out.cell (World.block_lt_of_cell? w _ hw443_1)).trans hw443_1),((HB.out.cell (World.block_lt_of_cell? w _ hw443_2)).trans hw443_2),((HB.out.cell (World.block_lt_of_cell? w _ hw444_0)).trans hw444_0),((HB.out.cell (World.block_lt_of_cell? w _ hw444_1)).trans hw444_1),((HB.out.cell (World.block_lt_of_cell? w _ hw444_2)).trans hw444_2)⟩ (fun hHeld=>?_);refine with_tabW laws_eqBlockS.tab6 laws_eqBlockS.bits6 (fun HT_ HW_=>?_);generalize wr.drew = w9 at HB HR443_2 HR444_2 hx443_0 hx443_1 hx443_2 hx444_0 hx444_1 hx444_2 hHeld ⊢;refine pure_ (i:=0) (N:=some 17) (v:=?_) (a':=?_) #[true,false,false,false,false,false,false,false,false,false] rfl rfl (any_of HT_.out (by kernel_rfl)) (fun _ _ _ h=>h) (Or.inl ⟨by rfl,?_⟩) ?_ ?_;rotate_left
        ·intro w';go_simp;with_reducible rfl
        rotate_left
        ·simp only [Act.put,List.setIfInBounds_toArray,List.set_cons_zero,List.set_cons_succ,i64_w,i32_w];rfl
        refine pure_ (i:=1) (N:=some 18) (v:=?_) (a':=?_) #[true,true,false,false,false,false,false,false,false,false] rfl rfl (any_of HT_.out (by kernel_rfl)) (fun _ _ _ h=>h) (Or.inl ⟨by rfl,?_⟩) ?_ ?_;rotate_left
        ·intro w';go_simp;with_reducible rfl
        rotate_left
        ·simp only [Act.put,List.setIfInBounds_toArray,List.set_cons_zero,List.set_cons_succ,i64_w,i32_w];rfl
        refine pure_ (i:=2) (N:=some 19) (v:=?_) (a':=?_) #[true,true,true,false,false,false,false,false,false,false] rfl rfl (any_of HT_.out (by kernel_rfl)) (fun _ _ _ h=>h) (Or.inl ⟨by rfl,?_⟩) ?_ ?_;rotate_left
        ·intro w';go_simp;with_reducible rfl
        rotate_left
        ·simp only [Act.put,List.setIfInBounds_toArray,List.set_cons_zero,List.set_cons_succ,i64_w,i32_w];rfl
        refine pure_ (i:=4) (N:=some 21) (v:=?_) (a':=?_) #[true,true,true,false,true,false,false,false,false,false] rfl rfl (any_of HT_.out (by kernel_rfl)) (fun _ _ _ h=>h) (Or.inl ⟨by rfl,?_⟩) ?_ ?_;rotate_left
        ·intro w';go_simp;with_reducible rfl
        rotate_left
        ·simp only [Act.put,List.setIfInBounds_toArray,List.set_cons_zero,List.set_cons_succ,i64_w,i32_w];rfl
        refine pure_ (i:=5) (N:=some 22) (v:=?_) (a':=?_) #[true,true,true,false,true,true,false,false,false,false] rfl rfl (any_of HT_.out (by kernel_rfl)) (fun _ _ _ h=>h) (Or.inl ⟨by rfl,?_⟩) ?_ ?_;rotate_left
        ·intro w';go_simp;with_reducible rfl
        rotate_left
        ·simp only [Act.put,List.setIfInBounds_toArray,List.set_cons_zero,List.set_cons_succ,i64_w,i32_w];rfl
        refine pure_ (i:=6) (N:=some 23) (v:=?_) (a':=?_) #[true,true,true,false,true,true,true,false,false,false] rfl rfl (any_of HT_.out (by kernel_rfl)) (fun _ _ _ h=>h) (Or.inl ⟨by rfl,?_⟩) ?_ ?_;rotate_left
        ·intro w';go_simp;with_reducible rfl
        rotate_left
        ·simp only [Act.put,List.setIfInBounds_toArray,List.set_cons_zero,List.set_cons_succ,i64_w,i32_w];rfl
        refine take_ (i:=3) (N:=some 20) (v:=?_) (a':=?_) #[true,true,true,true,true,true,true,false,false,false] rfl rfl (take_ofW HT_.out HW_.out (by kernel_rfl)) (fun _ _ _ h=>h) (Or.inl ⟨by rfl,?_⟩) hHeld ?_ ?_;rotate_left
        ·rintro w' ⟨s0,s1,s2,s3,s4,s5⟩;go_simp;with_reducible rfl
        rotate_left
        ·simp only [Act.put,List.setIfInBounds_toArray,List.set_cons_zero,List.set_cons_succ,i64_w,i32_w];rfl
        refine take_ (i:=7) (N:=some 24) (v:=?_) (a':=?_) #[true,true,true,true,true,true,true,true,false,false] rfl rfl (take_ofW HT_.out HW_.out (by kernel_rfl)) (fun _ _ _ h=>h) (Or.inl ⟨by rfl,?_⟩) hHeld ?_ ?_;rotate_left
        ·rintro w' ⟨s0,s1,s2,s3,s4,s5⟩;go_simp;with_reducible rfl
        rotate_left
        ·simp only [Act.put,List.setIfInBounds_toArray,List.set_cons_zero,List.set_cons_succ,i64_w,i32_w];rfl
        refine one_ (i:=8) (N:=some 25) #[true,true,true,true,true,true,true,true,true,false] rfl rfl (one_of HT_.out (by kernel_rfl)) (by decide) (fun K hK=>?_);refine goes_ Try.func103 (by kernel_rfl) rfl #[.agg #[.bool ((rd_T112 l0 x5_1).f0),.int .i64 ((rd_T112 l0 x5_1).f1),.slice A443_2 ((rd_T112 l0 x5_1).f2).length c443_2],.agg #[.bool ((rd_T112 l1 x5_1).f0),.int .i64 ((rd_T112 l1 x5_1).f1),.slice A444_2 ((rd_T112 l1 x5_1).f2).length c444_2]] (by rfl) rfl rfl (by (try simp only [List.map_toArray,List.map_cons,List.map_nil]);first | done | rfl | (simp only [List.length_drop,List.length_take];rfl)) ?_;with_reducible refine (laws_eqBlock.calls k1 ((rd_T112 l0 x5_1).f0) ((rd_T112 l0 x5_1).f1) _ _ ((rd_T112 l0 x5_1).f2) ((rd_T112 l1 x5_1).f0) ((rd_T112 l1 x5_1).f1) _ _ ((rd_T112 l1 x5_1).f2) true _ ?side1 ?side2 ?side3 ?side4 A7.out).mono ?_
        (case side1=>repeat (first | exact (Kd.C_below HR443_2.out HB.out) | (with_reducible refine Kd.C_alloc ?_ _) | (with_reducible refine Kd.C_drewN ?_ _) | (with_reducible refine Kd.C_drew ?_)))
        (case side2=>exact HC443_2.out)
        (case side3=>repeat (first | exact (Kd.C_below HR444_2.out HB.out) | (with_reducible refine Kd.C_alloc ?_ _) | (with_reducible refine Kd.C_drewN ?_ _) | (with_reducible refine Kd.C_drew ?_)))
        (case side4=>exact HC444_2.out)
        rintro e w10 ⟨rfl,hb⟩;refine ⟨_,rfl,?_⟩;have n0_:=Aside0.mk (below_step (hs HB) hb);clear HB;have HB:=n0_;clear n0_
        (try clear hb)
        (try clear hb2)
        (try clear hk)
        (try clear hi)
        refine hK.out _ _ ⟨((HB.out.cell (World.block_lt_of_cell? w _ hw443_0)).trans hw443_0),((HB.out.cell (World.block_lt_of_cell? w _ hw443_1)).trans hw443_1),((HB.out.cell (World.block_lt_of_cell? w _ hw443_2)).trans hw443_2),((HB.out.cell (World.block_lt_of_cell? w _ hw444_0)).trans hw444_0),((HB.out.cell (World.block_lt_of_cell? w _ hw444_1)).trans hw444_1),((HB.out.cell (World.block_lt_of_cell? w _ hw444_2)).trans hw444_2)⟩ (fun hHeld=>?_);clear hK K;refine norm_ (a':=?_) ?_ ?_;rotate_left
        ·show Act.put _ (some 25) _ = _;simp only [Act.put,List.setIfInBounds_toArray,List.set_cons_zero,List.set_cons_succ,i64_w,i32_w];rfl
        refine pure_ (i:=9) (N:=some 26) (v:=?_) (a':=?_) #[true,true,true,true,true,true,true,true,true,true] rfl rfl (any_of HT_.out (by kernel_rfl)) (fun _ _ _ h=>h) (Or.inl ⟨by rfl,?_⟩) ?_ ?_;rotate_left
        ·intro w';go_simp;with_reducible rfl
        rotate_left
        ·simp only [Act.put,List.setIfInBounds_toArray,List.set_cons_zero,List.set_cons_succ,i64_w,i32_w];rfl
        refine done_ (done_of HT_.out (by kernel_rfl)) ?_
        try go_wp2
        go_roundg k1;case measure=>have:=HK1.out;omega
        case rel=>exact ⟨(wrap64 (x5_1 + 1)),(by first | rfl | (simp;done) | (simp [*];done)),H',⟨by have:=HK1.out;omega⟩,⟨hs HB⟩⟩
       replace c8:=Bool.eq_false_iff.mpr c8;subst c8;have H1 : (some false) = some r:=by rw [if_neg (show ¬ (false = true) by decide)] at H;exact H
       clear H;have H:=H1;clear H1;obtain rfl:=Option.some.inj H
       try go_wp2
       have n0_:=Aside0.mk (below_drew1 HB.out);clear HB;have HB:=n0_;clear n0_;have p443 : 0 ≤ (x5_1 : Int):=of_decide_eq_true (by first | (with_reducible assumption) | assumption);have q443 : x5_1 < (l0.length : Int):=of_decide_eq_true (by first | (with_reducible assumption) | assumption);obtain ⟨ad443,A443_2,c443_2,e443,hx443_0,hx443_1,hx443_2,hl443_2,hi443_2⟩:=at_T112 HR0.out x5_1 p443 q443;have hw443_2:=hx443_2;have hw443_1:=hx443_1;have hw443_0:=hx443_0;cases e443;replace hx443_0:=(HB.out.cell (World.block_lt_of_cell? w _ hx443_0)).trans hx443_0;replace hx443_1:=(HB.out.cell (World.block_lt_of_cell? w _ hx443_1)).trans hx443_1;replace hx443_2:=(HB.out.cell (World.block_lt_of_cell? w _ hx443_2)).trans hx443_2;have HR443_2:=Aside0.mk hi443_2;have HC443_2:=Aside0.mk hl443_2;clear hi443_2 hl443_2;replace p443:=eq_true p443;replace q443:=eq_true q443;have p444 : 0 ≤ (x5_1 : Int):=of_decide_eq_true (by first | (with_reducible assumption) | assumption);have q444 : x5_1 < (l1.length : Int):=of_decide_eq_true (by first | (with_reducible assumption) | assumption);obtain ⟨ad444,A444_2,c444_2,e444,hx444_0,hx444_1,hx444_2,hl444_2,hi444_2⟩:=at_T112 HR1.out x5_1 p444 q444;have hw444_2:=hx444_2;have hw444_1:=hx444_1;have hw444_0:=hx444_0;cases e444;replace hx444_0:=(HB.out.cell (World.block_lt_of_cell? w _ hx444_0)).trans hx444_0;replace hx444_1:=(HB.out.cell (World.block_lt_of_cell? w _ hx444_1)).trans hx444_1;replace hx444_2:=(HB.out.cell (World.block_lt_of_cell? w _ hx444_2)).trans hx444_2;have HR444_2:=Aside0.mk hi444_2;have HC444_2:=Aside0.mk hl444_2;clear hi444_2 hl444_2;replace p444:=eq_true p444;replace q444:=eq_true q444;refine start_ (n:=10) (S:=fun w'=>w'.cell? (ad443.add ((x5_1).toNat * 3)) = some (.bool ((rd_T112 l0 x5_1).f0)) ∧ w'.cell? ⟨(ad443.add ((x5_1).toNat * 3)).block,(ad443.add ((x5_1).toNat * 3)).off + 1,none⟩ = some (.int .i64 ((rd_T112 l0 x5_1).f1)) ∧ w'.cell? ⟨(ad443.add ((x5_1).toNat * 3)).block,(ad443.add ((x5_1).toNat * 3)).off + 2,none⟩ = some (.slice A443_2 ((rd_T112 l0 x5_1).f2).length c443_2) ∧ w'.cell? (ad444.add ((x5_1).toNat * 3)) = some (.bool ((rd_T112 l1 x5_1).f0)) ∧ w'.cell? ⟨(ad444.add ((x5_1).toNat * 3)).block,(ad444.add ((x5_1).toNat * 3)).off + 1,none⟩ = some (.int .i64 ((rd_T112 l1 x5_1).f1)) ∧ w'.cell? ⟨(ad444.add ((x5_1).toNat * 3)).block,(ad444.add ((x5_1).toNat * 3)).off + 2,none⟩ = some (.slice A444_2 ((rd_T112 l1 x5_1).f2).length c444_2)) (ds:=[]) #[false,false,false,false,false,false,false,false,false,false] (by kernel_rfl) rfl rfl ⟨((HB.out.cell (World.block_lt_of_cell? w _ hw443_0)).trans hw443_0),((HB.out.cell (World.block_lt_of_cell? w _ hw443_1)).trans hw443_1),((HB.out.cell (World.block_lt_of_cell? w _ hw443_2)).trans hw443_2),((HB.out.cell (World.block_lt_of_cell? w _ hw444_0)).trans hw444_0),((HB.out.cell (World.block_lt_of_cell? w _ hw444_1)).trans hw444_1),((HB.out.cell (World.block_lt_of_cell? w _ hw444_2)).trans hw444_2)⟩ (fun hHeld=>?_);refine with_tabW laws_eqBlockS.tab6 laws_eqBlockS.bits6 (fun HT_ HW_=>?_);generalize wr.drew = w11 at HB HR443_2 HR444_2 hx443_0 hx443_1 hx443_2 hx444_0 hx444_1 hx444_2 hHeld ⊢;refine pure_ (i:=0) (N:=some 17) (v:=?_) (a':=?_) #[true,false,false,false,false,false,false,false,false,false] rfl rfl (any_of HT_.out (by kernel_rfl)) (fun _ _ _ h=>h) (Or.inl ⟨by rfl,?_⟩) ?_ ?_;rotate_left
       ·intro w';go_simp;with_reducible rfl
       rotate_left
       ·simp only [Act.put,List.setIfInBounds_toArray,List.set_cons_zero,List.set_cons_succ,i64_w,i32_w];rfl
       refine pure_ (i:=1) (N:=some 18) (v:=?_) (a':=?_) #[true,true,false,false,false,false,false,false,false,false] rfl rfl (any_of HT_.out (by kernel_rfl)) (fun _ _ _ h=>h) (Or.inl ⟨by rfl,?_⟩) ?_ ?_;rotate_left
       ·intro w';go_simp;with_reducible rfl
       rotate_left
       ·simp only [Act.put,List.setIfInBounds_toArray,List.set_cons_zero,List.set_cons_succ,i64_w,i32_w];rfl
       refine pure_ (i:=2) (N:=some 19) (v:=?_) (a':=?_) #[true,true,true,false,false,false,false,false,false,false] rfl rfl (any_of HT_.out (by kernel_rfl)) (fun _ _ _ h=>h) (Or.inl ⟨by rfl,?_⟩) ?_ ?_;rotate_left
       ·intro w';go_simp;with_reducible rfl
       rotate_left
       ·simp only [Act.put,List.setIfInBounds_toArray,List.set_cons_zero,List.set_cons_succ,i64_w,i32_w];rfl
       refine pure_ (i:=4) (N:=some 21) (v:=?_) (a':=?_) #[true,true,true,false,true,false,false,false,false,false] rfl rfl (any_of HT_.out (by kernel_rfl)) (fun _ _ _ h=>h) (Or.inl ⟨by rfl,?_⟩) ?_ ?_;rotate_left
       ·intro w';go_simp;with_reducible rfl
       rotate_left
       ·simp only [Act.put,List.setIfInBounds_toArray,List.set_cons_zero,List.set_cons_succ,i64_w,i32_w];rfl
       refine pure_ (i:=5) (N:=some 22) (v:=?_) (a':=?_) #[true,true,true,false,true,true,false,false,false,false] rfl rfl (any_of HT_.out (by kernel_rfl)) (fun _ _ _ h=>h) (Or.inl ⟨by rfl,?_⟩) ?_ ?_;rotate_left
       ·intro w';go_simp;with_reducible rfl
       rotate_left
       ·simp only [Act.put,List.setIfInBounds_toArray,List.set_cons_zero,List.set_cons_succ,i64_w,i32_w];rfl
       refine pure_ (i:=6) (N:=some 23) (v:=?_) (a':=?_) #[true,true,true,false,true,true,true,false,false,false] rfl rfl (any_of HT_.out (by kernel_rfl)) (fun _ _ _ h=>h) (Or.inl ⟨by rfl,?_⟩) ?_ ?_;rotate_left
       ·intro w';go_simp;with_reducible rfl
       rotate_left
       ·simp only [Act.put,List.setIfInBounds_toArray,List.set_cons_zero,List.set_cons_succ,i64_w,i32_w];rfl
       refine take_ (i:=3) (N:=some 20) (v:=?_) (a':=?_) #[true,true,true,true,true,true,true,false,false,false] rfl rfl (take_ofW HT_.out HW_.out (by kernel_rfl)) (fun _ _ _ h=>h) (Or.inl ⟨by rfl,?_⟩) hHeld ?_ ?_;rotate_left
       ·rintro w' ⟨s0,s1,s2,s3,s4,s5⟩;go_simp;with_reducible rfl
       rotate_left
       ·simp only [Act.put,List.setIfInBounds_toArray,List.set_cons_zero,List.set_cons_succ,i64_w,i32_w];rfl
       refine take_ (i:=7) (N:=some 24) (v:=?_) (a':=?_) #[true,true,true,true,true,true,true,true,false,false] rfl rfl (take_ofW HT_.out HW_.out (by kernel_rfl)) (fun _ _ _ h=>h) (Or.inl ⟨by rfl,?_⟩) hHeld ?_ ?_;rotate_left
       ·rintro w' ⟨s0,s1,s2,s3,s4,s5⟩;go_simp;with_reducible rfl
       rotate_left
       ·simp only [Act.put,List.setIfInBounds_toArray,List.set_cons_zero,List.set_cons_succ,i64_w,i32_w];rfl
       refine one_ (i:=8) (N:=some 25) #[true,true,true,true,true,true,true,true,true,false] rfl rfl (one_of HT_.out (by kernel_rfl)) (by decide) (fun K hK=>?_);refine goes_ Try.func103 (by kernel_rfl) rfl #[.agg #[.bool ((rd_T112 l0 x5_1).f0),.int .i64 ((rd_T112 l0 x5_1).f1),.slice A443_2 ((rd_T112 l0 x5_1).f2).length c443_2],.agg #[.bool ((rd_T112 l1 x5_1).f0),.int .i64 ((rd_T112 l1 x5_1).f1),.slice A444_2 ((rd_T112 l1 x5_1).f2).length c444_2]] (by rfl) rfl rfl (by (try simp only [List.map_toArray,List.map_cons,List.map_nil]);first | done | rfl | (simp only [List.length_drop,List.length_take];rfl)) ?_;with_reducible refine (laws_eqBlock.calls k1 ((rd_T112 l0 x5_1).f0) ((rd_T112 l0 x5_1).f1) _ _ ((rd_T112 l0 x5_1).f2) ((rd_T112 l1 x5_1).f0) ((rd_T112 l1 x5_1).f1) _ _ ((rd_T112 l1 x5_1).f2) false _ ?side1 ?side2 ?side3 ?side4 A7.out).mono ?_
       (case side1=>repeat (first | exact (Kd.C_below HR443_2.out HB.out) | (with_reducible refine Kd.C_alloc ?_ _) | (with_reducible refine Kd.C_drewN ?_ _) | (with_reducible refine Kd.C_drew ?_)))
       (case side2=>exact HC443_2.out)
       (case side3=>repeat (first | exact (Kd.C_below HR444_2.out HB.out) | (with_reducible refine Kd.C_alloc ?_ _) | (with_reducible refine Kd.C_drewN ?_ _) | (with_reducible refine Kd.C_drew ?_)))
       (case side4=>exact HC444_2.out)
       rintro e w12 ⟨rfl,hb⟩;refine ⟨_,rfl,?_⟩;have n0_:=Aside0.mk (below_step (hs HB) hb);clear HB;have HB:=n0_;clear n0_
       (try clear hb)
       (try clear hb2)
       (try clear hk)
       (try clear hi)
       refine hK.out _ _ ⟨((HB.out.cell (World.block_lt_of_cell? w _ hw443_0)).trans hw443_0),((HB.out.cell (World.block_lt_of_cell? w _ hw443_1)).trans hw443_1),((HB.out.cell (World.block_lt_of_cell? w _ hw443_2)).trans hw443_2),((HB.out.cell (World.block_lt_of_cell? w _ hw444_0)).trans hw444_0),((HB.out.cell (World.block_lt_of_cell? w _ hw444_1)).trans hw444_1),((HB.out.cell (World.block_lt_of_cell? w _ hw444_2)).trans hw444_2)⟩ (fun hHeld=>?_);clear hK K;refine norm_ (a':=?_) ?_ ?_;rotate_left
       ·show Act.put _ (some 25) _ = _;simp only [Act.put,List.setIfInBounds_toArray,List.set_cons_zero,List.set_cons_succ,i64_w,i32_w];rfl
       refine pure_ (i:=9) (N:=some 26) (v:=?_) (a':=?_) #[true,true,true,true,true,true,true,true,true,true] rfl rfl (any_of HT_.out (by kernel_rfl)) (fun _ _ _ h=>h) (Or.inl ⟨by rfl,?_⟩) ?_ ?_;rotate_left
       ·intro w';go_simp;with_reducible rfl
       rotate_left
       ·simp only [Act.put,List.setIfInBounds_toArray,List.set_cons_zero,List.set_cons_succ,i64_w,i32_w];rfl
       refine done_ (done_of HT_.out (by kernel_rfl)) ?_
       try go_wp2
       go_ret
       exact ⟨by first | rfl | (simp [errW_none,errW_some] <;> rfl) | (simp [*,errW_none,errW_some] <;> rfl),hs HB⟩
      rw [if_neg c6] at H;exact absurd H (by simp)
     rw [if_neg c5] at H;exact absurd H (by simp)
    rw [if_neg c4] at H;have c4b0 : decide (x5_1 < (l0.length : Int)) = false:=decide_eq_false c4;clear c4;obtain rfl:=Option.some.inj H
    go_wp2
    go_ret
    exact ⟨by first | rfl | (simp [errW_none,errW_some] <;> rfl) | (simp [*,errW_none,errW_some] <;> rfl),hs HB⟩
 rw [if_neg c3] at H;have c3b0 : ((l0.length : Int) == (l1.length : Int)) = false:=beq_eq_false_iff_ne.mpr c3;have c3b1 : ((l0.length : Int) != (l1.length : Int)) = true:=bne_iff_ne.mpr c3;have c3b2 : (l0.length == l1.length) = false:=by first | simpa using c3 | (simp at c3 ⊢;omega)
 obtain rfl:=Option.some.inj H
 go_enter Try.func72,Try.ntmps72
 go_wp2
 go_ret
 exact ⟨by first | rfl | (simp [errW_none,errW_some] <;> rfl) | (simp [*,errW_none,errW_some] <;> rfl),hs HB⟩
end Go.Proofs.Ytijbejiajaiciaa.PC

namespace Go.Proofs.Ytijbejiajaiciaa.PC
open Go.RowKit Go.Proofs.YtijbejiajaiciaaW.PrintWords Go.Proofs.YtijbejiajaiciaaW.PrintLast Go.Proofs.YtijbejiajaiciaaW.PrintMore
attribute [local go_sem] max2_int min2_int max_two min_two max_three min_three max_four min_four   -- for this text's walks alone
set_option linter.unusedVariables false
set_option linter.unusedSimpArgs false
def laws_eqFlash.f (k : Nat) (l0_0 : List (S112)) (l1_0 : List (S112)) : Option (Bool):=(laws_eqBlockS.f k l0_0 l1_0).bind fun t448=>(if t448 = true then (some true) else (some false))
theorem laws_eqFlash.mono : ∀ a0 a1 k,LeO (laws_eqFlash.f k a0 a1) (laws_eqFlash.f (k + 1) a0 a1):=by
 intro a0 a1 k;unfold laws_eqFlash.f
 repeat' first
   | (with_reducible exact laws_eqBlockS.mono _ _ _)
   | (with_reducible exact LeO.refl _)
   | (with_reducible exact LeO.none _)
   | (with_reducible refine LeO.ite ?_ ?_)
   | (with_reducible refine LeO.bind ?_ (fun _=>?_))
   | exact laws_eqBlockS.mono _ _ _
   | exact LeO.none _
   | refine LeO.ite ?_ ?_
   | refine LeO.bind ?_ (fun _=>?_)
set_option maxHeartbeats 8000000 in
set_option maxRecDepth 100000 in
theorem laws_eqFlash.calls (k : Nat) (A0_0 : Option Addr) (c0_0 : Nat) (l0_0 : List (S112)) (A1_0 : Option Addr) (c1_0 : Nat) (l1_0 : List (S112)) (r : Bool) (w : World) (hr0_0 : Kd.C k112 w A0_0 l0_0.length l0_0) (hc0_0 : l0_0.length ≤ c0_0) (hr1_0 : Kd.C k112 w A1_0 l1_0.length l1_0) (hc1_0 : l1_0.length ≤ c1_0) (h : laws_eqFlash.f k l0_0 l1_0 = some r) :
  Calls Try.prog 35 #[.agg #[.slice A0_0 l0_0.length c0_0],.agg #[.slice A1_0 l1_0.length c1_0]] w fun e w'=>e = .returned (.bool r) ∧ Below w.heap.size w w':=by
 have hu59:=Try.underlying59;have HR0_0:=Aside0.mk hr0_0;have HC0_0:=Aside0.mk hc0_0;clear hr0_0 hc0_0;have HR1_0:=Aside0.mk hr1_0;have HC1_0:=Aside0.mk hc1_0;clear hr1_0 hc1_0;have HB:=Aside0.mk (Below.refl w.heap.size w);have H : ((laws_eqBlockS.f k l0_0 l1_0).bind fun t448=>(if t448 = true then (some true) else (some false))) = some r:=h;clear h;replace H:=Option.bind_eq_some_iff.mp H;obtain ⟨t448,A30,H⟩:=H;replace H : (if t448 = true then (some true) else (some false)) = some r:=H;have A3:=Aside0.mk A30;clear A30
 by_cases c4 : t448 = true
 ·subst c4;have H1 : (some true) = some r:=by rw [if_pos rfl] at H;exact H
  clear H;have H:=H1;clear H1;obtain rfl:=Option.some.inj H
  go_enter Try.func35,Try.ntmps35
  go_wp2_with (first | ((with_reducible refine gate_dst (N:=2) rfl ?_);refine box_event ?hg (N:=2) ?hd (cs:=#[.slice A0_0 l0_0.length c0_0]) (t:=59) ?hr ?_;(case hd=>rfl);(case hg=>rfl);(case hr=>first | (go_simp;done) | (go_simp;rfl));intro gb446 hg w5 hbox hb;have n0_:=Aside0.mk (below_step (hs HB) hb);have n1_:=Aside0.mk (hbox);have n2_:=Aside0.mk ((by rw [hg];exact (below_size (hs HB)) : w.heap.size ≤ gb446));have n3_:=Aside0.mk ((by rw [hg];exact (below_size (hs HB)) : w.heap.size ≤ gb446));clear HB;have HB:=n0_;have BK446:=n1_;have GW446:=n2_;have GE446:=n3_;clear n0_ n1_ n2_ n3_;clear hb hbox hg) | ((with_reducible refine gate_dst (N:=3) rfl ?_);refine box_event ?hg (N:=3) ?hd (cs:=#[.slice A1_0 l1_0.length c1_0]) (t:=59) ?hr ?_;(case hd=>rfl);(case hg=>rfl);(case hr=>first | (go_simp;done) | (go_simp;rfl));intro gb447 hg w6 hbox hb;have n0_:=Aside0.mk (blk_below (g:=gb446) (o:=.cells #[.slice A0_0 l0_0.length c0_0] 59 (0,0)) (bs BK446) hb);have n1_:=Aside0.mk (below_step (hs1 HB GE446) hb);have n2_:=Aside0.mk (hbox);have n3_:=Aside0.mk ((by rw [hg];exact (below_size (hs1 HB GE446)) : w.heap.size ≤ gb447));have n4_:=Aside0.mk ((by rw [hg];exact (below_size (hs1 HB GE446)) : w.heap.size ≤ gb447));have n5_:=Aside0.mk ((by rw [hg];exact Nat.ne_of_lt (blk_lt (g:=gb446) (o:=.cells #[.slice A0_0 l0_0.length c0_0] 59 (0,0)) (bs BK446)) : gb446 ≠ gb447));have n6_:=Aside0.mk ((by rw [hg];exact Nat.ne_of_gt (blk_lt (g:=gb446) (o:=.cells #[.slice A0_0 l0_0.length c0_0] 59 (0,0)) (bs BK446)) : gb447 ≠ gb446));clear BK446;clear HB;have BK446:=n0_;have HB:=n1_;have BK447:=n2_;have GW447:=n3_;have GE447:=n4_;have NB446_447:=n5_;have NB447_446:=n6_;clear n0_ n1_ n2_ n3_ n4_ n5_ n6_;clear hb hbox hg;have hnb7:=NB446_447.out;have hnc7:=NB447_446.out;have hcz8_0 : w6.cell? ⟨gb446,0,none⟩ = some (.slice A0_0 l0_0.length c0_0):=(blk_cell BK446.out 0).trans rfl;have hfz8_0:=blk_frozen BK446.out 0;have hcz9_0 : w6.cell? ⟨gb447,0,none⟩ = some (.slice A1_0 l1_0.length c1_0):=(blk_cell BK447.out 0).trans rfl;have hfz9_0:=blk_frozen BK447.out 0) | ((with_reducible refine gate_callee (f:=72) rfl ?_);refine goesL_ (some 9) rfl rfl Try.func72 (by kernel_rfl) rfl #[.slice A0_0 l0_0.length c0_0,.slice A1_0 l1_0.length c1_0] rfl (by (try simp only [List.map_toArray,List.map_cons,List.map_nil]);first | done | rfl | (simp only [List.length_drop,List.length_take];rfl)) ?_;(with_reducible refine (laws_eqBlockS.calls k _ _ l0_0 _ _ l1_0 true _ ?side1 ?side2 ?side3 ?side4 A3.out).mono ?_);(case side1=>repeat (first | exact (Kd.C_below HR0_0.out HB.out) | (with_reducible refine Kd.C_alloc ?_ _) | (with_reducible refine Kd.C_drewN ?_ _) | (with_reducible refine Kd.C_drew ?_)));(case side2=>exact HC0_0.out);(case side3=>repeat (first | exact (Kd.C_below HR1_0.out HB.out) | (with_reducible refine Kd.C_alloc ?_ _) | (with_reducible refine Kd.C_drewN ?_ _) | (with_reducible refine Kd.C_drew ?_)));(case side4=>exact HC1_0.out);rintro e w10 ⟨rfl,hb⟩;refine ⟨_,rfl,?_⟩;have n0_:=Aside0.mk (blk_below (g:=gb446) (o:=.cells #[.slice A0_0 l0_0.length c0_0] 59 (0,0)) (bs BK446) hb);have n1_:=Aside0.mk (blk_below (g:=gb447) (o:=.cells #[.slice A1_0 l1_0.length c1_0] 59 (0,0)) (bs BK447) hb);have n2_:=Aside0.mk (below_step (hs2 HB GE446 GE447) hb);clear BK446;clear BK447;clear HB;have BK446:=n0_;have BK447:=n1_;have HB:=n2_;clear n0_ n1_ n2_;(try clear hb);(try clear hb2);(try clear hk);(try clear hi)))
  go_ret
  exact ⟨by first | rfl | (simp [errW_none,errW_some] <;> rfl) | (simp [*,errW_none,errW_some] <;> rfl),hs2 HB GE446 GE447⟩
 replace c4:=Bool.eq_false_iff.mpr c4;subst c4;have H1 : (some false) = some r:=by rw [if_neg (show ¬ (false = true) by decide)] at H;exact H
 clear H;have H:=H1;clear H1;obtain rfl:=Option.some.inj H
 go_enter Try.func35,Try.ntmps35
 go_wp2_with (first | ((with_reducible refine gate_dst (N:=2) rfl ?_);refine box_event ?hg (N:=2) ?hd (cs:=#[.slice A0_0 l0_0.length c0_0]) (t:=59) ?hr ?_;(case hd=>rfl);(case hg=>rfl);(case hr=>first | (go_simp;done) | (go_simp;rfl));intro gb446 hg w11 hbox hb;have n0_:=Aside0.mk (below_step (hs HB) hb);have n1_:=Aside0.mk (hbox);have n2_:=Aside0.mk ((by rw [hg];exact (below_size (hs HB)) : w.heap.size ≤ gb446));have n3_:=Aside0.mk ((by rw [hg];exact (below_size (hs HB)) : w.heap.size ≤ gb446));clear HB;have HB:=n0_;have BK446:=n1_;have GW446:=n2_;have GE446:=n3_;clear n0_ n1_ n2_ n3_;clear hb hbox hg) | ((with_reducible refine gate_dst (N:=3) rfl ?_);refine box_event ?hg (N:=3) ?hd (cs:=#[.slice A1_0 l1_0.length c1_0]) (t:=59) ?hr ?_;(case hd=>rfl);(case hg=>rfl);(case hr=>first | (go_simp;done) | (go_simp;rfl));intro gb447 hg w12 hbox hb;have n0_:=Aside0.mk (blk_below (g:=gb446) (o:=.cells #[.slice A0_0 l0_0.length c0_0] 59 (0,0)) (bs BK446) hb);have n1_:=Aside0.mk (below_step (hs1 HB GE446) hb);have n2_:=Aside0.mk (hbox);have n3_:=Aside0.mk ((by rw [hg];exact (below_size (hs1 HB GE446)) : w.heap.size ≤ gb447));have n4_:=Aside0.mk ((by rw [hg];exact (below_size (hs1 HB GE446)) : w.heap.size ≤ gb447));have n5_:=Aside0.mk ((by rw [hg];exact Nat.ne_of_lt (blk_lt (g:=gb446) (o:=.cells #[.slice A0_0 l0_0.length c0_0] 59 (0,0)) (bs BK446)) : gb446 ≠ gb447));have n6_:=Aside0.mk ((by rw [hg];exact Nat.ne_of_gt (blk_lt (g:=gb446) (o:=.cells #[.slice A0_0 l0_0.length c0_0] 59 (0,0)) (bs BK446)) : gb447 ≠ gb446));clear BK446;clear HB;have BK446:=n0_;have HB:=n1_;have BK447:=n2_;have GW447:=n3_;have GE447:=n4_;have NB446_447:=n5_;have NB447_446:=n6_;clear n0_ n1_ n2_ n3_ n4_ n5_ n6_;clear hb hbox hg;have hnb13:=NB446_447.out;have hnc13:=NB447_446.out;have hcz14_0 : w12.cell? ⟨gb446,0,none⟩ = some (.slice A0_0 l0_0.length c0_0):=(blk_cell BK446.out 0).trans rfl;have hfz14_0:=blk_frozen BK446.out 0;have hcz15_0 : w12.cell? ⟨gb447,0,none⟩ = some (.slice A1_0 l1_0.length c1_0):=(blk_cell BK447.out 0).trans rfl;have hfz15_0:=blk_frozen BK447.out 0) | ((with_reducible refine gate_callee (f:=72) rfl ?_);refine goesL_ (some 9) rfl rfl Try.func72 (by kernel_rfl) rfl #[.slice A0_0 l0_0.length c0_0,.slice A1_0 l1_0.length c1_0] rfl (by (try simp only [List.map_toArray,List.map_cons,List.map_nil]);first | done | rfl | (simp only [List.length_drop,List.length_take];rfl)) ?_;(with_reducible refine (laws_eqBlockS.calls k _ _ l0_0 _ _ l1_0 false _ ?side1 ?side2 ?side3 ?side4 A3.out).mono ?_);(case side1=>repeat (first | exact (Kd.C_below HR0_0.out HB.out) | (with_reducible refine Kd.C_alloc ?_ _) | (with_reducible refine Kd.C_drewN ?_ _) | (with_reducible refine Kd.C_drew ?_)));(case side2=>exact HC0_0.out);(case side3=>repeat (first | exact (Kd.C_below HR1_0.out HB.out) | (with_reducible refine Kd.C_alloc ?_ _) | (with_reducible refine Kd.C_drewN ?_ _) | (with_reducible refine Kd.C_drew ?_)));(case side4=>exact HC1_0.out);rintro e w16 ⟨rfl,hb⟩;refine ⟨_,rfl,?_⟩;have n0_:=Aside0.mk (blk_below (g:=gb446) (o:=.cells #[.slice A0_0 l0_0.length c0_0] 59 (0,0)) (bs BK446) hb);have n1_:=Aside0.mk (blk_below (g:=gb447) (o:=.cells #[.slice A1_0 l1_0.length c1_0] 59 (0,0)) (bs BK447) hb);have n2_:=Aside0.mk (below_step (hs2 HB GE446 GE447) hb);clear BK446;clear BK447;clear HB;have BK446:=n0_;have BK447:=n1_;have HB:=n2_;clear n0_ n1_ n2_;(try clear hb);(try clear hb2);(try clear hk);(try clear hi)))
 go_ret
 exact ⟨by first | rfl | (simp [errW_none,errW_some] <;> rfl) | (simp [*,errW_none,errW_some] <;> rfl),hs2 HB GE446 GE447⟩
end Go.Proofs.Ytijbejiajaiciaa.PC
