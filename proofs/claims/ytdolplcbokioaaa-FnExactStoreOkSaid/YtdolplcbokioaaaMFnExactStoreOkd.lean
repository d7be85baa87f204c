/- FnExactStoreOk: functions of the translation as Lean functions with what their calls come to, plain lemmas on them, and, at the end, the row. Parts of one proof, merged by a program of this session; each part's own sentence stands at its head. -/
import Derived.Test.YtdolplcbokioaaaMFnExactStoreOkc
namespace Go.Proofs.Ytdolplcbokioaaa.PB
open Go.RowKit Go.Proofs.YtdolplcbokioaaaW.PrintWords Go.Proofs.YtdolplcbokioaaaW.PrintLast Go.Proofs.YtdolplcbokioaaaW.PrintMore
attribute [local go_sem] max2_int min2_int max_two min_two max_three min_three max_four min_four   -- for this text's walks alone
set_option linter.unusedVariables false
set_option linter.unusedSimpArgs false
mutual
def spec_StoreOk.j0 : Nat → Bool → List (S147) → List (S133) → Int → Option (Bool)
 | 0,_,_,_,_=>none
 | k + 1,x23,x1670000,x1670001,x1670002=>if x23 = true then (some false) else (spec_StoreOk.l0 k 0 x1670000 x1670001 x1670002)
def spec_StoreOk.l0 : Nat → Int → List (S147) → List (S133) → Int → Option (Bool)
 | 0,_,_,_,_=>none
 | k + 1,x3,x1670000,x1670001,x1670002=>if x3 < (x1670000.length : Int) then (if 0 ≤ x3 then ((spec_l01In.f ((rd_T147 x1670000 x3).f0) 1 9).bind fun t1684=>(if t1684 = true then (if x3 > 0 then (if 0 ≤ (wrap64 (x3 - 1)) then (if (wrap64 (x3 - 1)) < (x1670000.length : Int) then (if ((rd_T147 x1670000 (wrap64 (x3 - 1))).f0) ≥ ((rd_T147 x1670000 x3).f0) then (spec_StoreOk.j2 k x3 true x1670000 x1670001 x1670002 ((rd_T147 x1670000 x3).f0) ((rd_T147 x1670000 x3).f1)) else ((spec_l11Root.f x1670001 ((rd_T147 x1670000 x3).f1)).bind fun t1686=>(spec_StoreOk.j2 k x3 (!t1686) x1670000 x1670001 x1670002 ((rd_T147 x1670000 x3).f0) ((rd_T147 x1670000 x3).f1)))) else (none)) else (none)) else ((spec_l11Root.f x1670001 ((rd_T147 x1670000 x3).f1)).bind fun t1687=>(spec_StoreOk.j2 k x3 (!t1687) x1670000 x1670001 x1670002 ((rd_T147 x1670000 x3).f0) ((rd_T147 x1670000 x3).f1)))) else (spec_StoreOk.j2 k x3 true x1670000 x1670001 x1670002 ((rd_T147 x1670000 x3).f0) ((rd_T147 x1670000 x3).f1)))) else (none)) else ((spec_l12Roots.f k x1670000 x1670001 x1670002).bind fun t1672=>((spec_SweepArena.f k x1670001 t1672).bind fun bt1675=>(some ((bt1675.1.length : Int) == (x1670001.length : Int)))))
def spec_StoreOk.j2 : Nat → Int → Bool → List (S147) → List (S133) → Int → Int → Int → Option (Bool)
 | 0,_,_,_,_,_,_,_=>none
 | k + 1,x3,x63,x1670000,x1670001,x1670002,x1684000,x1684001=>if x63 = true then (some false) else (spec_StoreOk.l1 k x3 0 x1670000 x1670001 x1670002 x1684000 x1684001)
def spec_StoreOk.l1 : Nat → Int → Int → List (S147) → List (S133) → Int → Int → Int → Option (Bool)
 | 0,_,_,_,_,_,_,_=>none
 | k + 1,x3,x5,x1670000,x1670001,x1670002,x1684000,x1684001=>if x5 < 16 then ((spec_l11Get.f x1670001 x1684001 x5).bind fun t1688=>(if t1688 ≥ x1670002 then (some false) else (spec_StoreOk.l1 k x3 (wrap64 (x5 + 1)) x1670000 x1670001 x1670002 x1684000 x1684001))) else (spec_StoreOk.l0 k (wrap64 (x3 + 1)) x1670000 x1670001 x1670002)
end
def spec_StoreOk.f (k : Nat) (l0_0 : List (S147)) (l0_1 : List (S133)) (a0_2 : Int) : Option (Bool):=if (l0_0.length : Int) > 3 then (spec_StoreOk.j0 k true l0_0 l0_1 a0_2) else ((spec_ArenaOk.f k l0_1).bind fun t1670=>(if t1670 = true then ((spec_l01In.f a0_2 1 1000000000).bind fun t1671=>(spec_StoreOk.j0 k (!t1671) l0_0 l0_1 a0_2)) else (spec_StoreOk.j0 k true l0_0 l0_1 a0_2)))
theorem spec_StoreOk.mono_l : ∀ k,(∀ y0 y1 y2 y3,LeO (spec_StoreOk.j0 k y0 y1 y2 y3) (spec_StoreOk.j0 (k + 1) y0 y1 y2 y3)) ∧ (∀ y0 y1 y2 y3,LeO (spec_StoreOk.l0 k y0 y1 y2 y3) (spec_StoreOk.l0 (k + 1) y0 y1 y2 y3)) ∧ (∀ y0 y1 y2 y3 y4 y5 y6,LeO (spec_StoreOk.j2 k y0 y1 y2 y3 y4 y5 y6) (spec_StoreOk.j2 (k + 1) y0 y1 y2 y3 y4 y5 y6)) ∧ (∀ y0 y1 y2 y3 y4 y5 y6,LeO (spec_StoreOk.l1 k y0 y1 y2 y3 y4 y5 y6) (spec_StoreOk.l1 (k + 1) y0 y1 y2 y3 y4 y5 y6))
 | 0=>⟨fun _ _ _ _ r h=>by simp [spec_StoreOk.j0] at h,fun _ _ _ _ r h=>by simp [spec_StoreOk.l0] at h,fun _ _ _ _ _ _ _ r h=>by simp [spec_StoreOk.j2] at h,fun _ _ _ _ _ _ _ r h=>by simp [spec_StoreOk.l1] at h⟩
 | k + 1=>by
  obtain ⟨ih0,ih1,ih2,ih3⟩:=spec_StoreOk.mono_l k;refine ⟨?_,?_,?_,?_⟩
  ·intro y0 y1 y2 y3;unfold spec_StoreOk.j0
   repeat' first
   | (with_reducible exact ih0 _ _ _ _)
   | (with_reducible exact ih1 _ _ _ _)
   | (with_reducible exact ih2 _ _ _ _ _ _ _)
   | (with_reducible exact ih3 _ _ _ _ _ _ _)
   | (with_reducible exact spec_ArenaOk.mono _ _)
   | (with_reducible exact spec_SweepArena.mono _ _ _)
   | (with_reducible exact spec_l12Roots.mono _ _ _ _)
   | (with_reducible exact LeO.refl _)
   | (with_reducible exact LeO.none _)
   | (with_reducible refine LeO.ite ?_ ?_)
   | (with_reducible refine LeO.bind ?_ (fun _=>?_))
   | exact ih0 _ _ _ _
   | exact ih1 _ _ _ _
   | exact ih2 _ _ _ _ _ _ _
   | exact ih3 _ _ _ _ _ _ _
   | exact spec_ArenaOk.mono _ _
   | exact spec_SweepArena.mono _ _ _
   | exact spec_l12Roots.mono _ _ _ _
   | exact LeO.none _
   | refine LeO.ite ?_ ?_
   | refine LeO.bind ?_ (fun _=>?_)
  ·intro y0 y1 y2 y3;unfold spec_StoreOk.l0
   repeat' first
   | (with_reducible exact ih0 _ _ _ _)
   | (with_reducible exact ih1 _ _ _ _)
   | (with_reducible exact ih2 _ _ _ _ _ _ _)
   | (with_reducible exact ih3 _ _ _ _ _ _ _)
   | (with_reducible exact spec_ArenaOk.mono _ _)
   | (with_reducible exact spec_SweepArena.mono _ _ _)
   | (with_reducible exact spec_l12Roots.mono _ _ _ _)
   | (with_reducible exact LeO.refl _)
   | (with_reducible exact LeO.none _)
   | (with_reducible refine LeO.ite ?_ ?_)
   | (with_reducible refine LeO.bind ?_ (fun _=>?_))
   | exact ih0 _ _ _ _
   | exact ih1 _ _ _ _
   | exact ih2 _ _ _ _ _ _ _
   | exact ih3 _ _ _ _ _ _ _
   | exact spec_ArenaOk.mono _ _
   | exact spec_SweepArena.mono _ _ _
   | exact spec_l12Roots.mono _ _ _ _
   | exact LeO.none _
   | refine LeO.ite ?_ ?_
   | refine LeO.bind ?_ (fun _=>?_)
  ·intro y0 y1 y2 y3 y4 y5 y6;unfold spec_StoreOk.j2
   repeat' first
   | (with_reducible exact ih0 _ _ _ _)
   | (with_reducible exact ih1 _ _ _ _)
   | (with_reducible exact ih2 _ _ _ _ _ _ _)
   | (with_reducible exact ih3 _ _ _ _ _ _ _)
   | (with_reducible exact spec_ArenaOk.mono _ _)
   | (with_reducible exact spec_SweepArena.mono _ _ _)
   | (with_reducible exact spec_l12Roots.mono _ _ _ _)
   | (with_reducible exact LeO.refl _)
   | (with_reducible exact LeO.none _)
   | (with_reducible refine LeO.ite ?_ ?_)
   | (with_reducible refine LeO.bind ?_ (fun _=>?_))
   | exact ih0 _ _ _ _
   | exact ih1 _ _ _ _
   | exact ih2 _ _ _ _ _ _ _
   | exact ih3 _ _ _ _ _ _ _
   | exact spec_ArenaOk.mono _ _
   | exact spec_SweepArena.mono _ _ _
   | exact spec_l12Roots.mono _ _ _ _
   | exact LeO.none _
   | refine LeO.ite ?_ ?_
   | refine LeO.bind ?_ (fun _=>?_)
  intro y0 y1 y2 y3 y4 y5 y6;unfold spec_StoreOk.l1
  repeat' first
  | (with_reducible exact ih0 _ _ _ _)
  | (with_reducible exact ih1 _ _ _ _)
  | (with_reducible exact ih2 _ _ _ _ _ _ _)
  | (with_reducible exact ih3 _ _ _ _ _ _ _)
  | (with_reducible exact spec_ArenaOk.mono _ _)
  | (with_reducible exact spec_SweepArena.mono _ _ _)
  | (with_reducible exact spec_l12Roots.mono _ _ _ _)
  | (with_reducible exact LeO.refl _)
  | (with_reducible exact LeO.none _)
  | (with_reducible refine LeO.ite ?_ ?_)
  | (with_reducible refine LeO.bind ?_ (fun _=>?_))
  | exact ih0 _ _ _ _
  | exact ih1 _ _ _ _
  | exact ih2 _ _ _ _ _ _ _
  | exact ih3 _ _ _ _ _ _ _
  | exact spec_ArenaOk.mono _ _
  | exact spec_SweepArena.mono _ _ _
  | exact spec_l12Roots.mono _ _ _ _
  | exact LeO.none _
  | refine LeO.ite ?_ ?_
  | refine LeO.bind ?_ (fun _=>?_)
theorem spec_StoreOk.mono : ∀ a0 a1 a2 k,LeO (spec_StoreOk.f k a0 a1 a2) (spec_StoreOk.f (k + 1) a0 a1 a2):=by
 intro a0 a1 a2 k;obtain ⟨ih0,ih1,ih2,ih3⟩:=spec_StoreOk.mono_l k;unfold spec_StoreOk.f
 repeat' first
   | (with_reducible exact ih0 _ _ _ _)
   | (with_reducible exact ih1 _ _ _ _)
   | (with_reducible exact ih2 _ _ _ _ _ _ _)
   | (with_reducible exact ih3 _ _ _ _ _ _ _)
   | (with_reducible exact spec_ArenaOk.mono _ _)
   | (with_reducible exact spec_SweepArena.mono _ _ _)
   | (with_reducible exact spec_l12Roots.mono _ _ _ _)
   | (with_reducible exact LeO.refl _)
   | (with_reducible exact LeO.none _)
   | (with_reducible refine LeO.ite ?_ ?_)
   | (with_reducible refine LeO.bind ?_ (fun _=>?_))
   | exact ih0 _ _ _ _
   | exact ih1 _ _ _ _
   | exact ih2 _ _ _ _ _ _ _
   | exact ih3 _ _ _ _ _ _ _
   | exact spec_ArenaOk.mono _ _
   | exact spec_SweepArena.mono _ _ _
   | exact spec_l12Roots.mono _ _ _ _
   | exact LeO.none _
   | refine LeO.ite ?_ ?_
   | refine LeO.bind ?_ (fun _=>?_)
def spec_StoreOk.T7 : Bool × List (List Nat × List Nat):=(true,[([],[]),([0],[0]),([1],[1]),([2],[2]),([3,2],[3]),([4],[4]),([5,4],[4,5]),([6,4,4],[4,6]),([7],[7]),([8,7],[7,8]),([7],[7]),([10,7],[7,10]),([9,11,7],[7,9,11]),([12,7],[7,12]),([13,7],[7,13]),([7],[7]),([15,7],[7,15]),([14,16,7],[7,14,16]),([7,17,4],[4,7,17]),([4,18],[4,18]),([19,7],[19]),([20],[20]),([21,20],[20,21]),([20],[20]),([23,20],[20,23]),([22,24,20,20],[20,22,24]),([25,20],[20,25]),([20,26],[20,26])])
def spec_StoreOk.B7 : List Nat:=[0,1,3,7,15,31,63,127,255,511,255,1279,4095,8191,16383,255,33023,131071,262143,524287,1048575,2097151,4194303,2097151,10485759,33554431,67108863,134217727]
theorem spec_StoreOk.tab7 : rtab .any (opsOf Try.f77 7) = spec_StoreOk.T7:=by kernel_rfl
theorem spec_StoreOk.bits7 : waitsOk spec_StoreOk.T7.2 spec_StoreOk.B7 = true:=by kernel_rfl
def spec_StoreOk.T12 : Bool × List (List Nat × List Nat):=(true,[([],[]),([0],[0]),([],[]),([2],[2]),([],[]),([1,3,4],[1,3,4]),([],[]),([6],[6]),([5,7],[5,7])])
def spec_StoreOk.B12 : List Nat:=[0,1,0,4,0,31,0,64,255]
theorem spec_StoreOk.tab12 : rtab .any (opsOf Try.f77 12) = spec_StoreOk.T12:=by kernel_rfl
theorem spec_StoreOk.bits12 : waitsOk spec_StoreOk.T12.2 spec_StoreOk.B12 = true:=by kernel_rfl
def spec_StoreOk.T14 : Bool × List (List Nat × List Nat):=(true,[([],[]),([0],[0]),([],[]),([2],[2]),([1,3,3],[1,3]),([4],[4]),([5],[5]),([5],[5]),([],[]),([8,6,4,0,1,2,3,4,5,6,8],[6,8]),([7,9,0,1,2,3,4,5,6,7,8,9],[7])])
def spec_StoreOk.B14 : List Nat:=[0,1,0,4,15,31,63,63,0,383,1023]
theorem spec_StoreOk.tab14 : rtab .any (opsOf Try.f77 14) = spec_StoreOk.T14:=by kernel_rfl
theorem spec_StoreOk.bits14 : waitsOk spec_StoreOk.T14.2 spec_StoreOk.B14 = true:=by kernel_rfl
set_option maxHeartbeats 8000000 in
set_option maxRecDepth 100000 in
theorem spec_StoreOk.calls (k : Nat) (A0_0 : Option Addr) (c0_0 : Nat) (l0_0 : List (S147)) (A0_1 : Option Addr) (c0_1 : Nat) (l0_1 : List (S133)) (a0_2 : Int) (r : Bool) (w : World) (hr0_0 : Kd.C k147 w A0_0 l0_0.length l0_0) (hc0_0 : l0_0.length ≤ c0_0) (hr0_1 : Kd.C k133 w A0_1 l0_1.length l0_1) (hc0_1 : l0_1.length ≤ c0_1) (h : spec_StoreOk.f k l0_0 l0_1 a0_2 = some r) :
  Calls Try.prog 77 #[.agg #[.slice A0_0 l0_0.length c0_0,.slice A0_1 l0_1.length c0_1,.int .i64 a0_2]] w fun e w'=>e = .returned (.bool r) ∧ Below w.heap.size w w':=by
 have hu83:=Try.underlying83;have hu44:=Try.underlying44;have hu147:=Try.underlying147;have HR0_0:=Aside0.mk hr0_0;have HC0_0:=Aside0.mk hc0_0;clear hr0_0 hc0_0;have HR0_1:=Aside0.mk hr0_1;have HC0_1:=Aside0.mk hc0_1;clear hr0_1 hc0_1;have HB:=Aside0.mk (Below.refl w.heap.size w);have H : (if (l0_0.length : Int) > 3 then (spec_StoreOk.j0 k true l0_0 l0_1 a0_2) else ((spec_ArenaOk.f k l0_1).bind fun t1670=>(if t1670 = true then ((spec_l01In.f a0_2 1 1000000000).bind fun t1671=>(spec_StoreOk.j0 k (!t1671) l0_0 l0_1 a0_2)) else (spec_StoreOk.j0 k true l0_0 l0_1 a0_2)))) = some r:=h;clear h;have HC2:=Aside0.mk H;clear H
 go_enter Try.func77,Try.ntmps77
 go_upto_region 1 with (first | ((with_reducible refine gate_dst (N:=1) rfl ?_);refine box_event ?hg (N:=1) ?hd (cs:=#[.slice A0_0 l0_0.length c0_0,.slice A0_1 l0_1.length c0_1,.int .i64 a0_2]) (t:=83) ?hr ?_;(case hd=>rfl);(case hg=>rfl);(case hr=>first | (go_simp;done) | (go_simp;rfl));intro gb1669 hg w3 hbox hb;have n0_:=Aside0.mk (below_step (hs HB) hb);have n1_:=Aside0.mk (hbox);have n2_:=Aside0.mk ((by rw [hg];exact (below_size (hs HB)) : w.heap.size ≤ gb1669));have n3_:=Aside0.mk ((by rw [hg];exact (below_size (hs HB)) : w.heap.size ≤ gb1669));clear HB;have HB:=n0_;have BK1669:=n1_;have GW1669:=n2_;have GE1669:=n3_;clear n0_ n1_ n2_ n3_;clear hb hbox hg))
 (try simp only [Act.put,List.setIfInBounds_toArray,List.set_cons_zero,List.set_cons_succ])
 go_cut [23] (fun v23 wc=>∃ (kq : Nat) (x23_1 : Bool),v23 = .bool x23_1 ∧ Aside0 (spec_StoreOk.j0 kq x23_1 l0_0 l0_1 a0_2 = some r) ∧ Aside0 (kq ≤ k) ∧ Aside0 (wc.heap[gb1669]? = some (.cells #[(.slice A0_0 l0_0.length c0_0),(.slice A0_1 l0_1.length c0_1),.int .i64 a0_2] 83 (0,0))) ∧ Aside0 (Below w.heap.size w wc))
 case first =>
  have H:=HC2.out;clear HC2
  by_cases c4 : (l0_0.length : Int) > 3
  ·rw [if_pos c4] at H;have c4b0 : decide (3 < (l0_0.length : Int)) = true:=decide_eq_true c4;have c4b1 : decide (3 < l0_0.length) = true:=decide_eq_true (by omega);clear c4
   (first | rw [c4b0] | (simp only [i64_w,i32_w];rw [c4b0]) | skip)
   have H':=Aside0.mk H;clear H;have hcz5_0 : w3.cell? ⟨gb1669,0,none⟩ = some (.slice A0_0 l0_0.length c0_0):=(blk_cell BK1669.out 0).trans rfl;have hcz5_1 : w3.cell? ⟨gb1669,1,none⟩ = some (.slice A0_1 l0_1.length c0_1):=(blk_cell BK1669.out 1).trans rfl;have hcz5_2 : w3.cell? ⟨gb1669,2,none⟩ = some (.int .i64 a0_2):=(blk_cell BK1669.out 2).trans rfl;have hfz5_0:=blk_frozen BK1669.out 0;have hfz5_1:=blk_frozen BK1669.out 1;have hfz5_2:=blk_frozen BK1669.out 2
   go_wp2
   go_meet
   case rel=>exact ⟨_,(true),(by first | rfl | (simp;done) | (simp [*];done)),H',⟨by first | omega | exact Nat.le_refl _⟩,⟨bs BK1669⟩,⟨hs1 HB GE1669⟩⟩
  rw [if_neg c4] at H;have c4b0 : decide (3 < (l0_0.length : Int)) = false:=decide_eq_false c4;have c4b1 : decide (3 < l0_0.length) = false:=decide_eq_false (by omega);clear c4
  (first | rw [c4b0] | (simp only [i64_w,i32_w];rw [c4b0]) | skip)
  replace H:=Option.bind_eq_some_iff.mp H;obtain ⟨t1670,A60,H⟩:=H;replace H : (if t1670 = true then ((spec_l01In.f a0_2 1 1000000000).bind fun t1671=>(spec_StoreOk.j0 k (!t1671) l0_0 l0_1 a0_2)) else (spec_StoreOk.j0 k true l0_0 l0_1 a0_2)) = some r:=H;have A6:=Aside0.mk A60;clear A60
  by_cases c7 : t1670 = true
  ·subst c7;have H1 : ((spec_l01In.f a0_2 1 1000000000).bind fun t1671=>(spec_StoreOk.j0 k (!t1671) l0_0 l0_1 a0_2)) = some r:=by rw [if_pos rfl] at H;exact H
   clear H;have H:=H1;clear H1;replace H:=Option.bind_eq_some_iff.mp H;obtain ⟨t1671,A80,H⟩:=H;replace H : (spec_StoreOk.j0 k (!t1671) l0_0 l0_1 a0_2) = some r:=H;have A8:=Aside0.mk A80;clear A80;have H':=Aside0.mk H;clear H;have hcz9_0 : w3.cell? ⟨gb1669,0,none⟩ = some (.slice A0_0 l0_0.length c0_0):=(blk_cell BK1669.out 0).trans rfl;have hcz9_1 : w3.cell? ⟨gb1669,1,none⟩ = some (.slice A0_1 l0_1.length c0_1):=(blk_cell BK1669.out 1).trans rfl;have hcz9_2 : w3.cell? ⟨gb1669,2,none⟩ = some (.int .i64 a0_2):=(blk_cell BK1669.out 2).trans rfl;have hfz9_0:=blk_frozen BK1669.out 0;have hfz9_1:=blk_frozen BK1669.out 1;have hfz9_2:=blk_frozen BK1669.out 2;go_wp2_with (first | (go_at_call 99;(with_reducible refine (spec_ArenaOk.calls k _ _ l0_1 true _ ?side1 ?side2 A6.out).mono ?_);(case side1=>repeat (first | exact (Kd.C_below HR0_1.out HB.out) | (with_reducible refine Kd.C_alloc ?_ _) | (with_reducible refine Kd.C_drewN ?_ _) | (with_reducible refine Kd.C_drew ?_)));(case side2=>exact HC0_1.out);rintro e w10 ⟨rfl,hb⟩;have n0_:=Aside0.mk (blk_below (g:=gb1669) (o:=.cells #[.slice A0_0 l0_0.length c0_0,.slice A0_1 l0_1.length c0_1,.int .i64 a0_2] 83 (0,0)) (bs BK1669) hb);have n1_:=Aside0.mk (below_step (hs1 HB GE1669) hb);clear BK1669;clear HB;have BK1669:=n0_;have HB:=n1_;clear n0_ n1_;(try clear hb);(try clear hb2);(try clear hk);(try clear hi);have hcz11_0 : w10.cell? ⟨gb1669,0,none⟩ = some (.slice A0_0 l0_0.length c0_0):=(blk_cell BK1669.out 0).trans rfl;have hcz11_1 : w10.cell? ⟨gb1669,1,none⟩ = some (.slice A0_1 l0_1.length c0_1):=(blk_cell BK1669.out 1).trans rfl;have hcz11_2 : w10.cell? ⟨gb1669,2,none⟩ = some (.int .i64 a0_2):=(blk_cell BK1669.out 2).trans rfl;have hfz11_0:=blk_frozen BK1669.out 0;have hfz11_1:=blk_frozen BK1669.out 1;have hfz11_2:=blk_frozen BK1669.out 2) | (go_at_call 86;(with_reducible refine (spec_l01In.calls a0_2 1 1000000000 t1671 _ A8.out).mono ?_);rintro e w' ⟨rfl,⟨nd,rfl⟩⟩))
   go_meet
   case rel=>exact ⟨_,(!t1671),(by first | rfl | (simp;done) | (simp [*];done)),H',⟨by first | omega | exact Nat.le_refl _⟩,⟨bs BK1669⟩,⟨hs1 HB GE1669⟩⟩
  replace c7:=Bool.eq_false_iff.mpr c7;subst c7;have H1 : (spec_StoreOk.j0 k true l0_0 l0_1 a0_2) = some r:=by rw [if_neg (show ¬ (false = true) by decide)] at H;exact H
  clear H;have H:=H1;clear H1;have H':=Aside0.mk H;clear H;have hcz12_0 : w3.cell? ⟨gb1669,0,none⟩ = some (.slice A0_0 l0_0.length c0_0):=(blk_cell BK1669.out 0).trans rfl;have hcz12_1 : w3.cell? ⟨gb1669,1,none⟩ = some (.slice A0_1 l0_1.length c0_1):=(blk_cell BK1669.out 1).trans rfl;have hcz12_2 : w3.cell? ⟨gb1669,2,none⟩ = some (.int .i64 a0_2):=(blk_cell BK1669.out 2).trans rfl;have hfz12_0:=blk_frozen BK1669.out 0;have hfz12_1:=blk_frozen BK1669.out 1;have hfz12_2:=blk_frozen BK1669.out 2;go_wp2_with (first | (go_at_call 99;(with_reducible refine (spec_ArenaOk.calls k _ _ l0_1 false _ ?side1 ?side2 A6.out).mono ?_);(case side1=>repeat (first | exact (Kd.C_below HR0_1.out HB.out) | (with_reducible refine Kd.C_alloc ?_ _) | (with_reducible refine Kd.C_drewN ?_ _) | (with_reducible refine Kd.C_drew ?_)));(case side2=>exact HC0_1.out);rintro e w13 ⟨rfl,hb⟩;have n0_:=Aside0.mk (blk_below (g:=gb1669) (o:=.cells #[.slice A0_0 l0_0.length c0_0,.slice A0_1 l0_1.length c0_1,.int .i64 a0_2] 83 (0,0)) (bs BK1669) hb);have n1_:=Aside0.mk (below_step (hs1 HB GE1669) hb);clear BK1669;clear HB;have BK1669:=n0_;have HB:=n1_;clear n0_ n1_;(try clear hb);(try clear hb2);(try clear hk);(try clear hi)))
  go_meet
  case rel=>exact ⟨_,(true),(by first | rfl | (simp;done) | (simp [*];done)),H',⟨by first | omega | exact Nat.le_refl _⟩,⟨bs BK1669⟩,⟨hs1 HB GE1669⟩⟩
 case rest =>
  clear HC2
  try clear p2
  try clear c4
  try clear c4b0
  try clear c4b1
  try clear c7
  try clear hcz11_0
  try clear hcz11_1
  try clear hcz11_2
  try clear hcz12_0
  try clear hcz12_1
  try clear hcz12_2
  try clear hcz5_0
  try clear hcz5_1
  try clear hcz5_2
  try clear hcz9_0
  try clear hcz9_1
  try clear hcz9_2
  try clear hfz11_0
  try clear hfz11_1
  try clear hfz11_2
  try clear hfz12_0
  try clear hfz12_1
  try clear hfz12_2
  try clear hfz5_0
  try clear hfz5_1
  try clear hfz5_2
  try clear hfz9_0
  try clear hfz9_1
  try clear hfz9_2
  obtain ⟨kq,x23_1,rfl,HA,HJ1,BK1669,HB⟩:=hcut;cases kq with
  | zero=>exact absurd HA.out (by simp [spec_StoreOk.j0])
  | succ kj1 =>
   have H:=HA.out;clear HA;simp only [spec_StoreOk.j0] at H
   by_cases c14 : x23_1 = true
   ·subst c14;have H1 : (some false) = some r:=by rw [if_pos rfl] at H;exact H
    clear H;have H:=H1;clear H1;obtain rfl:=Option.some.inj H
    go_wp2
    go_ret
    exact ⟨by first | rfl | (simp [errW_none,errW_some] <;> rfl) | (simp [*,errW_none,errW_some] <;> rfl),hs1 HB GE1669⟩
   replace c14:=Bool.eq_false_iff.mpr c14;subst c14;have H1 : (spec_StoreOk.l0 kj1 0 l0_0 l0_1 a0_2) = some r:=by rw [if_neg (show ¬ (false = true) by decide)] at H;exact H
   clear H;have H:=H1;clear H1;have H':=Aside0.mk H;clear H
   go_wp2
   go_loopg [3] kj1 (fun kq v3 w'=>∃ (x3_2 : Int),v3 = .int .i64 x3_2 ∧ Aside0 (spec_StoreOk.l0 kq x3_2 l0_0 l0_1 a0_2 = some r) ∧ Aside0 (kq ≤ kj1) ∧ Aside0 (w'.heap[gb1669]? = some (.cells #[(.slice A0_0 l0_0.length c0_0),(.slice A0_1 l0_1.length c0_1),.int .i64 a0_2] 83 (0,0))) ∧ Aside0 (Below w.heap.size w w'));case atStart=>exact ⟨(0),(by first | rfl | (simp;done) | (simp [*];done)),H',⟨Nat.le_refl _⟩,⟨bs BK1669⟩,⟨hs1 HB GE1669⟩⟩
   case round =>
    clear H'
    try clear c1
    try clear p2
    try clear c4
    try clear c4b0
    try clear c4b1
    try clear c7
    try clear c14
    try clear hcz11_0
    try clear hcz11_1
    try clear hcz11_2
    try clear hcz12_0
    try clear hcz12_1
    try clear hcz12_2
    try clear hcz5_0
    try clear hcz5_1
    try clear hcz5_2
    try clear hcz9_0
    try clear hcz9_1
    try clear hcz9_2
    try clear hfz11_0
    try clear hfz11_1
    try clear hfz11_2
    try clear hfz12_0
    try clear hfz12_1
    try clear hfz12_2
    try clear hfz5_0
    try clear hfz5_1
    try clear hfz5_2
    try clear hfz9_0
    try clear hfz9_1
    try clear hfz9_2
    try clear p2
    obtain ⟨x3_2,rfl,HA,HK2,BK1669,HB⟩:=hrel;cases gk with
    | zero=>exact absurd HA.out (by simp [spec_StoreOk.l0])
    | succ k2 =>
     have H:=HA.out;clear HA;simp only [spec_StoreOk.l0] at H
     by_cases c15 : x3_2 < (l0_0.length : Int)
     ·rw [if_pos c15] at H;have c15b0 : decide (x3_2 < (l0_0.length : Int)) = true:=decide_eq_true c15;clear c15
      by_cases c16 : 0 ≤ x3_2
      ·rw [if_pos c16] at H;have c16b0 : decide (0 ≤ x3_2) = true:=decide_eq_true c16;clear c16;have HC17:=Aside0.mk H;clear H;have hcz18_0 : wr.cell? ⟨gb1669,0,none⟩ = some (.slice A0_0 l0_0.length c0_0):=(blk_cell BK1669.out 0).trans rfl;have hcz18_1 : wr.cell? ⟨gb1669,1,none⟩ = some (.slice A0_1 l0_1.length c0_1):=(blk_cell BK1669.out 1).trans rfl;have hcz18_2 : wr.cell? ⟨gb1669,2,none⟩ = some (.int .i64 a0_2):=(blk_cell BK1669.out 2).trans rfl;have hfz18_0:=blk_frozen BK1669.out 0;have hfz18_1:=blk_frozen BK1669.out 1;have hfz18_2:=blk_frozen BK1669.out 2;have p1682 : 0 ≤ (x3_2 : Int):=of_decide_eq_true (by first | (with_reducible assumption) | assumption);have q1682 : x3_2 < (l0_0.length : Int):=of_decide_eq_true (by first | (with_reducible assumption) | assumption);obtain ⟨ad1682,e1682,hx1682_0,hx1682_1⟩:=at_T147 HR0_0.out x3_2 p1682 q1682;cases e1682;replace hx1682_0:=(HB.out.cell (World.block_lt_of_cell? w _ hx1682_0)).trans hx1682_0;replace hx1682_1:=(HB.out.cell (World.block_lt_of_cell? w _ hx1682_1)).trans hx1682_1;replace p1682:=eq_true p1682;replace q1682:=eq_true q1682;go_upto_region 7 with (first | ((with_reducible refine gate_dst (N:=4) rfl ?_);refine box_event ?hg (N:=4) ?hd (cs:=#[.int .i64 0,.int .i64 0]) (t:=147) ?hr ?_;(case hd=>rfl);(case hg=>rfl);(case hr=>first | (go_simp;done) | (go_simp;rfl));intro gb1683 hg w19 hbox hb;have n0_:=Aside0.mk (blk_below (g:=gb1669) (o:=.cells #[.slice (some ad1682) l0_0.length c0_0,.slice A0_1 l0_1.length c0_1,.int .i64 a0_2] 83 (0,0)) (bs BK1669) hb);have n1_:=Aside0.mk (below_step (hs1 HB GE1669) hb);have n2_:=Aside0.mk (hbox);have n3_:=Aside0.mk ((by rw [hg];exact (below_size (hs1 HB GE1669)) : w.heap.size ≤ gb1683));have n4_:=Aside0.mk ((by rw [hg];exact (below_size (hs1 HB GE1669)) : w.heap.size ≤ gb1683));have n5_:=Aside0.mk ((by rw [hg];exact Nat.ne_of_lt (blk_lt (g:=gb1669) (o:=.cells #[.slice (some ad1682) l0_0.length c0_0,.slice A0_1 l0_1.length c0_1,.int .i64 a0_2] 83 (0,0)) (bs BK1669)) : gb1669 ≠ gb1683));have n6_:=Aside0.mk ((by rw [hg];exact Nat.ne_of_gt (blk_lt (g:=gb1669) (o:=.cells #[.slice (some ad1682) l0_0.length c0_0,.slice A0_1 l0_1.length c0_1,.int .i64 a0_2] 83 (0,0)) (bs BK1669)) : gb1683 ≠ gb1669));clear BK1669;clear HB;have BK1669:=n0_;have HB:=n1_;have BK1683:=n2_;have GW1683:=n3_;have GE1683:=n4_;have NB1669_1683:=n5_;have NB1683_1669:=n6_;clear n0_ n1_ n2_ n3_ n4_ n5_ n6_;clear hb hbox hg;have hnb20:=NB1683_1669.out;have hnc20:=NB1669_1683.out;have hcz21_0 : w19.cell? ⟨gb1683,0,none⟩ = some (.int .i64 0):=(blk_cell BK1683.out 0).trans rfl;have hcz21_1 : w19.cell? ⟨gb1683,1,none⟩ = some (.int .i64 0):=(blk_cell BK1683.out 1).trans rfl;have hfz21_0:=blk_frozen BK1683.out 0;have hfz21_1:=blk_frozen BK1683.out 1))
       (try simp only [Act.put,List.setIfInBounds_toArray,List.set_cons_zero,List.set_cons_succ])
       go_cut [63] (fun v63 wc=>∃ (kq : Nat) (x63_16 : Bool),v63 = .bool x63_16 ∧ Aside0 (spec_StoreOk.j2 kq x3_2 x63_16 l0_0 l0_1 a0_2 ((rd_T147 l0_0 x3_2).f0) ((rd_T147 l0_0 x3_2).f1) = some r) ∧ Aside0 (kq ≤ k2) ∧ Aside0 (wc.heap[gb1669]? = some (.cells #[(.slice (some ad1682) l0_0.length c0_0),(.slice A0_1 l0_1.length c0_1),.int .i64 a0_2] 83 (0,0))) ∧ Aside0 (wc.heap[gb1683]? = some (.cells #[.int .i64 ((rd_T147 l0_0 x3_2).f0),.int .i64 ((rd_T147 l0_0 x3_2).f1)] 147 (0,0))) ∧ Aside0 (Below w.heap.size w wc))
       case first =>
        have H:=HC17.out;clear HC17;replace H:=Option.bind_eq_some_iff.mp H;obtain ⟨t1684,A220,H⟩:=H;replace H : (if t1684 = true then (if x3_2 > 0 then (if 0 ≤ (wrap64 (x3_2 - 1)) then (if (wrap64 (x3_2 - 1)) < (l0_0.length : Int) then (if ((rd_T147 l0_0 (wrap64 (x3_2 - 1))).f0) ≥ ((rd_T147 l0_0 x3_2).f0) then (spec_StoreOk.j2 k2 x3_2 true l0_0 l0_1 a0_2 ((rd_T147 l0_0 x3_2).f0) ((rd_T147 l0_0 x3_2).f1)) else ((spec_l11Root.f l0_1 ((rd_T147 l0_0 x3_2).f1)).bind fun t1686=>(spec_StoreOk.j2 k2 x3_2 (!t1686) l0_0 l0_1 a0_2 ((rd_T147 l0_0 x3_2).f0) ((rd_T147 l0_0 x3_2).f1)))) else (none)) else (none)) else ((spec_l11Root.f l0_1 ((rd_T147 l0_0 x3_2).f1)).bind fun t1687=>(spec_StoreOk.j2 k2 x3_2 (!t1687) l0_0 l0_1 a0_2 ((rd_T147 l0_0 x3_2).f0) ((rd_T147 l0_0 x3_2).f1)))) else (spec_StoreOk.j2 k2 x3_2 true l0_0 l0_1 a0_2 ((rd_T147 l0_0 x3_2).f0) ((rd_T147 l0_0 x3_2).f1))) = some r:=H;have A22:=Aside0.mk A220;clear A220
        by_cases c23 : t1684 = true
        ·subst c23;have H1 : (if x3_2 > 0 then (if 0 ≤ (wrap64 (x3_2 - 1)) then (if (wrap64 (x3_2 - 1)) < (l0_0.length : Int) then (if ((rd_T147 l0_0 (wrap64 (x3_2 - 1))).f0) ≥ ((rd_T147 l0_0 x3_2).f0) then (spec_StoreOk.j2 k2 x3_2 true l0_0 l0_1 a0_2 ((rd_T147 l0_0 x3_2).f0) ((rd_T147 l0_0 x3_2).f1)) else ((spec_l11Root.f l0_1 ((rd_T147 l0_0 x3_2).f1)).bind fun t1686=>(spec_StoreOk.j2 k2 x3_2 (!t1686) l0_0 l0_1 a0_2 ((rd_T147 l0_0 x3_2).f0) ((rd_T147 l0_0 x3_2).f1)))) else (none)) else (none)) else ((spec_l11Root.f l0_1 ((rd_T147 l0_0 x3_2).f1)).bind fun t1687=>(spec_StoreOk.j2 k2 x3_2 (!t1687) l0_0 l0_1 a0_2 ((rd_T147 l0_0 x3_2).f0) ((rd_T147 l0_0 x3_2).f1)))) = some r:=by rw [if_pos rfl] at H;exact H
         clear H;have H:=H1;clear H1
         by_cases c24 : x3_2 > 0
         ·rw [if_pos c24] at H;have c24b0 : decide (0 < x3_2) = true:=decide_eq_true c24;clear c24
          (first | rw [c24b0] | (simp only [i64_w,i32_w];rw [c24b0]) | skip)
          obtain ⟨ji25,hji25⟩ : ∃ j_ : Int,(wrap64 (x3_2 - 1)) = j_:=⟨_,rfl⟩;replace H : (if 0 ≤ (ji25) then (if (ji25) < (l0_0.length : Int) then (if ((rd_T147 l0_0 (ji25)).f0) ≥ ((rd_T147 l0_0 x3_2).f0) then (spec_StoreOk.j2 k2 x3_2 true l0_0 l0_1 a0_2 ((rd_T147 l0_0 x3_2).f0) ((rd_T147 l0_0 x3_2).f1)) else ((spec_l11Root.f l0_1 ((rd_T147 l0_0 x3_2).f1)).bind fun t1686=>(spec_StoreOk.j2 k2 x3_2 (!t1686) l0_0 l0_1 a0_2 ((rd_T147 l0_0 x3_2).f0) ((rd_T147 l0_0 x3_2).f1)))) else (none)) else (none)) = some r:=by first | (rw [hji25] at H;exact H) | (simp only [hji25] at H ⊢;exact H)
          (try rw [hji25] at A22)
          have hji25w : (IntKind.i64.wrap (x3_2 - 1)) = ji25:=(i64_w _).trans hji25
          by_cases c26 : 0 ≤ (ji25)
          ·rw [if_pos c26] at H;have c26b0 : decide (0 ≤ (ji25)) = true:=decide_eq_true c26;clear c26
           by_cases c27 : (ji25) < (l0_0.length : Int)
           ·rw [if_pos c27] at H;have c27b0 : decide ((ji25) < (l0_0.length : Int)) = true:=decide_eq_true c27;clear c27
            by_cases c28 : ((rd_T147 l0_0 (ji25)).f0) ≥ ((rd_T147 l0_0 x3_2).f0)
            ·rw [if_pos c28] at H;have c28b0 : decide (((rd_T147 l0_0 x3_2).f0) ≤ ((rd_T147 l0_0 (ji25)).f0)) = true:=decide_eq_true c28;clear c28;have H':=Aside0.mk H;clear H
             try go_wp2
             have n0_ : Aside0 (((w19.setCell ⟨gb1683,0,none⟩ (.int .i64 ((rd_T147 l0_0 x3_2).f0))).setCell ⟨gb1683,1,none⟩ (.int .i64 ((rd_T147 l0_0 x3_2).f1))).heap[gb1669]? = some (.cells #[.slice (some ad1682) l0_0.length c0_0,.slice A0_1 l0_1.length c0_1,.int .i64 a0_2] 83 (0,0))):=⟨by (with_reducible repeat (first | refine blk_drewN ?_ _ | refine blk_drew ?_ | refine blk_alloc ?_ _));refine blk_far ?_ NB1669_1683.out _;(with_reducible repeat (first | refine blk_drewN ?_ _ | refine blk_drew ?_ | refine blk_alloc ?_ _));refine blk_far ?_ NB1669_1683.out _;(with_reducible repeat (first | refine blk_drewN ?_ _ | refine blk_drew ?_ | refine blk_alloc ?_ _));exact BK1669.out⟩;have n1_ : Aside0 (((w19.setCell ⟨gb1683,0,none⟩ (.int .i64 ((rd_T147 l0_0 x3_2).f0))).setCell ⟨gb1683,1,none⟩ (.int .i64 ((rd_T147 l0_0 x3_2).f1))).heap[gb1683]? = some (.cells #[.int .i64 ((rd_T147 l0_0 x3_2).f0),.int .i64 ((rd_T147 l0_0 x3_2).f1)] 147 (0,0))):=⟨by (with_reducible repeat (first | refine blk_drewN ?_ _ | refine blk_drew ?_ | refine blk_alloc ?_ _));refine blk_put (cs:=#[.int .i64 ((rd_T147 l0_0 x3_2).f0),.int .i64 0]) ?_ 1 _ rfl;(with_reducible repeat (first | refine blk_drewN ?_ _ | refine blk_drew ?_ | refine blk_alloc ?_ _));refine blk_put (cs:=#[.int .i64 0,.int .i64 0]) ?_ 0 _ rfl;(with_reducible repeat (first | refine blk_drewN ?_ _ | refine blk_drew ?_ | refine blk_alloc ?_ _));exact BK1683.out⟩;have n2_ : Aside0 (Below w.heap.size w ((w19.setCell ⟨gb1683,0,none⟩ (.int .i64 ((rd_T147 l0_0 x3_2).f0))).setCell ⟨gb1683,1,none⟩ (.int .i64 ((rd_T147 l0_0 x3_2).f1)))):=⟨hs2 HB GE1669 GE1683⟩
             (try clear BK1669)
             (try clear BK1683)
             (try clear HB)
             generalize ((w19.setCell ⟨gb1683,0,none⟩ (.int .i64 ((rd_T147 l0_0 x3_2).f0))).setCell ⟨gb1683,1,none⟩ (.int .i64 ((rd_T147 l0_0 x3_2).f1))) = w29 at n0_ n1_ n2_ ⊢;have BK1669:=n0_;have BK1683:=n1_;have HB:=n2_;clear n0_ n1_ n2_;have n0_:=Aside0.mk (blk_drew BK1669.out);have n1_:=Aside0.mk (blk_drew BK1683.out);have n2_:=Aside0.mk (below_drew1 HB.out);clear BK1669;clear BK1683;clear HB;have BK1669:=n0_;have BK1683:=n1_;have HB:=n2_;clear n0_ n1_ n2_;have p1685 : 0 ≤ ((ji25) : Int):=of_decide_eq_true (by first | (with_reducible assumption) | assumption);have q1685 : (ji25) < (l0_0.length : Int):=of_decide_eq_true (by first | (with_reducible assumption) | assumption);obtain ⟨ad1685,e1685,hx1685_0,hx1685_1⟩:=at_T147 HR0_0.out (ji25) p1685 q1685;have hw1685_1:=hx1685_1;have hw1685_0:=hx1685_0;obtain rfl : ad1682 = ad1685:=(by injection e1685);replace hx1685_0:=(HB.out.cell (World.block_lt_of_cell? w _ hx1685_0)).trans hx1685_0;replace hx1685_1:=(HB.out.cell (World.block_lt_of_cell? w _ hx1685_1)).trans hx1685_1;replace p1685:=eq_true p1685;replace q1685:=eq_true q1685;refine start_ (n:=28) (S:=fun w'=>w'.cell? ⟨gb1683,0,none⟩ = some (.int .i64 ((rd_T147 l0_0 x3_2).f0)) ∧ w'.cell? ⟨gb1683,1,none⟩ = some (.int .i64 ((rd_T147 l0_0 x3_2).f1)) ∧ w'.cell? ⟨gb1669,0,none⟩ = some (.slice (some ad1682) l0_0.length c0_0) ∧ w'.cell? ⟨gb1669,1,none⟩ = some (.slice A0_1 l0_1.length c0_1) ∧ w'.cell? ⟨gb1669,2,none⟩ = some (.int .i64 a0_2) ∧ w'.cell? (ad1682.add (((ji25)).toNat * 2)) = some (.int .i64 ((rd_T147 l0_0 (ji25)).f0)) ∧ w'.cell? ⟨(ad1682.add (((ji25)).toNat * 2)).block,(ad1682.add (((ji25)).toNat * 2)).off + 1,none⟩ = some (.int .i64 ((rd_T147 l0_0 (ji25)).f1))) (ds:=[]) #[false,false,false,false,false,false,false,false,false,false,false,false,false,false,false,false,false,false,false,false,false,false,false,false,false,false,false,false] (by kernel_rfl) rfl rfl ⟨(blk_cell BK1683.out 0).trans rfl,(blk_cell BK1683.out 1).trans rfl,(blk_cell BK1669.out 0).trans rfl,(blk_cell BK1669.out 1).trans rfl,(blk_cell BK1669.out 2).trans rfl,((HB.out.cell (World.block_lt_of_cell? w _ hw1685_0)).trans hw1685_0),((HB.out.cell (World.block_lt_of_cell? w _ hw1685_1)).trans hw1685_1)⟩ (fun hHeld=>?_);refine with_tabW spec_StoreOk.tab7 spec_StoreOk.bits7 (fun HT_ HW_=>?_);generalize w29.drew = w30 at BK1669 BK1683 HB hx1685_0 hx1685_1 hHeld ⊢;refine pure_ (i:=0) (N:=some 36) (v:=?_) (a':=?_) #[true,false,false,false,false,false,false,false,false,false,false,false,false,false,false,false,false,false,false,false,false,false,false,false,false,false,false,false] rfl rfl (any_of HT_.out (by kernel_rfl)) (fun _ _ _ h=>h) (Or.inl ⟨by rfl,?_⟩) ?_ ?_;rotate_left
             ·intro w';go_simp;with_reducible rfl
             rotate_left
             ·simp only [Act.put,List.setIfInBounds_toArray,List.set_cons_zero,List.set_cons_succ,i64_w,i32_w];rfl
             refine take_ (i:=1) (N:=some 37) (v:=?_) (a':=?_) #[true,true,false,false,false,false,false,false,false,false,false,false,false,false,false,false,false,false,false,false,false,false,false,false,false,false,false,false] rfl rfl (take_ofW HT_.out HW_.out (by kernel_rfl)) (fun _ _ _ h=>h) (Or.inl ⟨by rfl,?_⟩) hHeld ?_ ?_;rotate_left
             ·rintro w' ⟨s0,s1,s2,s3,s4,s5,s6⟩;go_simp;with_reducible rfl
             rotate_left
             ·simp only [Act.put,List.setIfInBounds_toArray,List.set_cons_zero,List.set_cons_succ,i64_w,i32_w];rfl
             refine one_ (i:=2) (N:=some 38) #[true,true,true,false,false,false,false,false,false,false,false,false,false,false,false,false,false,false,false,false,false,false,false,false,false,false,false,false] rfl rfl (one_of HT_.out (by kernel_rfl)) (by decide) (fun K hK=>?_);refine goes_ Try.func86 (by kernel_rfl) rfl #[.int .i64 ((rd_T147 l0_0 x3_2).f0),.int .i64 1,.int .i64 9] (by rfl) rfl rfl (by (try simp only [List.map_toArray,List.map_cons,List.map_nil]);first | done | rfl | (simp only [List.length_drop,List.length_take];rfl)) ?_;with_reducible refine (spec_l01In.calls ((rd_T147 l0_0 x3_2).f0) 1 9 true _ A22.out).mono ?_
             rintro e w' ⟨rfl,⟨nd,rfl⟩⟩;refine ⟨_,rfl,?_⟩;refine hK.out _ _ ⟨(blk_cell BK1683.out 0).trans rfl,(blk_cell BK1683.out 1).trans rfl,(blk_cell BK1669.out 0).trans rfl,(blk_cell BK1669.out 1).trans rfl,(blk_cell BK1669.out 2).trans rfl,((HB.out.cell (World.block_lt_of_cell? w _ hw1685_0)).trans hw1685_0),((HB.out.cell (World.block_lt_of_cell? w _ hw1685_1)).trans hw1685_1)⟩ (fun hHeld=>?_);clear hK K;refine norm_ (a':=?_) ?_ ?_;rotate_left
             ·show Act.put _ (some 38) _ = _;simp only [Act.put,List.setIfInBounds_toArray,List.set_cons_zero,List.set_cons_succ,i64_w,i32_w];rfl
             refine pure_ (i:=3) (N:=some 39) (v:=?_) (a':=?_) #[true,true,true,true,false,false,false,false,false,false,false,false,false,false,false,false,false,false,false,false,false,false,false,false,false,false,false,false] rfl rfl (any_of HT_.out (by kernel_rfl)) (fun _ _ _ h=>h) (Or.inl ⟨by rfl,?_⟩) ?_ ?_;rotate_left
             ·intro w';go_simp;with_reducible rfl
             rotate_left
             ·simp only [Act.put,List.setIfInBounds_toArray,List.set_cons_zero,List.set_cons_succ,i64_w,i32_w];rfl
             refine pure_ (i:=4) (N:=some 40) (v:=?_) (a':=?_) #[true,true,true,true,true,false,false,false,false,false,false,false,false,false,false,false,false,false,false,false,false,false,false,false,false,false,false,false] rfl rfl (any_of HT_.out (by kernel_rfl)) (fun _ _ _ h=>h) (Or.inl ⟨by rfl,?_⟩) ?_ ?_;rotate_left
             ·intro w';go_simp;with_reducible rfl
             rotate_left
             ·simp only [Act.put,List.setIfInBounds_toArray,List.set_cons_zero,List.set_cons_succ,i64_w,i32_w];rfl
             refine pure_ (i:=5) (N:=some 41) (v:=?_) (a':=?_) #[true,true,true,true,true,true,false,false,false,false,false,false,false,false,false,false,false,false,false,false,false,false,false,false,false,false,false,false] rfl rfl (any_of HT_.out (by kernel_rfl)) (fun _ _ _ h=>h) (Or.inl ⟨by rfl,?_⟩) ?_ ?_;rotate_left
             ·intro w';go_simp;with_reducible rfl
             rotate_left
             ·simp only [Act.put,List.setIfInBounds_toArray,List.set_cons_zero,List.set_cons_succ,i64_w,i32_w];rfl
             refine pure_ (i:=6) (N:=some 42) (v:=?_) (a':=?_) #[true,true,true,true,true,true,true,false,false,false,false,false,false,false,false,false,false,false,false,false,false,false,false,false,false,false,false,false] rfl rfl (any_of HT_.out (by kernel_rfl)) (fun _ _ _ h=>h) (Or.inl ⟨by rfl,?_⟩) ?_ ?_;rotate_left
             ·intro w';go_simp;with_reducible rfl
             rotate_left
             ·simp only [Act.put,List.setIfInBounds_toArray,List.set_cons_zero,List.set_cons_succ,i64_w,i32_w];rfl
             refine pure_ (i:=7) (N:=some 43) (v:=?_) (a':=?_) #[true,true,true,true,true,true,true,true,false,false,false,false,false,false,false,false,false,false,false,false,false,false,false,false,false,false,false,false] rfl rfl (any_of HT_.out (by kernel_rfl)) (fun _ _ _ h=>h) (Or.inl ⟨by rfl,?_⟩) ?_ ?_;rotate_left
             ·intro w';go_simp;with_reducible rfl
             rotate_left
             ·simp only [Act.put,List.setIfInBounds_toArray,List.set_cons_zero,List.set_cons_succ,i64_w,i32_w];rfl
             refine pure_ (i:=8) (N:=some 44) (v:=?_) (a':=?_) #[true,true,true,true,true,true,true,true,true,false,false,false,false,false,false,false,false,false,false,false,false,false,false,false,false,false,false,false] rfl rfl (any_of HT_.out (by kernel_rfl)) (fun _ _ _ h=>h) (Or.inl ⟨by rfl,?_⟩) ?_ ?_;rotate_left
             ·intro w';go_simp;with_reducible rfl
             rotate_left
             ·simp only [Act.put,List.setIfInBounds_toArray,List.set_cons_zero,List.set_cons_succ,i64_w,i32_w];rfl
             refine pure_ (i:=10) (N:=some 46) (v:=?_) (a':=?_) #[true,true,true,true,true,true,true,true,true,false,true,false,false,false,false,false,false,false,false,false,false,false,false,false,false,false,false,false] rfl rfl (any_of HT_.out (by kernel_rfl)) (fun _ _ _ h=>h) (Or.inl ⟨by rfl,?_⟩) ?_ ?_;rotate_left
             ·intro w';go_simp;with_reducible rfl
             rotate_left
             ·simp only [Act.put,List.setIfInBounds_toArray,List.set_cons_zero,List.set_cons_succ,i64_w,i32_w];rfl
             refine pure_ (i:=11) (N:=some 47) (v:=?_) (a':=?_) #[true,true,true,true,true,true,true,true,true,false,true,true,false,false,false,false,false,false,false,false,false,false,false,false,false,false,false,false] rfl rfl (any_of HT_.out (by kernel_rfl)) (fun _ _ _ h=>h) (Or.inl ⟨by rfl,?_⟩) ?_ ?_;rotate_left
             ·intro w';go_simp;with_reducible rfl
             rotate_left
             ·simp only [Act.put,List.setIfInBounds_toArray,List.set_cons_zero,List.set_cons_succ,i64_w,i32_w];rfl
             refine pure_ (i:=15) (N:=some 51) (v:=?_) (a':=?_) #[true,true,true,true,true,true,true,true,true,false,true,true,false,false,false,true,false,false,false,false,false,false,false,false,false,false,false,false] rfl rfl (any_of HT_.out (by kernel_rfl)) (fun _ _ _ h=>h) (Or.inl ⟨by rfl,?_⟩) ?_ ?_;rotate_left
             ·intro w';go_simp;with_reducible rfl
             rotate_left
             ·simp only [Act.put,List.setIfInBounds_toArray,List.set_cons_zero,List.set_cons_succ,i64_w,i32_w];rfl
             refine take_ (i:=9) (N:=some 45) (v:=?_) (a':=?_) #[true,true,true,true,true,true,true,true,true,true,true,true,false,false,false,true,false,false,false,false,false,false,false,false,false,false,false,false] rfl rfl (take_ofW HT_.out HW_.out (by kernel_rfl)) (fun _ _ _ h=>h) (Or.inl ⟨by rfl,?_⟩) hHeld ?_ ?_;rotate_left
             ·rintro w' ⟨s0,s1,s2,s3,s4,s5,s6⟩;go_simp;with_reducible rfl
             rotate_left
             ·simp only [Act.put,List.setIfInBounds_toArray,List.set_cons_zero,List.set_cons_succ,i64_w,i32_w];rfl
             refine pure_ (i:=12) (N:=some 48) (v:=?_) (a':=?_) #[true,true,true,true,true,true,true,true,true,true,true,true,true,false,false,true,false,false,false,false,false,false,false,false,false,false,false,false] rfl rfl (any_of HT_.out (by kernel_rfl)) (fun _ _ _ h=>h) (Or.inl ⟨by rfl,?_⟩) ?_ ?_;rotate_left
             ·intro w';go_simp;with_reducible rfl
             rotate_left
             ·simp only [Act.put,List.setIfInBounds_toArray,List.set_cons_zero,List.set_cons_succ,i64_w,i32_w];rfl
             refine pure_ (i:=13) (N:=some 49) (v:=?_) (a':=?_) #[true,true,true,true,true,true,true,true,true,true,true,true,true,true,false,true,false,false,false,false,false,false,false,false,false,false,false,false] rfl rfl (any_of HT_.out (by kernel_rfl)) (fun _ _ _ h=>h) (Or.inl ⟨by rfl,?_⟩) ?_ ?_;rotate_left
             ·intro w';go_simp;with_reducible rfl
             rotate_left
             ·simp only [Act.put,List.setIfInBounds_toArray,List.set_cons_zero,List.set_cons_succ,i64_w,i32_w];rfl
             refine take_ (i:=14) (N:=some 50) (v:=?_) (a':=?_) #[true,true,true,true,true,true,true,true,true,true,true,true,true,true,true,true,false,false,false,false,false,false,false,false,false,false,false,false] rfl rfl (take_ofW HT_.out HW_.out (by kernel_rfl)) (fun _ _ _ h=>h) (Or.inl ⟨by rfl,?_⟩) hHeld ?_ ?_;rotate_left
             ·rintro w' ⟨s0,s1,s2,s3,s4,s5,s6⟩;go_simp;with_reducible rfl
             rotate_left
             ·simp only [Act.put,List.setIfInBounds_toArray,List.set_cons_zero,List.set_cons_succ,i64_w,i32_w];rfl
             refine take_ (i:=16) (N:=some 52) (v:=?_) (a':=?_) #[true,true,true,true,true,true,true,true,true,true,true,true,true,true,true,true,true,false,false,false,false,false,false,false,false,false,false,false] rfl rfl (take_ofW HT_.out HW_.out (by kernel_rfl)) (fun _ _ _ h=>h) (Or.inl ⟨by rfl,?_⟩) hHeld ?_ ?_;rotate_left
             ·rintro w' ⟨s0,s1,s2,s3,s4,s5,s6⟩;go_simp;with_reducible rfl
             rotate_left
             ·simp only [Act.put,List.setIfInBounds_toArray,List.set_cons_zero,List.set_cons_succ,i64_w,i32_w];rfl
             refine pure_ (i:=17) (N:=some 53) (v:=?_) (a':=?_) #[true,true,true,true,true,true,true,true,true,true,true,true,true,true,true,true,true,true,false,false,false,false,false,false,false,false,false,false] rfl rfl (any_of HT_.out (by kernel_rfl)) (fun _ _ _ h=>h) (Or.inl ⟨by rfl,?_⟩) ?_ ?_;rotate_left
             ·intro w';go_simp;with_reducible rfl
             rotate_left
             ·simp only [Act.put,List.setIfInBounds_toArray,List.set_cons_zero,List.set_cons_succ,i64_w,i32_w];rfl
             refine pure_ (i:=18) (N:=some 54) (v:=?_) (a':=?_) #[true,true,true,true,true,true,true,true,true,true,true,true,true,true,true,true,true,true,true,false,false,false,false,false,false,false,false,false] rfl rfl (any_of HT_.out (by kernel_rfl)) (fun _ _ _ h=>h) (Or.inl ⟨by rfl,?_⟩) ?_ ?_;rotate_left
             ·intro w';go_simp;with_reducible rfl
             rotate_left
             ·simp only [Act.put,List.setIfInBounds_toArray,List.set_cons_zero,List.set_cons_succ,i64_w,i32_w];rfl
             refine pure_ (i:=19) (N:=some 55) (v:=?_) (a':=?_) #[true,true,true,true,true,true,true,true,true,true,true,true,true,true,true,true,true,true,true,true,false,false,false,false,false,false,false,false] rfl rfl (any_of HT_.out (by kernel_rfl)) (fun _ _ _ h=>h) (Or.inl ⟨by rfl,?_⟩) ?_ ?_;rotate_left
             ·intro w';go_simp;with_reducible rfl
             rotate_left
             ·simp only [Act.put,List.setIfInBounds_toArray,List.set_cons_zero,List.set_cons_succ,i64_w,i32_w];rfl
             refine pure_ (i:=20) (N:=some 56) (v:=?_) (a':=?_) #[true,true,true,true,true,true,true,true,true,true,true,true,true,true,true,true,true,true,true,true,true,false,false,false,false,false,false,false] rfl rfl (any_of HT_.out (by kernel_rfl)) (fun _ _ _ h=>h) (Or.inl ⟨by rfl,?_⟩) ?_ ?_;rotate_left
             ·intro w';go_simp;with_reducible rfl
             rotate_left
             ·simp only [Act.put,List.setIfInBounds_toArray,List.set_cons_zero,List.set_cons_succ,i64_w,i32_w];rfl
             refine pure_ (i:=21) (N:=some 57) (v:=undef) (a':=?_) #[true,true,true,true,true,true,true,true,true,true,true,true,true,true,true,true,true,true,true,true,true,true,false,false,false,false,false,false] rfl rfl (any_of HT_.out (by kernel_rfl)) (fun _ _ _ h=>h) (Or.inr ⟨by rfl,rfl⟩) ?_ ?_;rotate_left
             ·simp only [Act.put,List.setIfInBounds_toArray,List.set_cons_zero,List.set_cons_succ,i64_w,i32_w];rfl
             refine pure_ (i:=22) (N:=some 58) (v:=undef) (a':=?_) #[true,true,true,true,true,true,true,true,true,true,true,true,true,true,true,true,true,true,true,true,true,true,true,false,false,false,false,false] rfl rfl (any_of HT_.out (by kernel_rfl)) (fun _ _ _ h=>h) (Or.inr ⟨by rfl,rfl⟩) ?_ ?_;rotate_left
             ·simp only [Act.put,List.setIfInBounds_toArray,List.set_cons_zero,List.set_cons_succ,i64_w,i32_w];rfl
             refine pure_ (i:=23) (N:=some 59) (v:=undef) (a':=?_) #[true,true,true,true,true,true,true,true,true,true,true,true,true,true,true,true,true,true,true,true,true,true,true,true,false,false,false,false] rfl rfl (any_of HT_.out (by kernel_rfl)) (fun _ _ _ h=>h) (Or.inr ⟨by rfl,rfl⟩) ?_ ?_;rotate_left
             ·simp only [Act.put,List.setIfInBounds_toArray,List.set_cons_zero,List.set_cons_succ,i64_w,i32_w];rfl
             refine pure_ (i:=24) (N:=some 60) (v:=undef) (a':=?_) #[true,true,true,true,true,true,true,true,true,true,true,true,true,true,true,true,true,true,true,true,true,true,true,true,true,false,false,false] rfl rfl (any_of HT_.out (by kernel_rfl)) (fun _ _ _ h=>h) (Or.inr ⟨by rfl,rfl⟩) ?_ ?_;rotate_left
             ·simp only [Act.put,List.setIfInBounds_toArray,List.set_cons_zero,List.set_cons_succ,i64_w,i32_w];rfl
             refine pure_ (i:=25) (N:=some 61) (v:=undef) (a':=?_) #[true,true,true,true,true,true,true,true,true,true,true,true,true,true,true,true,true,true,true,true,true,true,true,true,true,true,false,false] rfl rfl (any_of HT_.out (by kernel_rfl)) (fun _ _ _ h=>h) (Or.inr ⟨by rfl,rfl⟩) ?_ ?_;rotate_left
             ·simp only [Act.put,List.setIfInBounds_toArray,List.set_cons_zero,List.set_cons_succ,i64_w,i32_w];rfl
             refine pure_ (i:=26) (N:=some 62) (v:=undef) (a':=?_) #[true,true,true,true,true,true,true,true,true,true,true,true,true,true,true,true,true,true,true,true,true,true,true,true,true,true,true,false] rfl rfl (any_of HT_.out (by kernel_rfl)) (fun _ _ _ h=>h) (Or.inr ⟨by rfl,rfl⟩) ?_ ?_;rotate_left
             ·simp only [Act.put,List.setIfInBounds_toArray,List.set_cons_zero,List.set_cons_succ,i64_w,i32_w];rfl
             refine pure_ (i:=27) (N:=some 63) (v:=?_) (a':=?_) #[true,true,true,true,true,true,true,true,true,true,true,true,true,true,true,true,true,true,true,true,true,true,true,true,true,true,true,true] rfl rfl (any_of HT_.out (by kernel_rfl)) (fun _ _ _ h=>h) (Or.inl ⟨by rfl,?_⟩) ?_ ?_;rotate_left
             ·intro w';go_simp;with_reducible rfl
             rotate_left
             ·simp only [Act.put,List.setIfInBounds_toArray,List.set_cons_zero,List.set_cons_succ,i64_w,i32_w];rfl
             refine done_ (done_of HT_.out (by kernel_rfl)) ?_
             try go_wp2
             go_meet
             case rel=>exact ⟨_,(true),(by first | rfl | (simp;done) | (simp [*];done)),H',⟨by have:=HJ1.out;have:=HK2.out;first | omega | exact Nat.le_refl _⟩,⟨bs BK1669⟩,⟨bs BK1683⟩,⟨hs2 HB GE1669 GE1683⟩⟩
            rw [if_neg c28] at H;have c28b0 : decide (((rd_T147 l0_0 x3_2).f0) ≤ ((rd_T147 l0_0 (ji25)).f0)) = false:=decide_eq_false c28;clear c28;replace H:=Option.bind_eq_some_iff.mp H;obtain ⟨t1686,A310,H⟩:=H;replace H : (spec_StoreOk.j2 k2 x3_2 (!t1686) l0_0 l0_1 a0_2 ((rd_T147 l0_0 x3_2).f0) ((rd_T147 l0_0 x3_2).f1)) = some r:=H;have A31:=Aside0.mk A310;clear A310;have H':=Aside0.mk H;clear H
            try go_wp2
            have n0_ : Aside0 (((w19.setCell ⟨gb1683,0,none⟩ (.int .i64 ((rd_T147 l0_0 x3_2).f0))).setCell ⟨gb1683,1,none⟩ (.int .i64 ((rd_T147 l0_0 x3_2).f1))).heap[gb1669]? = some (.cells #[.slice (some ad1682) l0_0.length c0_0,.slice A0_1 l0_1.length c0_1,.int .i64 a0_2] 83 (0,0))):=⟨by (with_reducible repeat (first | refine blk_drewN ?_ _ | refine blk_drew ?_ | refine blk_alloc ?_ _));refine blk_far ?_ NB1669_1683.out _;(with_reducible repeat (first | refine blk_drewN ?_ _ | refine blk_drew ?_ | refine blk_alloc ?_ _));refine blk_far ?_ NB1669_1683.out _;(with_reducible repeat (first | refine blk_drewN ?_ _ | refine blk_drew ?_ | refine blk_alloc ?_ _));exact BK1669.out⟩;have n1_ : Aside0 (((w19.setCell ⟨gb1683,0,none⟩ (.int .i64 ((rd_T147 l0_0 x3_2).f0))).setCell ⟨gb1683,1,none⟩ (.int .i64 ((rd_T147 l0_0 x3_2).f1))).heap[gb1683]? = some (.cells #[.int .i64 ((rd_T147 l0_0 x3_2).f0),.int .i64 ((rd_T147 l0_0 x3_2).f1)] 147 (0,0))):=⟨by (with_reducible repeat (first | refine blk_drewN ?_ _ | refine blk_drew ?_ | refine blk_alloc ?_ _));refine blk_put (cs:=#[.int .i64 ((rd_T147 l0_0 x3_2).f0),.int .i64 0]) ?_ 1 _ rfl;(with_reducible repeat (first | refine blk_drewN ?_ _ | refine blk_drew ?_ | refine blk_alloc ?_ _));refine blk_put (cs:=#[.int .i64 0,.int .i64 0]) ?_ 0 _ rfl;(with_reducible repeat (first | refine blk_drewN ?_ _ | refine blk_drew ?_ | refine blk_alloc ?_ _));exact BK1683.out⟩;have n2_ : Aside0 (Below w.heap.size w ((w19.setCell ⟨gb1683,0,none⟩ (.int .i64 ((rd_T147 l0_0 x3_2).f0))).setCell ⟨gb1683,1,none⟩ (.int .i64 ((rd_T147 l0_0 x3_2).f1)))):=⟨hs2 HB GE1669 GE1683⟩
            (try clear BK1669)
            (try clear BK1683)
            (try clear HB)
            generalize ((w19.setCell ⟨gb1683,0,none⟩ (.int .i64 ((rd_T147 l0_0 x3_2).f0))).setCell ⟨gb1683,1,none⟩ (.int .i64 ((rd_T147 l0_0 x3_2).f1))) = w32 at n0_ n1_ n2_ ⊢;have BK1669:=n0_;have BK1683:=n1_;have HB:=n2_;clear n0_ n1_ n2_;have n0_:=Aside0.mk (blk_drew BK1669.out);have n1_:=Aside0.mk (blk_drew BK1683.out);have n2_:=Aside0.mk (below_drew1 HB.out);clear BK1669;clear BK1683;clear HB;have BK1669:=n0_;have BK1683:=n1_;have HB:=n2_;clear n0_ n1_ n2_;have p1685 : 0 ≤ ((ji25) : Int):=of_decide_eq_true (by first | (with_reducible assumption) | assumption);have q1685 : (ji25) < (l0_0.length : Int):=of_decide_eq_true (by first | (with_reducible assumption) | assumption);obtain ⟨ad1685,e1685,hx1685_0,hx1685_1⟩:=at_T147 HR0_0.out (ji25) p1685 q1685;have hw1685_1:=hx1685_1;have hw1685_0:=hx1685_0;obtain rfl : ad1682 = ad1685:=(by injection e1685);replace hx1685_0:=(HB.out.cell (World.block_lt_of_cell? w _ hx1685_0)).trans hx1685_0;replace hx1685_1:=(HB.out.cell (World.block_lt_of_cell? w _ hx1685_1)).trans hx1685_1;replace p1685:=eq_true p1685;replace q1685:=eq_true q1685;refine start_ (n:=28) (S:=fun w'=>w'.cell? ⟨gb1683,0,none⟩ = some (.int .i64 ((rd_T147 l0_0 x3_2).f0)) ∧ w'.cell? ⟨gb1683,1,none⟩ = some (.int .i64 ((rd_T147 l0_0 x3_2).f1)) ∧ w'.cell? ⟨gb1669,0,none⟩ = some (.slice (some ad1682) l0_0.length c0_0) ∧ w'.cell? ⟨gb1669,1,none⟩ = some (.slice A0_1 l0_1.length c0_1) ∧ w'.cell? ⟨gb1669,2,none⟩ = some (.int .i64 a0_2) ∧ w'.cell? (ad1682.add (((ji25)).toNat * 2)) = some (.int .i64 ((rd_T147 l0_0 (ji25)).f0)) ∧ w'.cell? ⟨(ad1682.add (((ji25)).toNat * 2)).block,(ad1682.add (((ji25)).toNat * 2)).off + 1,none⟩ = some (.int .i64 ((rd_T147 l0_0 (ji25)).f1))) (ds:=[]) #[false,false,false,false,false,false,false,false,false,false,false,false,false,false,false,false,false,false,false,false,false,false,false,false,false,false,false,false] (by kernel_rfl) rfl rfl ⟨(blk_cell BK1683.out 0).trans rfl,(blk_cell BK1683.out 1).trans rfl,(blk_cell BK1669.out 0).trans rfl,(blk_cell BK1669.out 1).trans rfl,(blk_cell BK1669.out 2).trans rfl,((HB.out.cell (World.block_lt_of_cell? w _ hw1685_0)).trans hw1685_0),((HB.out.cell (World.block_lt_of_cell? w _ hw1685_1)).trans hw1685_1)⟩ (fun hHeld=>?_);refine with_tabW spec_StoreOk.tab7 spec_StoreOk.bits7 (fun HT_ HW_=>?_);generalize w32.drew = w33 at BK1669 BK1683 HB hx1685_0 hx1685_1 hHeld ⊢;refine pure_ (i:=0) (N:=some 36) (v:=?_) (a':=?_) #[true,false,false,false,false,false,false,false,false,false,false,false,false,false,false,false,false,false,false,false,false,false,false,false,false,false,false,false] rfl rfl (any_of HT_.out (by kernel_rfl)) (fun _ _ _ h=>h) (Or.inl ⟨by rfl,?_⟩) ?_ ?_;rotate_left
            ·intro w';go_simp;with_reducible rfl
            rotate_left
            ·simp only [Act.put,List.setIfInBounds_toArray,List.set_cons_zero,List.set_cons_succ,i64_w,i32_w];rfl
            refine take_ (i:=1) (N:=some 37) (v:=?_) (a':=?_) #[true,true,false,false,false,false,false,false,false,false,false,false,false,false,false,false,false,false,false,false,false,false,false,false,false,false,false,false] rfl rfl (take_ofW HT_.out HW_.out (by kernel_rfl)) (fun _ _ _ h=>h) (Or.inl ⟨by rfl,?_⟩) hHeld ?_ ?_;rotate_left
            ·rintro w' ⟨s0,s1,s2,s3,s4,s5,s6⟩;go_simp;with_reducible rfl
            rotate_left
            ·simp only [Act.put,List.setIfInBounds_toArray,List.set_cons_zero,List.set_cons_succ,i64_w,i32_w];rfl
            refine one_ (i:=2) (N:=some 38) #[true,true,true,false,false,false,false,false,false,false,false,false,false,false,false,false,false,false,false,false,false,false,false,false,false,false,false,false] rfl rfl (one_of HT_.out (by kernel_rfl)) (by decide) (fun K hK=>?_);refine goes_ Try.func86 (by kernel_rfl) rfl #[.int .i64 ((rd_T147 l0_0 x3_2).f0),.int .i64 1,.int .i64 9] (by rfl) rfl rfl (by (try simp only [List.map_toArray,List.map_cons,List.map_nil]);first | done | rfl | (simp only [List.length_drop,List.length_take];rfl)) ?_;with_reducible refine (spec_l01In.calls ((rd_T147 l0_0 x3_2).f0) 1 9 true _ A22.out).mono ?_
            rintro e w' ⟨rfl,⟨nd,rfl⟩⟩;refine ⟨_,rfl,?_⟩;refine hK.out _ _ ⟨(blk_cell BK1683.out 0).trans rfl,(blk_cell BK1683.out 1).trans rfl,(blk_cell BK1669.out 0).trans rfl,(blk_cell BK1669.out 1).trans rfl,(blk_cell BK1669.out 2).trans rfl,((HB.out.cell (World.block_lt_of_cell? w _ hw1685_0)).trans hw1685_0),((HB.out.cell (World.block_lt_of_cell? w _ hw1685_1)).trans hw1685_1)⟩ (fun hHeld=>?_);clear hK K;refine norm_ (a':=?_) ?_ ?_;rotate_left
            ·show Act.put _ (some 38) _ = _;simp only [Act.put,List.setIfInBounds_toArray,List.set_cons_zero,List.set_cons_succ,i64_w,i32_w];rfl
            refine pure_ (i:=3) (N:=some 39) (v:=?_) (a':=?_) #[true,true,true,true,false,false,false,false,false,false,false,false,false,false,false,false,false,false,false,false,false,false,false,false,false,false,false,false] rfl rfl (any_of HT_.out (by kernel_rfl)) (fun _ _ _ h=>h) (Or.inl ⟨by rfl,?_⟩) ?_ ?_;rotate_left
            ·intro w';go_simp;with_reducible rfl
            rotate_left
            ·simp only [Act.put,List.setIfInBounds_toArray,List.set_cons_zero,List.set_cons_succ,i64_w,i32_w];rfl
            refine pure_ (i:=4) (N:=some 40) (v:=?_) (a':=?_) #[true,true,true,true,true,false,false,false,false,false,false,false,false,false,false,false,false,false,false,false,false,false,false,false,false,false,false,false] rfl rfl (any_of HT_.out (by kernel_rfl)) (fun _ _ _ h=>h) (Or.inl ⟨by rfl,?_⟩) ?_ ?_;rotate_left
            ·intro w';go_simp;with_reducible rfl
            rotate_left
            ·simp only [Act.put,List.setIfInBounds_toArray,List.set_cons_zero,List.set_cons_succ,i64_w,i32_w];rfl
            refine pure_ (i:=5) (N:=some 41) (v:=?_) (a':=?_) #[true,true,true,true,true,true,false,false,false,false,false,false,false,false,false,false,false,false,false,false,false,false,false,false,false,false,false,false] rfl rfl (any_of HT_.out (by kernel_rfl)) (fun _ _ _ h=>h) (Or.inl ⟨by rfl,?_⟩) ?_ ?_;rotate_left
            ·intro w';go_simp;with_reducible rfl
            rotate_left
            ·simp only [Act.put,List.setIfInBounds_toArray,List.set_cons_zero,List.set_cons_succ,i64_w,i32_w];rfl
            refine pure_ (i:=6) (N:=some 42) (v:=?_) (a':=?_) #[true,true,true,true,true,true,true,false,false,false,false,false,false,false,false,false,false,false,false,false,false,false,false,false,false,false,false,false] rfl rfl (any_of HT_.out (by kernel_rfl)) (fun _ _ _ h=>h) (Or.inl ⟨by rfl,?_⟩) ?_ ?_;rotate_left
            ·intro w';go_simp;with_reducible rfl
            rotate_left
            ·simp only [Act.put,List.setIfInBounds_toArray,List.set_cons_zero,List.set_cons_succ,i64_w,i32_w];rfl
            refine pure_ (i:=7) (N:=some 43) (v:=?_) (a':=?_) #[true,true,true,true,true,true,true,true,false,false,false,false,false,false,false,false,false,false,false,false,false,false,false,false,false,false,false,false] rfl rfl (any_of HT_.out (by kernel_rfl)) (fun _ _ _ h=>h) (Or.inl ⟨by rfl,?_⟩) ?_ ?_;rotate_left
            ·intro w';go_simp;with_reducible rfl
            rotate_left
            ·simp only [Act.put,List.setIfInBounds_toArray,List.set_cons_zero,List.set_cons_succ,i64_w,i32_w];rfl
            refine pure_ (i:=8) (N:=some 44) (v:=?_) (a':=?_) #[true,true,true,true,true,true,true,true,true,false,false,false,false,false,false,false,false,false,false,false,false,false,false,false,false,false,false,false] rfl rfl (any_of HT_.out (by kernel_rfl)) (fun _ _ _ h=>h) (Or.inl ⟨by rfl,?_⟩) ?_ ?_;rotate_left
            ·intro w';go_simp;with_reducible rfl
            rotate_left
            ·simp only [Act.put,List.setIfInBounds_toArray,List.set_cons_zero,List.set_cons_succ,i64_w,i32_w];rfl
            refine pure_ (i:=10) (N:=some 46) (v:=?_) (a':=?_) #[true,true,true,true,true,true,true,true,true,false,true,false,false,false,false,false,false,false,false,false,false,false,false,false,false,false,false,false] rfl rfl (any_of HT_.out (by kernel_rfl)) (fun _ _ _ h=>h) (Or.inl ⟨by rfl,?_⟩) ?_ ?_;rotate_left
            ·intro w';go_simp;with_reducible rfl
            rotate_left
            ·simp only [Act.put,List.setIfInBounds_toArray,List.set_cons_zero,List.set_cons_succ,i64_w,i32_w];rfl
            refine pure_ (i:=11) (N:=some 47) (v:=?_) (a':=?_) #[true,true,true,true,true,true,true,true,true,false,true,true,false,false,false,false,false,false,false,false,false,false,false,false,false,false,false,false] rfl rfl (any_of HT_.out (by kernel_rfl)) (fun _ _ _ h=>h) (Or.inl ⟨by rfl,?_⟩) ?_ ?_;rotate_left
            ·intro w';go_simp;with_reducible rfl
            rotate_left
            ·simp only [Act.put,List.setIfInBounds_toArray,List.set_cons_zero,List.set_cons_succ,i64_w,i32_w];rfl
            refine pure_ (i:=15) (N:=some 51) (v:=?_) (a':=?_) #[true,true,true,true,true,true,true,true,true,false,true,true,false,false,false,true,false,false,false,false,false,false,false,false,false,false,false,false] rfl rfl (any_of HT_.out (by kernel_rfl)) (fun _ _ _ h=>h) (Or.inl ⟨by rfl,?_⟩) ?_ ?_;rotate_left
            ·intro w';go_simp;with_reducible rfl
            rotate_left
            ·simp only [Act.put,List.setIfInBounds_toArray,List.set_cons_zero,List.set_cons_succ,i64_w,i32_w];rfl
            refine take_ (i:=9) (N:=some 45) (v:=?_) (a':=?_) #[true,true,true,true,true,true,true,true,true,true,true,true,false,false,false,true,false,false,false,false,false,false,false,false,false,false,false,false] rfl rfl (take_ofW HT_.out HW_.out (by kernel_rfl)) (fun _ _ _ h=>h) (Or.inl ⟨by rfl,?_⟩) hHeld ?_ ?_;rotate_left
            ·rintro w' ⟨s0,s1,s2,s3,s4,s5,s6⟩;go_simp;with_reducible rfl
            rotate_left
            ·simp only [Act.put,List.setIfInBounds_toArray,List.set_cons_zero,List.set_cons_succ,i64_w,i32_w];rfl
            refine pure_ (i:=12) (N:=some 48) (v:=?_) (a':=?_) #[true,true,true,true,true,true,true,true,true,true,true,true,true,false,false,true,false,false,false,false,false,false,false,false,false,false,false,false] rfl rfl (any_of HT_.out (by kernel_rfl)) (fun _ _ _ h=>h) (Or.inl ⟨by rfl,?_⟩) ?_ ?_;rotate_left
            ·intro w';go_simp;with_reducible rfl
            rotate_left
            ·simp only [Act.put,List.setIfInBounds_toArray,List.set_cons_zero,List.set_cons_succ,i64_w,i32_w];rfl
            refine pure_ (i:=13) (N:=some 49) (v:=?_) (a':=?_) #[true,true,true,true,true,true,true,true,true,true,true,true,true,true,false,true,false,false,false,false,false,false,false,false,false,false,false,false] rfl rfl (any_of HT_.out (by kernel_rfl)) (fun _ _ _ h=>h) (Or.inl ⟨by rfl,?_⟩) ?_ ?_;rotate_left
            ·intro w';go_simp;with_reducible rfl
            rotate_left
            ·simp only [Act.put,List.setIfInBounds_toArray,List.set_cons_zero,List.set_cons_succ,i64_w,i32_w];rfl
            refine take_ (i:=14) (N:=some 50) (v:=?_) (a':=?_) #[true,true,true,true,true,true,true,true,true,true,true,true,true,true,true,true,false,false,false,false,false,false,false,false,false,false,false,false] rfl rfl (take_ofW HT_.out HW_.out (by kernel_rfl)) (fun _ _ _ h=>h) (Or.inl ⟨by rfl,?_⟩) hHeld ?_ ?_;rotate_left
            ·rintro w' ⟨s0,s1,s2,s3,s4,s5,s6⟩;go_simp;with_reducible rfl
            rotate_left
            ·simp only [Act.put,List.setIfInBounds_toArray,List.set_cons_zero,List.set_cons_succ,i64_w,i32_w];rfl
            refine take_ (i:=16) (N:=some 52) (v:=?_) (a':=?_) #[true,true,true,true,true,true,true,true,true,true,true,true,true,true,true,true,true,false,false,false,false,false,false,false,false,false,false,false] rfl rfl (take_ofW HT_.out HW_.out (by kernel_rfl)) (fun _ _ _ h=>h) (Or.inl ⟨by rfl,?_⟩) hHeld ?_ ?_;rotate_left
            ·rintro w' ⟨s0,s1,s2,s3,s4,s5,s6⟩;go_simp;with_reducible rfl
            rotate_left
            ·simp only [Act.put,List.setIfInBounds_toArray,List.set_cons_zero,List.set_cons_succ,i64_w,i32_w];rfl
            refine pure_ (i:=17) (N:=some 53) (v:=?_) (a':=?_) #[true,true,true,true,true,true,true,true,true,true,true,true,true,true,true,true,true,true,false,false,false,false,false,false,false,false,false,false] rfl rfl (any_of HT_.out (by kernel_rfl)) (fun _ _ _ h=>h) (Or.inl ⟨by rfl,?_⟩) ?_ ?_;rotate_left
            ·intro w';go_simp;with_reducible rfl
            rotate_left
            ·simp only [Act.put,List.setIfInBounds_toArray,List.set_cons_zero,List.set_cons_succ,i64_w,i32_w];rfl
            refine pure_ (i:=18) (N:=some 54) (v:=?_) (a':=?_) #[true,true,true,true,true,true,true,true,true,true,true,true,true,true,true,true,true,true,true,false,false,false,false,false,false,false,false,false] rfl rfl (any_of HT_.out (by kernel_rfl)) (fun _ _ _ h=>h) (Or.inl ⟨by rfl,?_⟩) ?_ ?_;rotate_left
            ·intro w';go_simp;with_reducible rfl
            rotate_left
            ·simp only [Act.put,List.setIfInBounds_toArray,List.set_cons_zero,List.set_cons_succ,i64_w,i32_w];rfl
            refine pure_ (i:=19) (N:=some 55) (v:=?_) (a':=?_) #[true,true,true,true,true,true,true,true,true,true,true,true,true,true,true,true,true,true,true,true,false,false,false,false,false,false,false,false] rfl rfl (any_of HT_.out (by kernel_rfl)) (fun _ _ _ h=>h) (Or.inl ⟨by rfl,?_⟩) ?_ ?_;rotate_left
            ·intro w';go_simp;with_reducible rfl
            rotate_left
            ·simp only [Act.put,List.setIfInBounds_toArray,List.set_cons_zero,List.set_cons_succ,i64_w,i32_w];rfl
            refine pure_ (i:=20) (N:=some 56) (v:=?_) (a':=?_) #[true,true,true,true,true,true,true,true,true,true,true,true,true,true,true,true,true,true,true,true,true,false,false,false,false,false,false,false] rfl rfl (any_of HT_.out (by kernel_rfl)) (fun _ _ _ h=>h) (Or.inl ⟨by rfl,?_⟩) ?_ ?_;rotate_left
            ·intro w';go_simp;with_reducible rfl
            rotate_left
            ·simp only [Act.put,List.setIfInBounds_toArray,List.set_cons_zero,List.set_cons_succ,i64_w,i32_w];rfl
            refine pure_ (i:=21) (N:=some 57) (v:=?_) (a':=?_) #[true,true,true,true,true,true,true,true,true,true,true,true,true,true,true,true,true,true,true,true,true,true,false,false,false,false,false,false] rfl rfl (any_of HT_.out (by kernel_rfl)) (fun _ _ _ h=>h) (Or.inl ⟨by rfl,?_⟩) ?_ ?_;rotate_left
            ·intro w';go_simp;with_reducible rfl
            rotate_left
            ·simp only [Act.put,List.setIfInBounds_toArray,List.set_cons_zero,List.set_cons_succ,i64_w,i32_w];rfl
            refine pure_ (i:=23) (N:=some 59) (v:=?_) (a':=?_) #[true,true,true,true,true,true,true,true,true,true,true,true,true,true,true,true,true,true,true,true,true,true,false,true,false,false,false,false] rfl rfl (any_of HT_.out (by kernel_rfl)) (fun _ _ _ h=>h) (Or.inl ⟨by rfl,?_⟩) ?_ ?_;rotate_left
            ·intro w';go_simp;with_reducible rfl
            rotate_left
            ·simp only [Act.put,List.setIfInBounds_toArray,List.set_cons_zero,List.set_cons_succ,i64_w,i32_w];rfl
            refine take_ (i:=22) (N:=some 58) (v:=?_) (a':=?_) #[true,true,true,true,true,true,true,true,true,true,true,true,true,true,true,true,true,true,true,true,true,true,true,true,false,false,false,false] rfl rfl (take_ofW HT_.out HW_.out (by kernel_rfl)) (fun _ _ _ h=>h) (Or.inl ⟨by rfl,?_⟩) hHeld ?_ ?_;rotate_left
            ·rintro w' ⟨s0,s1,s2,s3,s4,s5,s6⟩;go_simp;with_reducible rfl
            rotate_left
            ·simp only [Act.put,List.setIfInBounds_toArray,List.set_cons_zero,List.set_cons_succ,i64_w,i32_w];rfl
            refine take_ (i:=24) (N:=some 60) (v:=?_) (a':=?_) #[true,true,true,true,true,true,true,true,true,true,true,true,true,true,true,true,true,true,true,true,true,true,true,true,true,false,false,false] rfl rfl (take_ofW HT_.out HW_.out (by kernel_rfl)) (fun _ _ _ h=>h) (Or.inl ⟨by rfl,?_⟩) hHeld ?_ ?_;rotate_left
            ·rintro w' ⟨s0,s1,s2,s3,s4,s5,s6⟩;go_simp;with_reducible rfl
            rotate_left
            ·simp only [Act.put,List.setIfInBounds_toArray,List.set_cons_zero,List.set_cons_succ,i64_w,i32_w];rfl
            refine one_ (i:=25) (N:=some 61) #[true,true,true,true,true,true,true,true,true,true,true,true,true,true,true,true,true,true,true,true,true,true,true,true,true,true,false,false] rfl rfl (one_of HT_.out (by kernel_rfl)) (by decide) (fun K hK=>?_);refine goes_ Try.func100 (by kernel_rfl) rfl #[.agg #[.slice A0_1 l0_1.length c0_1],.int .i64 ((rd_T147 l0_0 x3_2).f1)] (by rfl) rfl rfl (by (try simp only [List.map_toArray,List.map_cons,List.map_nil]);first | done | rfl | (simp only [List.length_drop,List.length_take];rfl)) ?_;with_reducible refine (spec_l11Root.calls _ _ l0_1 ((rd_T147 l0_0 x3_2).f1) t1686 _ ?side1 ?side2 A31.out).mono ?_
            (case side1=>repeat (first | exact (Kd.C_below HR0_1.out (hs2 HB GE1669 GE1683)) | (with_reducible refine Kd.C_alloc ?_ _) | (with_reducible refine Kd.C_drewN ?_ _) | (with_reducible refine Kd.C_drew ?_)))
            (case side2=>exact HC0_1.out)
            rintro e w34 ⟨rfl,hb⟩;refine ⟨_,rfl,?_⟩;have n0_:=Aside0.mk (blk_below (g:=gb1669) (o:=.cells #[.slice (some ad1682) l0_0.length c0_0,.slice A0_1 l0_1.length c0_1,.int .i64 a0_2] 83 (0,0)) (bs BK1669) hb);have n1_:=Aside0.mk (blk_below (g:=gb1683) (o:=.cells #[.int .i64 ((rd_T147 l0_0 x3_2).f0),.int .i64 ((rd_T147 l0_0 x3_2).f1)] 147 (0,0)) (bs BK1683) hb);have n2_:=Aside0.mk (below_step (hs2 HB GE1669 GE1683) hb);clear BK1669;clear BK1683;clear HB;have BK1669:=n0_;have BK1683:=n1_;have HB:=n2_;clear n0_ n1_ n2_
            (try clear hb)
            (try clear hb2)
            (try clear hk)
            (try clear hi)
            refine hK.out _ _ ⟨(blk_cell BK1683.out 0).trans rfl,(blk_cell BK1683.out 1).trans rfl,(blk_cell BK1669.out 0).trans rfl,(blk_cell BK1669.out 1).trans rfl,(blk_cell BK1669.out 2).trans rfl,((HB.out.cell (World.block_lt_of_cell? w _ hw1685_0)).trans hw1685_0),((HB.out.cell (World.block_lt_of_cell? w _ hw1685_1)).trans hw1685_1)⟩ (fun hHeld=>?_);clear hK K;refine norm_ (a':=?_) ?_ ?_;rotate_left
            ·show Act.put _ (some 61) _ = _;simp only [Act.put,List.setIfInBounds_toArray,List.set_cons_zero,List.set_cons_succ,i64_w,i32_w];rfl
            refine pure_ (i:=26) (N:=some 62) (v:=?_) (a':=?_) #[true,true,true,true,true,true,true,true,true,true,true,true,true,true,true,true,true,true,true,true,true,true,true,true,true,true,true,false] rfl rfl (any_of HT_.out (by kernel_rfl)) (fun _ _ _ h=>h) (Or.inl ⟨by rfl,?_⟩) ?_ ?_;rotate_left
            ·intro w';go_simp;with_reducible rfl
            rotate_left
            ·simp only [Act.put,List.setIfInBounds_toArray,List.set_cons_zero,List.set_cons_succ,i64_w,i32_w];rfl
            refine pure_ (i:=27) (N:=some 63) (v:=?_) (a':=?_) #[true,true,true,true,true,true,true,true,true,true,true,true,true,true,true,true,true,true,true,true,true,true,true,true,true,true,true,true] rfl rfl (any_of HT_.out (by kernel_rfl)) (fun _ _ _ h=>h) (Or.inl ⟨by rfl,?_⟩) ?_ ?_;rotate_left
            ·intro w';go_simp;with_reducible rfl
            rotate_left
            ·simp only [Act.put,List.setIfInBounds_toArray,List.set_cons_zero,List.set_cons_succ,i64_w,i32_w];rfl
            refine done_ (done_of HT_.out (by kernel_rfl)) ?_
            try go_wp2
            go_meet
            case rel=>exact ⟨_,(!t1686),(by first | rfl | (simp;done) | (simp [*];done)),H',⟨by have:=HJ1.out;have:=HK2.out;first | omega | exact Nat.le_refl _⟩,⟨bs BK1669⟩,⟨bs BK1683⟩,⟨hs2 HB GE1669 GE1683⟩⟩
           rw [if_neg c27] at H;exact absurd H (by simp)
          rw [if_neg c26] at H;exact absurd H (by simp)
         rw [if_neg c24] at H;have c24b0 : decide (0 < x3_2) = false:=decide_eq_false c24;clear c24
         (first | rw [c24b0] | (simp only [i64_w,i32_w];rw [c24b0]) | skip)
         replace H:=Option.bind_eq_some_iff.mp H;obtain ⟨t1687,A350,H⟩:=H;replace H : (spec_StoreOk.j2 k2 x3_2 (!t1687) l0_0 l0_1 a0_2 ((rd_T147 l0_0 x3_2).f0) ((rd_T147 l0_0 x3_2).f1)) = some r:=H;have A35:=Aside0.mk A350;clear A350;have H':=Aside0.mk H;clear H
         try go_wp2
         have n0_ : Aside0 (((w19.setCell ⟨gb1683,0,none⟩ (.int .i64 ((rd_T147 l0_0 x3_2).f0))).setCell ⟨gb1683,1,none⟩ (.int .i64 ((rd_T147 l0_0 x3_2).f1))).heap[gb1669]? = some (.cells #[.slice (some ad1682) l0_0.length c0_0,.slice A0_1 l0_1.length c0_1,.int .i64 a0_2] 83 (0,0))):=⟨by (with_reducible repeat (first | refine blk_drewN ?_ _ | refine blk_drew ?_ | refine blk_alloc ?_ _));refine blk_far ?_ NB1669_1683.out _;(with_reducible repeat (first | refine blk_drewN ?_ _ | refine blk_drew ?_ | refine blk_alloc ?_ _));refine blk_far ?_ NB1669_1683.out _;(with_reducible repeat (first | refine blk_drewN ?_ _ | refine blk_drew ?_ | refine blk_alloc ?_ _));exact BK1669.out⟩;have n1_ : Aside0 (((w19.setCell ⟨gb1683,0,none⟩ (.int .i64 ((rd_T147 l0_0 x3_2).f0))).setCell ⟨gb1683,1,none⟩ (.int .i64 ((rd_T147 l0_0 x3_2).f1))).heap[gb1683]? = some (.cells #[.int .i64 ((rd_T147 l0_0 x3_2).f0),.int .i64 ((rd_T147 l0_0 x3_2).f1)] 147 (0,0))):=⟨by (with_reducible repeat (first | refine blk_drewN ?_ _ | refine blk_drew ?_ | refine blk_alloc ?_ _));refine blk_put (cs:=#[.int .i64 ((rd_T147 l0_0 x3_2).f0),.int .i64 0]) ?_ 1 _ rfl;(with_reducible repeat (first | refine blk_drewN ?_ _ | refine blk_drew ?_ | refine blk_alloc ?_ _));refine blk_put (cs:=#[.int .i64 0,.int .i64 0]) ?_ 0 _ rfl;(with_reducible repeat (first | refine blk_drewN ?_ _ | refine blk_drew ?_ | refine blk_alloc ?_ _));exact BK1683.out⟩;have n2_ : Aside0 (Below w.heap.size w ((w19.setCell ⟨gb1683,0,none⟩ (.int .i64 ((rd_T147 l0_0 x3_2).f0))).setCell ⟨gb1683,1,none⟩ (.int .i64 ((rd_T147 l0_0 x3_2).f1)))):=⟨hs2 HB GE1669 GE1683⟩
         (try clear BK1669)
         (try clear BK1683)
         (try clear HB)
         generalize ((w19.setCell ⟨gb1683,0,none⟩ (.int .i64 ((rd_T147 l0_0 x3_2).f0))).setCell ⟨gb1683,1,none⟩ (.int .i64 ((rd_T147 l0_0 x3_2).f1))) = w36 at n0_ n1_ n2_ ⊢;have BK1669:=n0_;have BK1683:=n1_;have HB:=n2_;clear n0_ n1_ n2_;have n0_:=Aside0.mk (blk_drew BK1669.out);have n1_:=Aside0.mk (blk_drew BK1683.out);have n2_:=Aside0.mk (below_drew1 HB.out);clear BK1669;clear BK1683;clear HB;have BK1669:=n0_;have BK1683:=n1_;have HB:=n2_;clear n0_ n1_ n2_;refine start_ (n:=28) (S:=fun w'=>w'.cell? ⟨gb1683,0,none⟩ = some (.int .i64 ((rd_T147 l0_0 x3_2).f0)) ∧ w'.cell? ⟨gb1683,1,none⟩ = some (.int .i64 ((rd_T147 l0_0 x3_2).f1)) ∧ w'.cell? ⟨gb1669,0,none⟩ = some (.slice (some ad1682) l0_0.length c0_0) ∧ w'.cell? ⟨gb1669,1,none⟩ = some (.slice A0_1 l0_1.length c0_1) ∧ w'.cell? ⟨gb1669,2,none⟩ = some (.int .i64 a0_2)) (ds:=[]) #[false,false,false,false,false,false,false,false,false,false,false,false,false,false,false,false,false,false,false,false,false,false,false,false,false,false,false,false] (by kernel_rfl) rfl rfl ⟨(blk_cell BK1683.out 0).trans rfl,(blk_cell BK1683.out 1).trans rfl,(blk_cell BK1669.out 0).trans rfl,(blk_cell BK1669.out 1).trans rfl,(blk_cell BK1669.out 2).trans rfl⟩ (fun hHeld=>?_);refine with_tabW spec_StoreOk.tab7 spec_StoreOk.bits7 (fun HT_ HW_=>?_);generalize w36.drew = w37 at BK1669 BK1683 HB hHeld ⊢;refine pure_ (i:=0) (N:=some 36) (v:=?_) (a':=?_) #[true,false,false,false,false,false,false,false,false,false,false,false,false,false,false,false,false,false,false,false,false,false,false,false,false,false,false,false] rfl rfl (any_of HT_.out (by kernel_rfl)) (fun _ _ _ h=>h) (Or.inl ⟨by rfl,?_⟩) ?_ ?_;rotate_left
         ·intro w';go_simp;with_reducible rfl
         rotate_left
         ·simp only [Act.put,List.setIfInBounds_toArray,List.set_cons_zero,List.set_cons_succ,i64_w,i32_w];rfl
         refine take_ (i:=1) (N:=some 37) (v:=?_) (a':=?_) #[true,true,false,false,false,false,false,false,false,false,false,false,false,false,false,false,false,false,false,false,false,false,false,false,false,false,false,false] rfl rfl (take_ofW HT_.out HW_.out (by kernel_rfl)) (fun _ _ _ h=>h) (Or.inl ⟨by rfl,?_⟩) hHeld ?_ ?_;rotate_left
         ·rintro w' ⟨s0,s1,s2,s3,s4⟩;go_simp;with_reducible rfl
         rotate_left
         ·simp only [Act.put,List.setIfInBounds_toArray,List.set_cons_zero,List.set_cons_succ,i64_w,i32_w];rfl
         refine one_ (i:=2) (N:=some 38) #[true,true,true,false,false,false,false,false,false,false,false,false,false,false,false,false,false,false,false,false,false,false,false,false,false,false,false,false] rfl rfl (one_of HT_.out (by kernel_rfl)) (by decide) (fun K hK=>?_);refine goes_ Try.func86 (by kernel_rfl) rfl #[.int .i64 ((rd_T147 l0_0 x3_2).f0),.int .i64 1,.int .i64 9] (by rfl) rfl rfl (by (try simp only [List.map_toArray,List.map_cons,List.map_nil]);first | done | rfl | (simp only [List.length_drop,List.length_take];rfl)) ?_;with_reducible refine (spec_l01In.calls ((rd_T147 l0_0 x3_2).f0) 1 9 true _ A22.out).mono ?_
         rintro e w' ⟨rfl,⟨nd,rfl⟩⟩;refine ⟨_,rfl,?_⟩;refine hK.out _ _ ⟨(blk_cell BK1683.out 0).trans rfl,(blk_cell BK1683.out 1).trans rfl,(blk_cell BK1669.out 0).trans rfl,(blk_cell BK1669.out 1).trans rfl,(blk_cell BK1669.out 2).trans rfl⟩ (fun hHeld=>?_);clear hK K;refine norm_ (a':=?_) ?_ ?_;rotate_left
         ·show Act.put _ (some 38) _ = _;simp only [Act.put,List.setIfInBounds_toArray,List.set_cons_zero,List.set_cons_succ,i64_w,i32_w];rfl
         refine pure_ (i:=3) (N:=some 39) (v:=?_) (a':=?_) #[true,true,true,true,false,false,false,false,false,false,false,false,false,false,false,false,false,false,false,false,false,false,false,false,false,false,false,false] rfl rfl (any_of HT_.out (by kernel_rfl)) (fun _ _ _ h=>h) (Or.inl ⟨by rfl,?_⟩) ?_ ?_;rotate_left
         ·intro w';go_simp;with_reducible rfl
         rotate_left
         ·simp only [Act.put,List.setIfInBounds_toArray,List.set_cons_zero,List.set_cons_succ,i64_w,i32_w];rfl
         refine pure_ (i:=4) (N:=some 40) (v:=?_) (a':=?_) #[true,true,true,true,true,false,false,false,false,false,false,false,false,false,false,false,false,false,false,false,false,false,false,false,false,false,false,false] rfl rfl (any_of HT_.out (by kernel_rfl)) (fun _ _ _ h=>h) (Or.inl ⟨by rfl,?_⟩) ?_ ?_;rotate_left
         ·intro w';go_simp;with_reducible rfl
         rotate_left
         ·simp only [Act.put,List.setIfInBounds_toArray,List.set_cons_zero,List.set_cons_succ,i64_w,i32_w];rfl
         refine pure_ (i:=5) (N:=some 41) (v:=?_) (a':=?_) #[true,true,true,true,true,true,false,false,false,false,false,false,false,false,false,false,false,false,false,false,false,false,false,false,false,false,false,false] rfl rfl (any_of HT_.out (by kernel_rfl)) (fun _ _ _ h=>h) (Or.inl ⟨by rfl,?_⟩) ?_ ?_;rotate_left
         ·intro w';go_simp;with_reducible rfl
         rotate_left
         ·simp only [Act.put,List.setIfInBounds_toArray,List.set_cons_zero,List.set_cons_succ,i64_w,i32_w];rfl
         refine pure_ (i:=6) (N:=some 42) (v:=?_) (a':=?_) #[true,true,true,true,true,true,true,false,false,false,false,false,false,false,false,false,false,false,false,false,false,false,false,false,false,false,false,false] rfl rfl (any_of HT_.out (by kernel_rfl)) (fun _ _ _ h=>h) (Or.inl ⟨by rfl,?_⟩) ?_ ?_;rotate_left
         ·intro w';go_simp;with_reducible rfl
         rotate_left
         ·simp only [Act.put,List.setIfInBounds_toArray,List.set_cons_zero,List.set_cons_succ,i64_w,i32_w];rfl
         refine pure_ (i:=7) (N:=some 43) (v:=?_) (a':=?_) #[true,true,true,true,true,true,true,true,false,false,false,false,false,false,false,false,false,false,false,false,false,false,false,false,false,false,false,false] rfl rfl (any_of HT_.out (by kernel_rfl)) (fun _ _ _ h=>h) (Or.inl ⟨by rfl,?_⟩) ?_ ?_;rotate_left
         ·intro w';go_simp;with_reducible rfl
         rotate_left
         ·simp only [Act.put,List.setIfInBounds_toArray,List.set_cons_zero,List.set_cons_succ,i64_w,i32_w];rfl
         refine pure_ (i:=8) (N:=some 44) (v:=undef) (a':=?_) #[true,true,true,true,true,true,true,true,true,false,false,false,false,false,false,false,false,false,false,false,false,false,false,false,false,false,false,false] rfl rfl (any_of HT_.out (by kernel_rfl)) (fun _ _ _ h=>h) (Or.inr ⟨by rfl,rfl⟩) ?_ ?_;rotate_left
         ·simp only [Act.put,List.setIfInBounds_toArray,List.set_cons_zero,List.set_cons_succ,i64_w,i32_w];rfl
         refine pure_ (i:=9) (N:=some 45) (v:=undef) (a':=?_) #[true,true,true,true,true,true,true,true,true,true,false,false,false,false,false,false,false,false,false,false,false,false,false,false,false,false,false,false] rfl rfl (any_of HT_.out (by kernel_rfl)) (fun _ _ _ h=>h) (Or.inr ⟨by rfl,rfl⟩) ?_ ?_;rotate_left
         ·simp only [Act.put,List.setIfInBounds_toArray,List.set_cons_zero,List.set_cons_succ,i64_w,i32_w];rfl
         refine pure_ (i:=10) (N:=some 46) (v:=undef) (a':=?_) #[true,true,true,true,true,true,true,true,true,true,true,false,false,false,false,false,false,false,false,false,false,false,false,false,false,false,false,false] rfl rfl (any_of HT_.out (by kernel_rfl)) (fun _ _ _ h=>h) (Or.inr ⟨by rfl,rfl⟩) ?_ ?_;rotate_left
         ·simp only [Act.put,List.setIfInBounds_toArray,List.set_cons_zero,List.set_cons_succ,i64_w,i32_w];rfl
         refine pure_ (i:=11) (N:=some 47) (v:=undef) (a':=?_) #[true,true,true,true,true,true,true,true,true,true,true,true,false,false,false,false,false,false,false,false,false,false,false,false,false,false,false,false] rfl rfl (any_of HT_.out (by kernel_rfl)) (fun _ _ _ h=>h) (Or.inr ⟨by rfl,rfl⟩) ?_ ?_;rotate_left
         ·simp only [Act.put,List.setIfInBounds_toArray,List.set_cons_zero,List.set_cons_succ,i64_w,i32_w];rfl
         refine pure_ (i:=12) (N:=some 48) (v:=undef) (a':=?_) #[true,true,true,true,true,true,true,true,true,true,true,true,true,false,false,false,false,false,false,false,false,false,false,false,false,false,false,false] rfl rfl (any_of HT_.out (by kernel_rfl)) (fun _ _ _ h=>h) (Or.inr ⟨by rfl,rfl⟩) ?_ ?_;rotate_left
         ·simp only [Act.put,List.setIfInBounds_toArray,List.set_cons_zero,List.set_cons_succ,i64_w,i32_w];rfl
         refine pure_ (i:=13) (N:=some 49) (v:=undef) (a':=?_) #[true,true,true,true,true,true,true,true,true,true,true,true,true,true,false,false,false,false,false,false,false,false,false,false,false,false,false,false] rfl rfl (any_of HT_.out (by kernel_rfl)) (fun _ _ _ h=>h) (Or.inr ⟨by rfl,rfl⟩) ?_ ?_;rotate_left
         ·simp only [Act.put,List.setIfInBounds_toArray,List.set_cons_zero,List.set_cons_succ,i64_w,i32_w];rfl
         refine pure_ (i:=14) (N:=some 50) (v:=undef) (a':=?_) #[true,true,true,true,true,true,true,true,true,true,true,true,true,true,true,false,false,false,false,false,false,false,false,false,false,false,false,false] rfl rfl (any_of HT_.out (by kernel_rfl)) (fun _ _ _ h=>h) (Or.inr ⟨by rfl,rfl⟩) ?_ ?_;rotate_left
         ·simp only [Act.put,List.setIfInBounds_toArray,List.set_cons_zero,List.set_cons_succ,i64_w,i32_w];rfl
         refine pure_ (i:=15) (N:=some 51) (v:=undef) (a':=?_) #[true,true,true,true,true,true,true,true,true,true,true,true,true,true,true,true,false,false,false,false,false,false,false,false,false,false,false,false] rfl rfl (any_of HT_.out (by kernel_rfl)) (fun _ _ _ h=>h) (Or.inr ⟨by rfl,rfl⟩) ?_ ?_;rotate_left
         ·simp only [Act.put,List.setIfInBounds_toArray,List.set_cons_zero,List.set_cons_succ,i64_w,i32_w];rfl
         refine pure_ (i:=16) (N:=some 52) (v:=undef) (a':=?_) #[true,true,true,true,true,true,true,true,true,true,true,true,true,true,true,true,true,false,false,false,false,false,false,false,false,false,false,false] rfl rfl (any_of HT_.out (by kernel_rfl)) (fun _ _ _ h=>h) (Or.inr ⟨by rfl,rfl⟩) ?_ ?_;rotate_left
         ·simp only [Act.put,List.setIfInBounds_toArray,List.set_cons_zero,List.set_cons_succ,i64_w,i32_w];rfl
         refine pure_ (i:=17) (N:=some 53) (v:=undef) (a':=?_) #[true,true,true,true,true,true,true,true,true,true,true,true,true,true,true,true,true,true,false,false,false,false,false,false,false,false,false,false] rfl rfl (any_of HT_.out (by kernel_rfl)) (fun _ _ _ h=>h) (Or.inr ⟨by rfl,rfl⟩) ?_ ?_;rotate_left
         ·simp only [Act.put,List.setIfInBounds_toArray,List.set_cons_zero,List.set_cons_succ,i64_w,i32_w];rfl
         refine pure_ (i:=18) (N:=some 54) (v:=?_) (a':=?_) #[true,true,true,true,true,true,true,true,true,true,true,true,true,true,true,true,true,true,true,false,false,false,false,false,false,false,false,false] rfl rfl (any_of HT_.out (by kernel_rfl)) (fun _ _ _ h=>h) (Or.inl ⟨by rfl,?_⟩) ?_ ?_;rotate_left
         ·intro w';go_simp;with_reducible rfl
         rotate_left
         ·simp only [Act.put,List.setIfInBounds_toArray,List.set_cons_zero,List.set_cons_succ,i64_w,i32_w];rfl
         refine pure_ (i:=19) (N:=some 55) (v:=?_) (a':=?_) #[true,true,true,true,true,true,true,true,true,true,true,true,true,true,true,true,true,true,true,true,false,false,false,false,false,false,false,false] rfl rfl (any_of HT_.out (by kernel_rfl)) (fun _ _ _ h=>h) (Or.inl ⟨by rfl,?_⟩) ?_ ?_;rotate_left
         ·intro w';go_simp;with_reducible rfl
         rotate_left
         ·simp only [Act.put,List.setIfInBounds_toArray,List.set_cons_zero,List.set_cons_succ,i64_w,i32_w];rfl
         refine pure_ (i:=20) (N:=some 56) (v:=?_) (a':=?_) #[true,true,true,true,true,true,true,true,true,true,true,true,true,true,true,true,true,true,true,true,true,false,false,false,false,false,false,false] rfl rfl (any_of HT_.out (by kernel_rfl)) (fun _ _ _ h=>h) (Or.inl ⟨by rfl,?_⟩) ?_ ?_;rotate_left
         ·intro w';go_simp;with_reducible rfl
         rotate_left
         ·simp only [Act.put,List.setIfInBounds_toArray,List.set_cons_zero,List.set_cons_succ,i64_w,i32_w];rfl
         refine pure_ (i:=21) (N:=some 57) (v:=?_) (a':=?_) #[true,true,true,true,true,true,true,true,true,true,true,true,true,true,true,true,true,true,true,true,true,true,false,false,false,false,false,false] rfl rfl (any_of HT_.out (by kernel_rfl)) (fun _ _ _ h=>h) (Or.inl ⟨by rfl,?_⟩) ?_ ?_;rotate_left
         ·intro w';go_simp;with_reducible rfl
         rotate_left
         ·simp only [Act.put,List.setIfInBounds_toArray,List.set_cons_zero,List.set_cons_succ,i64_w,i32_w];rfl
         refine pure_ (i:=23) (N:=some 59) (v:=?_) (a':=?_) #[true,true,true,true,true,true,true,true,true,true,true,true,true,true,true,true,true,true,true,true,true,true,false,true,false,false,false,false] rfl rfl (any_of HT_.out (by kernel_rfl)) (fun _ _ _ h=>h) (Or.inl ⟨by rfl,?_⟩) ?_ ?_;rotate_left
         ·intro w';go_simp;with_reducible rfl
         rotate_left
         ·simp only [Act.put,List.setIfInBounds_toArray,List.set_cons_zero,List.set_cons_succ,i64_w,i32_w];rfl
         refine take_ (i:=22) (N:=some 58) (v:=?_) (a':=?_) #[true,true,true,true,true,true,true,true,true,true,true,true,true,true,true,true,true,true,true,true,true,true,true,true,false,false,false,false] rfl rfl (take_ofW HT_.out HW_.out (by kernel_rfl)) (fun _ _ _ h=>h) (Or.inl ⟨by rfl,?_⟩) hHeld ?_ ?_;rotate_left
         ·rintro w' ⟨s0,s1,s2,s3,s4⟩;go_simp;with_reducible rfl
         rotate_left
         ·simp only [Act.put,List.setIfInBounds_toArray,List.set_cons_zero,List.set_cons_succ,i64_w,i32_w];rfl
         refine take_ (i:=24) (N:=some 60) (v:=?_) (a':=?_) #[true,true,true,true,true,true,true,true,true,true,true,true,true,true,true,true,true,true,true,true,true,true,true,true,true,false,false,false] rfl rfl (take_ofW HT_.out HW_.out (by kernel_rfl)) (fun _ _ _ h=>h) (Or.inl ⟨by rfl,?_⟩) hHeld ?_ ?_;rotate_left
         ·rintro w' ⟨s0,s1,s2,s3,s4⟩;go_simp;with_reducible rfl
         rotate_left
         ·simp only [Act.put,List.setIfInBounds_toArray,List.set_cons_zero,List.set_cons_succ,i64_w,i32_w];rfl
         refine one_ (i:=25) (N:=some 61) #[true,true,true,true,true,true,true,true,true,true,true,true,true,true,true,true,true,true,true,true,true,true,true,true,true,true,false,false] rfl rfl (one_of HT_.out (by kernel_rfl)) (by decide) (fun K hK=>?_);refine goes_ Try.func100 (by kernel_rfl) rfl #[.agg #[.slice A0_1 l0_1.length c0_1],.int .i64 ((rd_T147 l0_0 x3_2).f1)] (by rfl) rfl rfl (by (try simp only [List.map_toArray,List.map_cons,List.map_nil]);first | done | rfl | (simp only [List.length_drop,List.length_take];rfl)) ?_;with_reducible refine (spec_l11Root.calls _ _ l0_1 ((rd_T147 l0_0 x3_2).f1) t1687 _ ?side1 ?side2 A35.out).mono ?_
         (case side1=>repeat (first | exact (Kd.C_below HR0_1.out (hs2 HB GE1669 GE1683)) | (with_reducible refine Kd.C_alloc ?_ _) | (with_reducible refine Kd.C_drewN ?_ _) | (with_reducible refine Kd.C_drew ?_)))
         (case side2=>exact HC0_1.out)
         rintro e w38 ⟨rfl,hb⟩;refine ⟨_,rfl,?_⟩;have n0_:=Aside0.mk (blk_below (g:=gb1669) (o:=.cells #[.slice (some ad1682) l0_0.length c0_0,.slice A0_1 l0_1.length c0_1,.int .i64 a0_2] 83 (0,0)) (bs BK1669) hb);have n1_:=Aside0.mk (blk_below (g:=gb1683) (o:=.cells #[.int .i64 ((rd_T147 l0_0 x3_2).f0),.int .i64 ((rd_T147 l0_0 x3_2).f1)] 147 (0,0)) (bs BK1683) hb);have n2_:=Aside0.mk (below_step (hs2 HB GE1669 GE1683) hb);clear BK1669;clear BK1683;clear HB;have BK1669:=n0_;have BK1683:=n1_;have HB:=n2_;clear n0_ n1_ n2_
         (try clear hb)
         (try clear hb2)
         (try clear hk)
         (try clear hi)
         refine hK.out _ _ ⟨(blk_cell BK1683.out 0).trans rfl,(blk_cell BK1683.out 1).trans rfl,(blk_cell BK1669.out 0).trans rfl,(blk_cell BK1669.out 1).trans rfl,(blk_cell BK1669.out 2).trans rfl⟩ (fun hHeld=>?_);clear hK K;refine norm_ (a':=?_) ?_ ?_;rotate_left
         ·show Act.put _ (some 61) _ = _;simp only [Act.put,List.setIfInBounds_toArray,List.set_cons_zero,List.set_cons_succ,i64_w,i32_w];rfl
         refine pure_ (i:=26) (N:=some 62) (v:=?_) (a':=?_) #[true,true,true,true,true,true,true,true,true,true,true,true,true,true,true,true,true,true,true,true,true,true,true,true,true,true,true,false] rfl rfl (any_of HT_.out (by kernel_rfl)) (fun _ _ _ h=>h) (Or.inl ⟨by rfl,?_⟩) ?_ ?_;rotate_left
         ·intro w';go_simp;with_reducible rfl
         rotate_left
         ·simp only [Act.put,List.setIfInBounds_toArray,List.set_cons_zero,List.set_cons_succ,i64_w,i32_w];rfl
         refine pure_ (i:=27) (N:=some 63) (v:=?_) (a':=?_) #[true,true,true,true,true,true,true,true,true,true,true,true,true,true,true,true,true,true,true,true,true,true,true,true,true,true,true,true] rfl rfl (any_of HT_.out (by kernel_rfl)) (fun _ _ _ h=>h) (Or.inl ⟨by rfl,?_⟩) ?_ ?_;rotate_left
         ·intro w';go_simp;with_reducible rfl
         rotate_left
         ·simp only [Act.put,List.setIfInBounds_toArray,List.set_cons_zero,List.set_cons_succ,i64_w,i32_w];rfl
         refine done_ (done_of HT_.out (by kernel_rfl)) ?_
         try go_wp2
         go_meet
         case rel=>exact ⟨_,(!t1687),(by first | rfl | (simp;done) | (simp [*];done)),H',⟨by have:=HJ1.out;have:=HK2.out;first | omega | exact Nat.le_refl _⟩,⟨bs BK1669⟩,⟨bs BK1683⟩,⟨hs2 HB GE1669 GE1683⟩⟩
        replace c23:=Bool.eq_false_iff.mpr c23;subst c23;have H1 : (spec_StoreOk.j2 k2 x3_2 true l0_0 l0_1 a0_2 ((rd_T147 l0_0 x3_2).f0) ((rd_T147 l0_0 x3_2).f1)) = some r:=by rw [if_neg (show ¬ (false = true) by decide)] at H;exact H
        clear H;have H:=H1;clear H1;have H':=Aside0.mk H;clear H
        try go_wp2
        have n0_ : Aside0 (((w19.setCell ⟨gb1683,0,none⟩ (.int .i64 ((rd_T147 l0_0 x3_2).f0))).setCell ⟨gb1683,1,none⟩ (.int .i64 ((rd_T147 l0_0 x3_2).f1))).heap[gb1669]? = some (.cells #[.slice (some ad1682) l0_0.length c0_0,.slice A0_1 l0_1.length c0_1,.int .i64 a0_2] 83 (0,0))):=⟨by (with_reducible repeat (first | refine blk_drewN ?_ _ | refine blk_drew ?_ | refine blk_alloc ?_ _));refine blk_far ?_ NB1669_1683.out _;(with_reducible repeat (first | refine blk_drewN ?_ _ | refine blk_drew ?_ | refine blk_alloc ?_ _));refine blk_far ?_ NB1669_1683.out _;(with_reducible repeat (first | refine blk_drewN ?_ _ | refine blk_drew ?_ | refine blk_alloc ?_ _));exact BK1669.out⟩;have n1_ : Aside0 (((w19.setCell ⟨gb1683,0,none⟩ (.int .i64 ((rd_T147 l0_0 x3_2).f0))).setCell ⟨gb1683,1,none⟩ (.int .i64 ((rd_T147 l0_0 x3_2).f1))).heap[gb1683]? = some (.cells #[.int .i64 ((rd_T147 l0_0 x3_2).f0),.int .i64 ((rd_T147 l0_0 x3_2).f1)] 147 (0,0))):=⟨by (with_reducible repeat (first | refine blk_drewN ?_ _ | refine blk_drew ?_ | refine blk_alloc ?_ _));refine blk_put (cs:=#[.int .i64 ((rd_T147 l0_0 x3_2).f0),.int .i64 0]) ?_ 1 _ rfl;(with_reducible repeat (first | refine blk_drewN ?_ _ | refine blk_drew ?_ | refine blk_alloc ?_ _));refine blk_put (cs:=#[.int .i64 0,.int .i64 0]) ?_ 0 _ rfl;(with_reducible repeat (first | refine blk_drewN ?_ _ | refine blk_drew ?_ | refine blk_alloc ?_ _));exact BK1683.out⟩;have n2_ : Aside0 (Below w.heap.size w ((w19.setCell ⟨gb1683,0,none⟩ (.int .i64 ((rd_T147 l0_0 x3_2).f0))).setCell ⟨gb1683,1,none⟩ (.int .i64 ((rd_T147 l0_0 x3_2).f1)))):=⟨hs2 HB GE1669 GE1683⟩
        (try clear BK1669)
        (try clear BK1683)
        (try clear HB)
        generalize ((w19.setCell ⟨gb1683,0,none⟩ (.int .i64 ((rd_T147 l0_0 x3_2).f0))).setCell ⟨gb1683,1,none⟩ (.int .i64 ((rd_T147 l0_0 x3_2).f1))) = w39 at n0_ n1_ n2_ ⊢;have BK1669:=n0_;have BK1683:=n1_;have HB:=n2_;clear n0_ n1_ n2_;have n0_:=Aside0.mk (blk_drew BK1669.out);have n1_:=Aside0.mk (blk_drew BK1683.out);have n2_:=Aside0.mk (below_drew1 HB.out);clear BK1669;clear BK1683;clear HB;have BK1669:=n0_;have BK1683:=n1_;have HB:=n2_;clear n0_ n1_ n2_;refine start_ (n:=28) (S:=fun w'=>w'.cell? ⟨gb1683,0,none⟩ = some (.int .i64 ((rd_T147 l0_0 x3_2).f0)) ∧ w'.cell? ⟨gb1683,1,none⟩ = some (.int .i64 ((rd_T147 l0_0 x3_2).f1))) (ds:=[]) #[false,false,false,false,false,false,false,false,false,false,false,false,false,false,false,false,false,false,false,false,false,false,false,false,false,false,false,false] (by kernel_rfl) rfl rfl ⟨(blk_cell BK1683.out 0).trans rfl,(blk_cell BK1683.out 1).trans rfl⟩ (fun hHeld=>?_);refine with_tabW spec_StoreOk.tab7 spec_StoreOk.bits7 (fun HT_ HW_=>?_);generalize w39.drew = w40 at BK1669 BK1683 HB hHeld ⊢;refine pure_ (i:=0) (N:=some 36) (v:=?_) (a':=?_) #[true,false,false,false,false,false,false,false,false,false,false,false,false,false,false,false,false,false,false,false,false,false,false,false,false,false,false,false] rfl rfl (any_of HT_.out (by kernel_rfl)) (fun _ _ _ h=>h) (Or.inl ⟨by rfl,?_⟩) ?_ ?_;rotate_left
        ·intro w';go_simp;with_reducible rfl
        rotate_left
        ·simp only [Act.put,List.setIfInBounds_toArray,List.set_cons_zero,List.set_cons_succ,i64_w,i32_w];rfl
        refine take_ (i:=1) (N:=some 37) (v:=?_) (a':=?_) #[true,true,false,false,false,false,false,false,false,false,false,false,false,false,false,false,false,false,false,false,false,false,false,false,false,false,false,false] rfl rfl (take_ofW HT_.out HW_.out (by kernel_rfl)) (fun _ _ _ h=>h) (Or.inl ⟨by rfl,?_⟩) hHeld ?_ ?_;rotate_left
        ·rintro w' ⟨s0,s1⟩;go_simp;with_reducible rfl
        rotate_left
        ·simp only [Act.put,List.setIfInBounds_toArray,List.set_cons_zero,List.set_cons_succ,i64_w,i32_w];rfl
        refine one_ (i:=2) (N:=some 38) #[true,true,true,false,false,false,false,false,false,false,false,false,false,false,false,false,false,false,false,false,false,false,false,false,false,false,false,false] rfl rfl (one_of HT_.out (by kernel_rfl)) (by decide) (fun K hK=>?_);refine goes_ Try.func86 (by kernel_rfl) rfl #[.int .i64 ((rd_T147 l0_0 x3_2).f0),.int .i64 1,.int .i64 9] (by rfl) rfl rfl (by (try simp only [List.map_toArray,List.map_cons,List.map_nil]);first | done | rfl | (simp only [List.length_drop,List.length_take];rfl)) ?_;with_reducible refine (spec_l01In.calls ((rd_T147 l0_0 x3_2).f0) 1 9 false _ A22.out).mono ?_
        rintro e w' ⟨rfl,⟨nd,rfl⟩⟩;refine ⟨_,rfl,?_⟩;refine hK.out _ _ ⟨(blk_cell BK1683.out 0).trans rfl,(blk_cell BK1683.out 1).trans rfl⟩ (fun hHeld=>?_);clear hK K;refine norm_ (a':=?_) ?_ ?_;rotate_left
        ·show Act.put _ (some 38) _ = _;simp only [Act.put,List.setIfInBounds_toArray,List.set_cons_zero,List.set_cons_succ,i64_w,i32_w];rfl
        refine pure_ (i:=3) (N:=some 39) (v:=?_) (a':=?_) #[true,true,true,true,false,false,false,false,false,false,false,false,false,false,false,false,false,false,false,false,false,false,false,false,false,false,false,false] rfl rfl (any_of HT_.out (by kernel_rfl)) (fun _ _ _ h=>h) (Or.inl ⟨by rfl,?_⟩) ?_ ?_;rotate_left
        ·intro w';go_simp;with_reducible rfl
        rotate_left
        ·simp only [Act.put,List.setIfInBounds_toArray,List.set_cons_zero,List.set_cons_succ,i64_w,i32_w];rfl
        refine pure_ (i:=4) (N:=some 40) (v:=?_) (a':=?_) #[true,true,true,true,true,false,false,false,false,false,false,false,false,false,false,false,false,false,false,false,false,false,false,false,false,false,false,false] rfl rfl (any_of HT_.out (by kernel_rfl)) (fun _ _ _ h=>h) (Or.inl ⟨by rfl,?_⟩) ?_ ?_;rotate_left
        ·intro w';go_simp;with_reducible rfl
        rotate_left
        ·simp only [Act.put,List.setIfInBounds_toArray,List.set_cons_zero,List.set_cons_succ,i64_w,i32_w];rfl
        refine pure_ (i:=5) (N:=some 41) (v:=undef) (a':=?_) #[true,true,true,true,true,true,false,false,false,false,false,false,false,false,false,false,false,false,false,false,false,false,false,false,false,false,false,false] rfl rfl (any_of HT_.out (by kernel_rfl)) (fun _ _ _ h=>h) (Or.inr ⟨by rfl,rfl⟩) ?_ ?_;rotate_left
        ·simp only [Act.put,List.setIfInBounds_toArray,List.set_cons_zero,List.set_cons_succ,i64_w,i32_w];rfl
        refine pure_ (i:=6) (N:=some 42) (v:=undef) (a':=?_) #[true,true,true,true,true,true,true,false,false,false,false,false,false,false,false,false,false,false,false,false,false,false,false,false,false,false,false,false] rfl rfl (any_of HT_.out (by kernel_rfl)) (fun _ _ _ h=>h) (Or.inr ⟨by rfl,rfl⟩) ?_ ?_;rotate_left
        ·simp only [Act.put,List.setIfInBounds_toArray,List.set_cons_zero,List.set_cons_succ,i64_w,i32_w];rfl
        refine pure_ (i:=7) (N:=some 43) (v:=undef) (a':=?_) #[true,true,true,true,true,true,true,true,false,false,false,false,false,false,false,false,false,false,false,false,false,false,false,false,false,false,false,false] rfl rfl (any_of HT_.out (by kernel_rfl)) (fun _ _ _ h=>h) (Or.inr ⟨by rfl,rfl⟩) ?_ ?_;rotate_left
        ·simp only [Act.put,List.setIfInBounds_toArray,List.set_cons_zero,List.set_cons_succ,i64_w,i32_w];rfl
        refine pure_ (i:=8) (N:=some 44) (v:=undef) (a':=?_) #[true,true,true,true,true,true,true,true,true,false,false,false,false,false,false,false,false,false,false,false,false,false,false,false,false,false,false,false] rfl rfl (any_of HT_.out (by kernel_rfl)) (fun _ _ _ h=>h) (Or.inr ⟨by rfl,rfl⟩) ?_ ?_;rotate_left
        ·simp only [Act.put,List.setIfInBounds_toArray,List.set_cons_zero,List.set_cons_succ,i64_w,i32_w];rfl
        refine pure_ (i:=9) (N:=some 45) (v:=undef) (a':=?_) #[true,true,true,true,true,true,true,true,true,true,false,false,false,false,false,false,false,false,false,false,false,false,false,false,false,false,false,false] rfl rfl (any_of HT_.out (by kernel_rfl)) (fun _ _ _ h=>h) (Or.inr ⟨by rfl,rfl⟩) ?_ ?_;rotate_left
        ·simp only [Act.put,List.setIfInBounds_toArray,List.set_cons_zero,List.set_cons_succ,i64_w,i32_w];rfl
        refine pure_ (i:=10) (N:=some 46) (v:=undef) (a':=?_) #[true,true,true,true,true,true,true,true,true,true,true,false,false,false,false,false,false,false,false,false,false,false,false,false,false,false,false,false] rfl rfl (any_of HT_.out (by kernel_rfl)) (fun _ _ _ h=>h) (Or.inr ⟨by rfl,rfl⟩) ?_ ?_;rotate_left
        ·simp only [Act.put,List.setIfInBounds_toArray,List.set_cons_zero,List.set_cons_succ,i64_w,i32_w];rfl
        refine pure_ (i:=11) (N:=some 47) (v:=undef) (a':=?_) #[true,true,true,true,true,true,true,true,true,true,true,true,false,false,false,false,false,false,false,false,false,false,false,false,false,false,false,false] rfl rfl (any_of HT_.out (by kernel_rfl)) (fun _ _ _ h=>h) (Or.inr ⟨by rfl,rfl⟩) ?_ ?_;rotate_left
        ·simp only [Act.put,List.setIfInBounds_toArray,List.set_cons_zero,List.set_cons_succ,i64_w,i32_w];rfl
        refine pure_ (i:=12) (N:=some 48) (v:=undef) (a':=?_) #[true,true,true,true,true,true,true,true,true,true,true,true,true,false,false,false,false,false,false,false,false,false,false,false,false,false,false,false] rfl rfl (any_of HT_.out (by kernel_rfl)) (fun _ _ _ h=>h) (Or.inr ⟨by rfl,rfl⟩) ?_ ?_;rotate_left
        ·simp only [Act.put,List.setIfInBounds_toArray,List.set_cons_zero,List.set_cons_succ,i64_w,i32_w];rfl
        refine pure_ (i:=13) (N:=some 49) (v:=undef) (a':=?_) #[true,true,true,true,true,true,true,true,true,true,true,true,true,true,false,false,false,false,false,false,false,false,false,false,false,false,false,false] rfl rfl (any_of HT_.out (by kernel_rfl)) (fun _ _ _ h=>h) (Or.inr ⟨by rfl,rfl⟩) ?_ ?_;rotate_left
        ·simp only [Act.put,List.setIfInBounds_toArray,List.set_cons_zero,List.set_cons_succ,i64_w,i32_w];rfl
        refine pure_ (i:=14) (N:=some 50) (v:=undef) (a':=?_) #[true,true,true,true,true,true,true,true,true,true,true,true,true,true,true,false,false,false,false,false,false,false,false,false,false,false,false,false] rfl rfl (any_of HT_.out (by kernel_rfl)) (fun _ _ _ h=>h) (Or.inr ⟨by rfl,rfl⟩) ?_ ?_;rotate_left
        ·simp only [Act.put,List.setIfInBounds_toArray,List.set_cons_zero,List.set_cons_succ,i64_w,i32_w];rfl
        refine pure_ (i:=15) (N:=some 51) (v:=undef) (a':=?_) #[true,true,true,true,true,true,true,true,true,true,true,true,true,true,true,true,false,false,false,false,false,false,false,false,false,false,false,false] rfl rfl (any_of HT_.out (by kernel_rfl)) (fun _ _ _ h=>h) (Or.inr ⟨by rfl,rfl⟩) ?_ ?_;rotate_left
        ·simp only [Act.put,List.setIfInBounds_toArray,List.set_cons_zero,List.set_cons_succ,i64_w,i32_w];rfl
        refine pure_ (i:=16) (N:=some 52) (v:=undef) (a':=?_) #[true,true,true,true,true,true,true,true,true,true,true,true,true,true,true,true,true,false,false,false,false,false,false,false,false,false,false,false] rfl rfl (any_of HT_.out (by kernel_rfl)) (fun _ _ _ h=>h) (Or.inr ⟨by rfl,rfl⟩) ?_ ?_;rotate_left
        ·simp only [Act.put,List.setIfInBounds_toArray,List.set_cons_zero,List.set_cons_succ,i64_w,i32_w];rfl
        refine pure_ (i:=17) (N:=some 53) (v:=undef) (a':=?_) #[true,true,true,true,true,true,true,true,true,true,true,true,true,true,true,true,true,true,false,false,false,false,false,false,false,false,false,false] rfl rfl (any_of HT_.out (by kernel_rfl)) (fun _ _ _ h=>h) (Or.inr ⟨by rfl,rfl⟩) ?_ ?_;rotate_left
        ·simp only [Act.put,List.setIfInBounds_toArray,List.set_cons_zero,List.set_cons_succ,i64_w,i32_w];rfl
        refine pure_ (i:=18) (N:=some 54) (v:=undef) (a':=?_) #[true,true,true,true,true,true,true,true,true,true,true,true,true,true,true,true,true,true,true,false,false,false,false,false,false,false,false,false] rfl rfl (any_of HT_.out (by kernel_rfl)) (fun _ _ _ h=>h) (Or.inr ⟨by rfl,rfl⟩) ?_ ?_;rotate_left
        ·simp only [Act.put,List.setIfInBounds_toArray,List.set_cons_zero,List.set_cons_succ,i64_w,i32_w];rfl
        refine pure_ (i:=19) (N:=some 55) (v:=?_) (a':=?_) #[true,true,true,true,true,true,true,true,true,true,true,true,true,true,true,true,true,true,true,true,false,false,false,false,false,false,false,false] rfl rfl (any_of HT_.out (by kernel_rfl)) (fun _ _ _ h=>h) (Or.inl ⟨by rfl,?_⟩) ?_ ?_;rotate_left
        ·intro w';go_simp;with_reducible rfl
        rotate_left
        ·simp only [Act.put,List.setIfInBounds_toArray,List.set_cons_zero,List.set_cons_succ,i64_w,i32_w];rfl
        refine pure_ (i:=20) (N:=some 56) (v:=?_) (a':=?_) #[true,true,true,true,true,true,true,true,true,true,true,true,true,true,true,true,true,true,true,true,true,false,false,false,false,false,false,false] rfl rfl (any_of HT_.out (by kernel_rfl)) (fun _ _ _ h=>h) (Or.inl ⟨by rfl,?_⟩) ?_ ?_;rotate_left
        ·intro w';go_simp;with_reducible rfl
        rotate_left
        ·simp only [Act.put,List.setIfInBounds_toArray,List.set_cons_zero,List.set_cons_succ,i64_w,i32_w];rfl
        refine pure_ (i:=21) (N:=some 57) (v:=undef) (a':=?_) #[true,true,true,true,true,true,true,true,true,true,true,true,true,true,true,true,true,true,true,true,true,true,false,false,false,false,false,false] rfl rfl (any_of HT_.out (by kernel_rfl)) (fun _ _ _ h=>h) (Or.inr ⟨by rfl,rfl⟩) ?_ ?_;rotate_left
        ·simp only [Act.put,List.setIfInBounds_toArray,List.set_cons_zero,List.set_cons_succ,i64_w,i32_w];rfl
        refine pure_ (i:=22) (N:=some 58) (v:=undef) (a':=?_) #[true,true,true,true,true,true,true,true,true,true,true,true,true,true,true,true,true,true,true,true,true,true,true,false,false,false,false,false] rfl rfl (any_of HT_.out (by kernel_rfl)) (fun _ _ _ h=>h) (Or.inr ⟨by rfl,rfl⟩) ?_ ?_;rotate_left
        ·simp only [Act.put,List.setIfInBounds_toArray,List.set_cons_zero,List.set_cons_succ,i64_w,i32_w];rfl
        refine pure_ (i:=23) (N:=some 59) (v:=undef) (a':=?_) #[true,true,true,true,true,true,true,true,true,true,true,true,true,true,true,true,true,true,true,true,true,true,true,true,false,false,false,false] rfl rfl (any_of HT_.out (by kernel_rfl)) (fun _ _ _ h=>h) (Or.inr ⟨by rfl,rfl⟩) ?_ ?_;rotate_left
        ·simp only [Act.put,List.setIfInBounds_toArray,List.set_cons_zero,List.set_cons_succ,i64_w,i32_w];rfl
        refine pure_ (i:=24) (N:=some 60) (v:=undef) (a':=?_) #[true,true,true,true,true,true,true,true,true,true,true,true,true,true,true,true,true,true,true,true,true,true,true,true,true,false,false,false] rfl rfl (any_of HT_.out (by kernel_rfl)) (fun _ _ _ h=>h) (Or.inr ⟨by rfl,rfl⟩) ?_ ?_;rotate_left
        ·simp only [Act.put,List.setIfInBounds_toArray,List.set_cons_zero,List.set_cons_succ,i64_w,i32_w];rfl
        refine pure_ (i:=25) (N:=some 61) (v:=undef) (a':=?_) #[true,true,true,true,true,true,true,true,true,true,true,true,true,true,true,true,true,true,true,true,true,true,true,true,true,true,false,false] rfl rfl (any_of HT_.out (by kernel_rfl)) (fun _ _ _ h=>h) (Or.inr ⟨by rfl,rfl⟩) ?_ ?_;rotate_left
        ·simp only [Act.put,List.setIfInBounds_toArray,List.set_cons_zero,List.set_cons_succ,i64_w,i32_w];rfl
        refine pure_ (i:=26) (N:=some 62) (v:=undef) (a':=?_) #[true,true,true,true,true,true,true,true,true,true,true,true,true,true,true,true,true,true,true,true,true,true,true,true,true,true,true,false] rfl rfl (any_of HT_.out (by kernel_rfl)) (fun _ _ _ h=>h) (Or.inr ⟨by rfl,rfl⟩) ?_ ?_;rotate_left
        ·simp only [Act.put,List.setIfInBounds_toArray,List.set_cons_zero,List.set_cons_succ,i64_w,i32_w];rfl
        refine pure_ (i:=27) (N:=some 63) (v:=?_) (a':=?_) #[true,true,true,true,true,true,true,true,true,true,true,true,true,true,true,true,true,true,true,true,true,true,true,true,true,true,true,true] rfl rfl (any_of HT_.out (by kernel_rfl)) (fun _ _ _ h=>h) (Or.inl ⟨by rfl,?_⟩) ?_ ?_;rotate_left
        ·intro w';go_simp;with_reducible rfl
        rotate_left
        ·simp only [Act.put,List.setIfInBounds_toArray,List.set_cons_zero,List.set_cons_succ,i64_w,i32_w];rfl
        refine done_ (done_of HT_.out (by kernel_rfl)) ?_
        try go_wp2
        go_meet
        case rel=>exact ⟨_,(true),(by first | rfl | (simp;done) | (simp [*];done)),H',⟨by have:=HJ1.out;have:=HK2.out;first | omega | exact Nat.le_refl _⟩,⟨bs BK1669⟩,⟨bs BK1683⟩,⟨hs2 HB GE1669 GE1683⟩⟩
       case rest =>
        clear HC17
        try clear c1
        try clear c2
        try clear p2
        try clear c8
        try clear c10
        try clear c23
        try clear c24
        try clear c24b0
        try clear c26
        try clear c27
        obtain ⟨kq,x63_16,rfl,HA,HJ16,BK1669,BK1683,HB⟩:=hcut;cases kq with
        | zero=>exact absurd HA.out (by simp [spec_StoreOk.j2])
        | succ kj16 =>
         have H:=HA.out;clear HA;simp only [spec_StoreOk.j2] at H
         by_cases c41 : x63_16 = true
         ·subst c41;have H1 : (some false) = some r:=by rw [if_pos rfl] at H;exact H
          clear H;have H:=H1;clear H1;obtain rfl:=Option.some.inj H
          go_wp2
          go_ret
          exact ⟨by first | rfl | (simp [errW_none,errW_some] <;> rfl) | (simp [*,errW_none,errW_some] <;> rfl),hs2 HB GE1669 GE1683⟩
         replace c41:=Bool.eq_false_iff.mpr c41;subst c41;have H1 : (spec_StoreOk.l1 kj16 x3_2 0 l0_0 l0_1 a0_2 ((rd_T147 l0_0 x3_2).f0) ((rd_T147 l0_0 x3_2).f1)) = some r:=by rw [if_neg (show ¬ (false = true) by decide)] at H;exact H
         clear H;have H:=H1;clear H1;have H':=Aside0.mk H;clear H
         go_wp2
         go_loopg [5] kj16 (fun kq v5 w'=>∃ (x5_4 : Int),v5 = .int .i64 x5_4 ∧ Aside0 (spec_StoreOk.l1 kq x3_2 x5_4 l0_0 l0_1 a0_2 ((rd_T147 l0_0 x3_2).f0) ((rd_T147 l0_0 x3_2).f1) = some r) ∧ Aside0 (kq ≤ kj16) ∧ Aside0 (w'.heap[gb1669]? = some (.cells #[(.slice (some ad1682) l0_0.length c0_0),(.slice A0_1 l0_1.length c0_1),.int .i64 a0_2] 83 (0,0))) ∧ Aside0 (w'.heap[gb1683]? = some (.cells #[.int .i64 ((rd_T147 l0_0 x3_2).f0),.int .i64 ((rd_T147 l0_0 x3_2).f1)] 147 (0,0))) ∧ Aside0 (Below w.heap.size w w'));case atStart=>exact ⟨(0),(by first | rfl | (simp;done) | (simp [*];done)),H',⟨Nat.le_refl _⟩,⟨bs BK1669⟩,⟨bs BK1683⟩,⟨hs2 HB GE1669 GE1683⟩⟩
         case round =>
          clear H'
          try clear c1
          try clear c2
          try clear p2
          try clear c4
          try clear c8
          try clear c10
          try clear c23
          try clear c24
          try clear c24b0
          try clear c26
          try clear c27
          try clear c41
          try clear p2
          obtain ⟨x5_4,rfl,HA,HK4,BK1669,BK1683,HB⟩:=hrel;cases gk with
          | zero=>exact absurd HA.out (by simp [spec_StoreOk.l1])
          | succ k4 =>
           have H:=HA.out;clear HA;simp only [spec_StoreOk.l1] at H
           by_cases c42 : x5_4 < 16
           ·rw [if_pos c42] at H;have c42b0 : decide (x5_4 < 16) = true:=decide_eq_true c42;clear c42;replace H:=Option.bind_eq_some_iff.mp H;obtain ⟨t1688,A430,H⟩:=H;replace H : (if t1688 ≥ a0_2 then (some false) else (spec_StoreOk.l1 k4 x3_2 (wrap64 (x5_4 + 1)) l0_0 l0_1 a0_2 ((rd_T147 l0_0 x3_2).f0) ((rd_T147 l0_0 x3_2).f1))) = some r:=H;have A43:=Aside0.mk A430;clear A430
            by_cases c44 : t1688 ≥ a0_2
            ·rw [if_pos c44] at H;have c44b0 : decide (a0_2 ≤ t1688) = true:=decide_eq_true c44;clear c44;obtain rfl:=Option.some.inj H
             try go_wp2
             have n0_:=Aside0.mk (blk_drew BK1669.out);have n1_:=Aside0.mk (blk_drew BK1683.out);have n2_:=Aside0.mk (below_drew1 HB.out);clear BK1669;clear BK1683;clear HB;have BK1669:=n0_;have BK1683:=n1_;have HB:=n2_;clear n0_ n1_ n2_;refine start_ (n:=9) (S:=fun w'=>w'.cell? ⟨gb1669,0,none⟩ = some (.slice (some ad1682) l0_0.length c0_0) ∧ w'.cell? ⟨gb1669,1,none⟩ = some (.slice A0_1 l0_1.length c0_1) ∧ w'.cell? ⟨gb1669,2,none⟩ = some (.int .i64 a0_2) ∧ w'.cell? ⟨gb1683,0,none⟩ = some (.int .i64 ((rd_T147 l0_0 x3_2).f0)) ∧ w'.cell? ⟨gb1683,1,none⟩ = some (.int .i64 ((rd_T147 l0_0 x3_2).f1))) (ds:=[]) #[false,false,false,false,false,false,false,false,false] (by kernel_rfl) rfl rfl ⟨(blk_cell BK1669.out 0).trans rfl,(blk_cell BK1669.out 1).trans rfl,(blk_cell BK1669.out 2).trans rfl,(blk_cell BK1683.out 0).trans rfl,(blk_cell BK1683.out 1).trans rfl⟩ (fun hHeld=>?_);refine with_tabW spec_StoreOk.tab12 spec_StoreOk.bits12 (fun HT_ HW_=>?_);generalize wr.drew = w45 at BK1669 BK1683 HB hHeld ⊢;refine pure_ (i:=0) (N:=some 68) (v:=?_) (a':=?_) #[true,false,false,false,false,false,false,false,false] rfl rfl (any_of HT_.out (by kernel_rfl)) (fun _ _ _ h=>h) (Or.inl ⟨by rfl,?_⟩) ?_ ?_;rotate_left
             ·intro w';go_simp;with_reducible rfl
             rotate_left
             ·simp only [Act.put,List.setIfInBounds_toArray,List.set_cons_zero,List.set_cons_succ,i64_w,i32_w];rfl
             refine pure_ (i:=2) (N:=some 70) (v:=?_) (a':=?_) #[true,false,true,false,false,false,false,false,false] rfl rfl (any_of HT_.out (by kernel_rfl)) (fun _ _ _ h=>h) (Or.inl ⟨by rfl,?_⟩) ?_ ?_;rotate_left
             ·intro w';go_simp;with_reducible rfl
             rotate_left
             ·simp only [Act.put,List.setIfInBounds_toArray,List.set_cons_zero,List.set_cons_succ,i64_w,i32_w];rfl
             refine pure_ (i:=4) (N:=some 72) (v:=?_) (a':=?_) #[true,false,true,false,true,false,false,false,false] rfl rfl (any_of HT_.out (by kernel_rfl)) (fun _ _ _ h=>h) (Or.inl ⟨by rfl,?_⟩) ?_ ?_;rotate_left
             ·intro w';go_simp;with_reducible rfl
             rotate_left
             ·simp only [Act.put,List.setIfInBounds_toArray,List.set_cons_zero,List.set_cons_succ,i64_w,i32_w];rfl
             refine pure_ (i:=6) (N:=some 74) (v:=?_) (a':=?_) #[true,false,true,false,true,false,true,false,false] rfl rfl (any_of HT_.out (by kernel_rfl)) (fun _ _ _ h=>h) (Or.inl ⟨by rfl,?_⟩) ?_ ?_;rotate_left
             ·intro w';go_simp;with_reducible rfl
             rotate_left
             ·simp only [Act.put,List.setIfInBounds_toArray,List.set_cons_zero,List.set_cons_succ,i64_w,i32_w];rfl
             refine take_ (i:=1) (N:=some 69) (v:=?_) (a':=?_) #[true,true,true,false,true,false,true,false,false] rfl rfl (take_ofW HT_.out HW_.out (by kernel_rfl)) (fun _ _ _ h=>h) (Or.inl ⟨by rfl,?_⟩) hHeld ?_ ?_;rotate_left
             ·rintro w' ⟨s0,s1,s2,s3,s4⟩;go_simp;with_reducible rfl
             rotate_left
             ·simp only [Act.put,List.setIfInBounds_toArray,List.set_cons_zero,List.set_cons_succ,i64_w,i32_w];rfl
             refine take_ (i:=3) (N:=some 71) (v:=?_) (a':=?_) #[true,true,true,true,true,false,true,false,false] rfl rfl (take_ofW HT_.out HW_.out (by kernel_rfl)) (fun _ _ _ h=>h) (Or.inl ⟨by rfl,?_⟩) hHeld ?_ ?_;rotate_left
             ·rintro w' ⟨s0,s1,s2,s3,s4⟩;go_simp;with_reducible rfl
             rotate_left
             ·simp only [Act.put,List.setIfInBounds_toArray,List.set_cons_zero,List.set_cons_succ,i64_w,i32_w];rfl
             refine take_ (i:=7) (N:=some 75) (v:=?_) (a':=?_) #[true,true,true,true,true,false,true,true,false] rfl rfl (take_ofW HT_.out HW_.out (by kernel_rfl)) (fun _ _ _ h=>h) (Or.inl ⟨by rfl,?_⟩) hHeld ?_ ?_;rotate_left
             ·rintro w' ⟨s0,s1,s2,s3,s4⟩;go_simp;with_reducible rfl
             rotate_left
             ·simp only [Act.put,List.setIfInBounds_toArray,List.set_cons_zero,List.set_cons_succ,i64_w,i32_w];rfl
             refine one_ (i:=5) (N:=some 73) #[true,true,true,true,true,true,true,true,false] rfl rfl (one_of HT_.out (by kernel_rfl)) (by decide) (fun K hK=>?_);refine goes_ Try.func135 (by kernel_rfl) rfl #[.agg #[.slice A0_1 l0_1.length c0_1],.int .i64 ((rd_T147 l0_0 x3_2).f1),.int .i64 x5_4] (by rfl) rfl rfl (by (try simp only [List.map_toArray,List.map_cons,List.map_nil]);first | done | rfl | (simp only [List.length_drop,List.length_take];rfl)) ?_;with_reducible refine (spec_l11Get.calls _ _ l0_1 ((rd_T147 l0_0 x3_2).f1) x5_4 t1688 _ ?side1 ?side2 A43.out).mono ?_
             (case side1=>repeat (first | exact (Kd.C_below HR0_1.out HB.out) | (with_reducible refine Kd.C_alloc ?_ _) | (with_reducible refine Kd.C_drewN ?_ _) | (with_reducible refine Kd.C_drew ?_)))
             (case side2=>exact HC0_1.out)
             rintro e w46 ⟨rfl,hb⟩;refine ⟨_,rfl,?_⟩;have n0_:=Aside0.mk (blk_below (g:=gb1669) (o:=.cells #[.slice (some ad1682) l0_0.length c0_0,.slice A0_1 l0_1.length c0_1,.int .i64 a0_2] 83 (0,0)) (bs BK1669) hb);have n1_:=Aside0.mk (blk_below (g:=gb1683) (o:=.cells #[.int .i64 ((rd_T147 l0_0 x3_2).f0),.int .i64 ((rd_T147 l0_0 x3_2).f1)] 147 (0,0)) (bs BK1683) hb);have n2_:=Aside0.mk (below_step (hs2 HB GE1669 GE1683) hb);clear BK1669;clear BK1683;clear HB;have BK1669:=n0_;have BK1683:=n1_;have HB:=n2_;clear n0_ n1_ n2_
             (try clear hb)
             (try clear hb2)
             (try clear hk)
             (try clear hi)
             refine hK.out _ _ ⟨(blk_cell BK1669.out 0).trans rfl,(blk_cell BK1669.out 1).trans rfl,(blk_cell BK1669.out 2).trans rfl,(blk_cell BK1683.out 0).trans rfl,(blk_cell BK1683.out 1).trans rfl⟩ (fun hHeld=>?_);clear hK K;refine norm_ (a':=?_) ?_ ?_;rotate_left
             ·show Act.put _ (some 73) _ = _;simp only [Act.put,List.setIfInBounds_toArray,List.set_cons_zero,List.set_cons_succ,i64_w,i32_w];rfl
             refine pure_ (i:=8) (N:=some 76) (v:=?_) (a':=?_) #[true,true,true,true,true,true,true,true,true] rfl rfl (any_of HT_.out (by kernel_rfl)) (fun _ _ _ h=>h) (Or.inl ⟨by rfl,?_⟩) ?_ ?_;rotate_left
             ·intro w';go_simp;with_reducible rfl
             rotate_left
             ·simp only [Act.put,List.setIfInBounds_toArray,List.set_cons_zero,List.set_cons_succ,i64_w,i32_w];rfl
             refine done_ (done_of HT_.out (by kernel_rfl)) ?_
             try go_wp2
             go_ret
             exact ⟨by first | rfl | (simp [errW_none,errW_some] <;> rfl) | (simp [*,errW_none,errW_some] <;> rfl),hs2 HB GE1669 GE1683⟩
            rw [if_neg c44] at H;have c44b0 : decide (a0_2 ≤ t1688) = false:=decide_eq_false c44;clear c44;have H':=Aside0.mk H;clear H
            try go_wp2
            have n0_:=Aside0.mk (blk_drew BK1669.out);have n1_:=Aside0.mk (blk_drew BK1683.out);have n2_:=Aside0.mk (below_drew1 HB.out);clear BK1669;clear BK1683;clear HB;have BK1669:=n0_;have BK1683:=n1_;have HB:=n2_;clear n0_ n1_ n2_;refine start_ (n:=9) (S:=fun w'=>w'.cell? ⟨gb1669,0,none⟩ = some (.slice (some ad1682) l0_0.length c0_0) ∧ w'.cell? ⟨gb1669,1,none⟩ = some (.slice A0_1 l0_1.length c0_1) ∧ w'.cell? ⟨gb1669,2,none⟩ = some (.int .i64 a0_2) ∧ w'.cell? ⟨gb1683,0,none⟩ = some (.int .i64 ((rd_T147 l0_0 x3_2).f0)) ∧ w'.cell? ⟨gb1683,1,none⟩ = some (.int .i64 ((rd_T147 l0_0 x3_2).f1))) (ds:=[]) #[false,false,false,false,false,false,false,false,false] (by kernel_rfl) rfl rfl ⟨(blk_cell BK1669.out 0).trans rfl,(blk_cell BK1669.out 1).trans rfl,(blk_cell BK1669.out 2).trans rfl,(blk_cell BK1683.out 0).trans rfl,(blk_cell BK1683.out 1).trans rfl⟩ (fun hHeld=>?_);refine with_tabW spec_StoreOk.tab12 spec_StoreOk.bits12 (fun HT_ HW_=>?_);generalize wr.drew = w47 at BK1669 BK1683 HB hHeld ⊢;refine pure_ (i:=0) (N:=some 68) (v:=?_) (a':=?_) #[true,false,false,false,false,false,false,false,false] rfl rfl (any_of HT_.out (by kernel_rfl)) (fun _ _ _ h=>h) (Or.inl ⟨by rfl,?_⟩) ?_ ?_;rotate_left
            ·intro w';go_simp;with_reducible rfl
            rotate_left
            ·simp only [Act.put,List.setIfInBounds_toArray,List.set_cons_zero,List.set_cons_succ,i64_w,i32_w];rfl
            refine pure_ (i:=2) (N:=some 70) (v:=?_) (a':=?_) #[true,false,true,false,false,false,false,false,false] rfl rfl (any_of HT_.out (by kernel_rfl)) (fun _ _ _ h=>h) (Or.inl ⟨by rfl,?_⟩) ?_ ?_;rotate_left
            ·intro w';go_simp;with_reducible rfl
            rotate_left
            ·simp only [Act.put,List.setIfInBounds_toArray,List.set_cons_zero,List.set_cons_succ,i64_w,i32_w];rfl
            refine pure_ (i:=4) (N:=some 72) (v:=?_) (a':=?_) #[true,false,true,false,true,false,false,false,false] rfl rfl (any_of HT_.out (by kernel_rfl)) (fun _ _ _ h=>h) (Or.inl ⟨by rfl,?_⟩) ?_ ?_;rotate_left
            ·intro w';go_simp;with_reducible rfl
            rotate_left
            ·simp only [Act.put,List.setIfInBounds_toArray,List.set_cons_zero,List.set_cons_succ,i64_w,i32_w];rfl
            refine pure_ (i:=6) (N:=some 74) (v:=?_) (a':=?_) #[true,false,true,false,true,false,true,false,false] rfl rfl (any_of HT_.out (by kernel_rfl)) (fun _ _ _ h=>h) (Or.inl ⟨by rfl,?_⟩) ?_ ?_;rotate_left
            ·intro w';go_simp;with_reducible rfl
            rotate_left
            ·simp only [Act.put,List.setIfInBounds_toArray,List.set_cons_zero,List.set_cons_succ,i64_w,i32_w];rfl
            refine take_ (i:=1) (N:=some 69) (v:=?_) (a':=?_) #[true,true,true,false,true,false,true,false,false] rfl rfl (take_ofW HT_.out HW_.out (by kernel_rfl)) (fun _ _ _ h=>h) (Or.inl ⟨by rfl,?_⟩) hHeld ?_ ?_;rotate_left
            ·rintro w' ⟨s0,s1,s2,s3,s4⟩;go_simp;with_reducible rfl
            rotate_left
            ·simp only [Act.put,List.setIfInBounds_toArray,List.set_cons_zero,List.set_cons_succ,i64_w,i32_w];rfl
            refine take_ (i:=3) (N:=some 71) (v:=?_) (a':=?_) #[true,true,true,true,true,false,true,false,false] rfl rfl (take_ofW HT_.out HW_.out (by kernel_rfl)) (fun _ _ _ h=>h) (Or.inl ⟨by rfl,?_⟩) hHeld ?_ ?_;rotate_left
            ·rintro w' ⟨s0,s1,s2,s3,s4⟩;go_simp;with_reducible rfl
            rotate_left
            ·simp only [Act.put,List.setIfInBounds_toArray,List.set_cons_zero,List.set_cons_succ,i64_w,i32_w];rfl
            refine take_ (i:=7) (N:=some 75) (v:=?_) (a':=?_) #[true,true,true,true,true,false,true,true,false] rfl rfl (take_ofW HT_.out HW_.out (by kernel_rfl)) (fun _ _ _ h=>h) (Or.inl ⟨by rfl,?_⟩) hHeld ?_ ?_;rotate_left
            ·rintro w' ⟨s0,s1,s2,s3,s4⟩;go_simp;with_reducible rfl
            rotate_left
            ·simp only [Act.put,List.setIfInBounds_toArray,List.set_cons_zero,List.set_cons_succ,i64_w,i32_w];rfl
            refine one_ (i:=5) (N:=some 73) #[true,true,true,true,true,true,true,true,false] rfl rfl (one_of HT_.out (by kernel_rfl)) (by decide) (fun K hK=>?_);refine goes_ Try.func135 (by kernel_rfl) rfl #[.agg #[.slice A0_1 l0_1.length c0_1],.int .i64 ((rd_T147 l0_0 x3_2).f1),.int .i64 x5_4] (by rfl) rfl rfl (by (try simp only [List.map_toArray,List.map_cons,List.map_nil]);first | done | rfl | (simp only [List.length_drop,List.length_take];rfl)) ?_;with_reducible refine (spec_l11Get.calls _ _ l0_1 ((rd_T147 l0_0 x3_2).f1) x5_4 t1688 _ ?side1 ?side2 A43.out).mono ?_
            (case side1=>repeat (first | exact (Kd.C_below HR0_1.out HB.out) | (with_reducible refine Kd.C_alloc ?_ _) | (with_reducible refine Kd.C_drewN ?_ _) | (with_reducible refine Kd.C_drew ?_)))
            (case side2=>exact HC0_1.out)
            rintro e w48 ⟨rfl,hb⟩;refine ⟨_,rfl,?_⟩;have n0_:=Aside0.mk (blk_below (g:=gb1669) (o:=.cells #[.slice (some ad1682) l0_0.length c0_0,.slice A0_1 l0_1.length c0_1,.int .i64 a0_2] 83 (0,0)) (bs BK1669) hb);have n1_:=Aside0.mk (blk_below (g:=gb1683) (o:=.cells #[.int .i64 ((rd_T147 l0_0 x3_2).f0),.int .i64 ((rd_T147 l0_0 x3_2).f1)] 147 (0,0)) (bs BK1683) hb);have n2_:=Aside0.mk (below_step (hs2 HB GE1669 GE1683) hb);clear BK1669;clear BK1683;clear HB;have BK1669:=n0_;have BK1683:=n1_;have HB:=n2_;clear n0_ n1_ n2_
            (try clear hb)
            (try clear hb2)
            (try clear hk)
            (try clear hi)
            refine hK.out _ _ ⟨(blk_cell BK1669.out 0).trans rfl,(blk_cell BK1669.out 1).trans rfl,(blk_cell BK1669.out 2).trans rfl,(blk_cell BK1683.out 0).trans rfl,(blk_cell BK1683.out 1).trans rfl⟩ (fun hHeld=>?_);clear hK K;refine norm_ (a':=?_) ?_ ?_;rotate_left
            ·show Act.put _ (some 73) _ = _;simp only [Act.put,List.setIfInBounds_toArray,List.set_cons_zero,List.set_cons_succ,i64_w,i32_w];rfl
            refine pure_ (i:=8) (N:=some 76) (v:=?_) (a':=?_) #[true,true,true,true,true,true,true,true,true] rfl rfl (any_of HT_.out (by kernel_rfl)) (fun _ _ _ h=>h) (Or.inl ⟨by rfl,?_⟩) ?_ ?_;rotate_left
            ·intro w';go_simp;with_reducible rfl
            rotate_left
            ·simp only [Act.put,List.setIfInBounds_toArray,List.set_cons_zero,List.set_cons_succ,i64_w,i32_w];rfl
            refine done_ (done_of HT_.out (by kernel_rfl)) ?_
            try go_wp2
            go_roundg k4;case measure=>have:=HJ1.out;have:=HK2.out;have:=HJ16.out;have:=HK4.out;omega
            case rel=>exact ⟨(wrap64 (x5_4 + 1)),(by first | rfl | (simp;done) | (simp [*];done)),H',⟨by have:=HJ1.out;have:=HK2.out;have:=HJ16.out;have:=HK4.out;omega⟩,⟨bs BK1669⟩,⟨bs BK1683⟩,⟨hs2 HB GE1669 GE1683⟩⟩
           rw [if_neg c42] at H;have c42b0 : decide (x5_4 < 16) = false:=decide_eq_false c42;clear c42;have H':=Aside0.mk H;clear H
           go_wp2
           go_roundg k4;case measure=>have:=HJ1.out;have:=HK2.out;have:=HJ16.out;have:=HK4.out;omega
           case rel=>exact ⟨(wrap64 (x3_2 + 1)),(by first | rfl | (simp;done) | (simp [*];done)),H',⟨by have:=HJ1.out;have:=HK2.out;have:=HJ16.out;have:=HK4.out;omega⟩,⟨bs BK1669⟩,⟨hs2 HB GE1669 GE1683⟩⟩
      rw [if_neg c16] at H;exact absurd H (by simp)
     rw [if_neg c15] at H;have c15b0 : decide (x3_2 < (l0_0.length : Int)) = false:=decide_eq_false c15;clear c15;replace H:=Option.bind_eq_some_iff.mp H;obtain ⟨t1672,A490,H⟩:=H;replace H : ((spec_SweepArena.f k2 l0_1 t1672).bind fun bt1675=>(some ((bt1675.1.length : Int) == (l0_1.length : Int)))) = some r:=H;have A49:=Aside0.mk A490;clear A490;replace H:=Option.bind_eq_some_iff.mp H;obtain ⟨⟨t1675,t1678⟩,A500,H⟩:=H;replace H : (some ((t1675.length : Int) == (l0_1.length : Int))) = some r:=H;have A50:=Aside0.mk A500;clear A500;obtain rfl:=Option.some.inj H;have hcz51_0 : wr.cell? ⟨gb1669,0,none⟩ = some (.slice A0_0 l0_0.length c0_0):=(blk_cell BK1669.out 0).trans rfl;have hcz51_1 : wr.cell? ⟨gb1669,1,none⟩ = some (.slice A0_1 l0_1.length c0_1):=(blk_cell BK1669.out 1).trans rfl;have hcz51_2 : wr.cell? ⟨gb1669,2,none⟩ = some (.int .i64 a0_2):=(blk_cell BK1669.out 2).trans rfl;have hfz51_0:=blk_frozen BK1669.out 0;have hfz51_1:=blk_frozen BK1669.out 1;have hfz51_2:=blk_frozen BK1669.out 2
     try go_wp2
     have n0_:=Aside0.mk (blk_drew BK1669.out);have n1_:=Aside0.mk (below_drew1 HB.out);clear BK1669;clear HB;have BK1669:=n0_;have HB:=n1_;clear n0_ n1_;refine start_ (n:=11) (S:=fun w'=>w'.cell? ⟨gb1669,0,none⟩ = some (.slice A0_0 l0_0.length c0_0) ∧ w'.cell? ⟨gb1669,1,none⟩ = some (.slice A0_1 l0_1.length c0_1) ∧ w'.cell? ⟨gb1669,2,none⟩ = some (.int .i64 a0_2)) (ds:=[]) #[false,false,false,false,false,false,false,false,false,false,false] (by kernel_rfl) rfl rfl ⟨(blk_cell BK1669.out 0).trans rfl,(blk_cell BK1669.out 1).trans rfl,(blk_cell BK1669.out 2).trans rfl⟩ (fun hHeld=>?_);refine with_tabW spec_StoreOk.tab14 spec_StoreOk.bits14 (fun HT_ HW_=>?_);generalize wr.drew = w52 at BK1669 HB hHeld ⊢;refine pure_ (i:=0) (N:=some 78) (v:=?_) (a':=?_) #[true,false,false,false,false,false,false,false,false,false,false] rfl rfl (any_of HT_.out (by kernel_rfl)) (fun _ _ _ h=>h) (Or.inl ⟨by rfl,?_⟩) ?_ ?_;rotate_left
     ·intro w';go_simp;with_reducible rfl
     rotate_left
     ·simp only [Act.put,List.setIfInBounds_toArray,List.set_cons_zero,List.set_cons_succ,i64_w,i32_w];rfl
     refine take_ (i:=1) (N:=some 79) (v:=?_) (a':=?_) #[true,true,false,false,false,false,false,false,false,false,false] rfl rfl (take_ofW HT_.out HW_.out (by kernel_rfl)) (fun _ _ _ h=>h) (Or.inl ⟨by rfl,?_⟩) hHeld ?_ ?_;rotate_left
     ·rintro w' ⟨s0,s1,s2⟩;go_simp;with_reducible rfl
     rotate_left
     ·simp only [Act.put,List.setIfInBounds_toArray,List.set_cons_zero,List.set_cons_succ,i64_w,i32_w];rfl
     refine take_ (i:=2) (N:=some 80) (v:=?_) (a':=?_) #[true,true,true,false,false,false,false,false,false,false,false] rfl rfl (take_ofW HT_.out HW_.out (by kernel_rfl)) (fun _ _ _ h=>h) (Or.inl ⟨by rfl,?_⟩) hHeld ?_ ?_;rotate_left
     ·rintro w' ⟨s0,s1,s2⟩;go_simp;with_reducible rfl
     rotate_left
     ·simp only [Act.put,List.setIfInBounds_toArray,List.set_cons_zero,List.set_cons_succ,i64_w,i32_w];rfl
     refine join_ (σ:=Value × Value × Value × Nat) 2 #[true,true,true,true,true,true,true,true,true,false,false] (fun s_=>[(81,s_.1),(82,.tuple #[.agg #[s_.2.1],s_.2.2.1]),(6,.pointer (some ⟨s_.2.2.2,0,none⟩)),(77,.tuple #[.agg #[s_.2.1],s_.2.2.1]),(83,.agg #[s_.2.1]),(84,s_.2.2.1)]) (fun s_ w'=>(w'.cell? ⟨gb1669,0,none⟩ = some (.slice A0_0 l0_0.length c0_0) ∧ w'.cell? ⟨gb1669,1,none⟩ = some (.slice A0_1 l0_1.length c0_1) ∧ w'.cell? ⟨gb1669,2,none⟩ = some (.int .i64 a0_2)) ∧ (Kd.R (Kd.int .i64) 3 w' w.heap.size (fun k_=>some k_ ≠ (s_.2.2.1 : Value).ownBlock) s_.1 t1672) ∧ (Kd.S k133 133 w' w.heap.size (fun k_=>some k_ ≠ (s_.1 : Value).ownBlock ∧ some k_ ≠ (s_.2.2.1 : Value).ownBlock) s_.2.1 t1675) ∧ (Kd.R (Kd.int .i64) 3 w' w.heap.size (fun k_=>some k_ ≠ (s_.1 : Value).ownBlock) s_.2.2.1 t1678) ∧ (w'.heap[gb1669]? = some (.cells #[.slice A0_0 l0_0.length c0_0,.slice A0_1 l0_1.length c0_1,.int .i64 a0_2] 83 (0,0))) ∧ (w'.heap[s_.2.2.2]? = some (.cells #[.slice none 0 0] 44 (0,0))) ∧ (w.heap.size ≤ s_.2.2.2) ∧ (w.heap.size ≤ s_.2.2.2) ∧ (gb1669 ≠ s_.2.2.2) ∧ (s_.2.2.2 ≠ gb1669) ∧ (Below w.heap.size w w')) ?_ ?_;rotate_left
     ·intro hCont;refine two_ (i:=3) (j:=8) (Ni:=some 81) (Nj:=some 6) #[true,true,true,true,false,false,false,false,false,false,false] #[true,true,true,false,false,false,false,false,true,false,false] rfl rfl rfl rfl (two_of HT_.out (by kernel_rfl)) (by decide) (by decide) (fun K hK=>?_) (fun K hK=>?_)
      ·skip
       refine goes_ Try.func136 (by kernel_rfl) rfl #[.agg #[.slice A0_0 l0_0.length c0_0,.slice A0_1 l0_1.length c0_1,.int .i64 a0_2]] (by rfl) rfl rfl (by (try simp only [List.map_toArray,List.map_cons,List.map_nil]);first | done | rfl | (simp only [List.length_drop,List.length_take];rfl)) ?_;with_reducible refine (spec_l12Roots.calls k2 _ _ l0_0 _ _ l0_1 a0_2 t1672 _ ?side1 ?side2 ?side3 ?side4 A49.out).mono ?_
       (case side1=>repeat (first | exact (Kd.C_below HR0_0.out HB.out) | (with_reducible refine Kd.C_alloc ?_ _) | (with_reducible refine Kd.C_drewN ?_ _) | (with_reducible refine Kd.C_drew ?_)))
       (case side2=>exact HC0_0.out)
       (case side3=>repeat (first | exact (Kd.C_below HR0_1.out HB.out) | (with_reducible refine Kd.C_alloc ?_ _) | (with_reducible refine Kd.C_drewN ?_ _) | (with_reducible refine Kd.C_drew ?_)))
       (case side4=>exact HC0_1.out)
       rintro e w53 ⟨v1673,rfl,ho0,hb⟩;refine ⟨_,rfl,?_⟩;have n0_:=Aside0.mk (Kd.R_lower ho0 (below_size (hs1 HB GE1669)));have n1_:=Aside0.mk (blk_below (g:=gb1669) (o:=.cells #[.slice A0_0 l0_0.length c0_0,.slice A0_1 l0_1.length c0_1,.int .i64 a0_2] 83 (0,0)) (bs BK1669) hb);have n2_:=Aside0.mk (below_step (hs1 HB GE1669) hb);clear BK1669;clear HB;have HO1674:=n0_;have BK1669:=n1_;have HB:=n2_;clear n0_ n1_ n2_
       (try clear hb)
       (try clear hb2)
       (try clear hk)
       (try clear hi)
       (try clear ho0)
       obtain ⟨Ao54,co54,eo54⟩:=Kd.R_slice HO1674.out
       (first | subst eo54 | (injection eo54 with f1_ f2_ f3_;have f4_:=f1_.symm;have f5_:=f3_.symm;clear f1_ f2_ f3_;subst f4_;subst f5_))
       refine hK.out _ _ ⟨(blk_cell BK1669.out 0).trans rfl,(blk_cell BK1669.out 1).trans rfl,(blk_cell BK1669.out 2).trans rfl⟩ (fun hHeld=>?_);clear hK K;refine norm_ (a':=?_) ?_ ?_;rotate_left
       ·show Act.put _ (some 81) _ = _;simp only [Act.put,List.setIfInBounds_toArray,List.set_cons_zero,List.set_cons_succ,i64_w,i32_w];rfl
       refine two_ (i:=4) (j:=8) (Ni:=some 82) (Nj:=some 6) #[true,true,true,true,true,false,false,false,false,false,false] #[true,true,true,true,false,false,false,false,true,false,false] rfl rfl rfl rfl (two_of HT_.out (by kernel_rfl)) (by decide) (by decide) (fun K hK=>?_) (fun K hK=>?_)
       ·skip
        refine goes_ Try.func72 (by kernel_rfl) rfl #[.agg #[.slice A0_1 l0_1.length c0_1],.slice Ao54 t1672.length co54] (by rfl) rfl rfl (by (try simp only [List.map_toArray,List.map_cons,List.map_nil]);first | done | rfl | (simp only [List.length_drop,List.length_take];rfl)) ?_;with_reducible refine (spec_SweepArena.calls k2 _ _ l0_1 _ _ t1672 t1675 t1678 _ ?side1 ?side2 ?side3 ?side4 A50.out).mono ?_
        (case side1=>repeat (first | exact (Kd.C_below HR0_1.out HB.out) | (with_reducible refine Kd.C_alloc ?_ _) | (with_reducible refine Kd.C_drewN ?_ _) | (with_reducible refine Kd.C_drew ?_)))
        (case side2=>exact HC0_1.out)
        (case side3=>repeat (first | exact (Kd.R_reads' HO1674.out).2.2 | (with_reducible refine Kd.C_alloc ?_ _) | (with_reducible refine Kd.C_drewN ?_ _) | (with_reducible refine Kd.C_drew ?_)))
        (case side4=>exact (Kd.R_reads' HO1674.out).2.1)
        rintro e w55 ⟨v1676,v1679,rfl,ho0,ho1,hb⟩;refine ⟨_,rfl,?_⟩;have n0_:=Aside0.mk (Kd.R_elder' (rs HO1674) (Kd.R_base ho1) hb);have n1_:=Aside0.mk (Kd.S_lower (Kd.S_new' ho0 (Kd.R_lt (rs HO1674))) (below_size (hs1 HB GE1669)));have n2_:=Aside0.mk (Kd.R_lower (Kd.R_new' ho1 (Kd.R_lt (rs HO1674))) (below_size (hs1 HB GE1669)));have n3_:=Aside0.mk (blk_below (g:=gb1669) (o:=.cells #[.slice A0_0 l0_0.length c0_0,.slice A0_1 l0_1.length c0_1,.int .i64 a0_2] 83 (0,0)) (bs BK1669) hb);have n4_:=Aside0.mk (below_step (hs1 HB GE1669) hb);clear HO1674;clear BK1669;clear HB;have HO1674:=n0_;have HO1677:=n1_;have HO1680:=n2_;have BK1669:=n3_;have HB:=n4_;clear n0_ n1_ n2_ n3_ n4_
        (try clear hb)
        (try clear hb2)
        (try clear hk)
        (try clear hi)
        (try clear ho0)
        (try clear ho1)
        refine hK.out _ _ ⟨(blk_cell BK1669.out 0).trans rfl,(blk_cell BK1669.out 1).trans rfl,(blk_cell BK1669.out 2).trans rfl⟩ (fun hHeld=>?_);clear hK K;refine norm_ (a':=?_) ?_ ?_;rotate_left
        ·show Act.put _ (some 82) _ = _;simp only [Act.put,List.setIfInBounds_toArray,List.set_cons_zero,List.set_cons_succ,i64_w,i32_w];rfl
        refine pure_ (i:=5) (N:=some 77) (v:=?_) (a':=?_) #[true,true,true,true,true,true,false,false,false,false,false] rfl rfl (any_of HT_.out (by kernel_rfl)) (fun _ _ _ h=>h) (Or.inl ⟨by rfl,?_⟩) ?_ ?_;rotate_left
        ·intro w';go_simp;with_reducible rfl
        rotate_left
        ·simp only [Act.put,List.setIfInBounds_toArray,List.set_cons_zero,List.set_cons_succ,i64_w,i32_w];rfl
        refine pure_ (i:=6) (N:=some 83) (v:=?_) (a':=?_) #[true,true,true,true,true,true,true,false,false,false,false] rfl rfl (any_of HT_.out (by kernel_rfl)) (fun _ _ _ h=>h) (Or.inl ⟨by rfl,?_⟩) ?_ ?_;rotate_left
        ·intro w';go_simp;with_reducible rfl
        rotate_left
        ·simp only [Act.put,List.setIfInBounds_toArray,List.set_cons_zero,List.set_cons_succ,i64_w,i32_w];rfl
        refine pure_ (i:=7) (N:=some 84) (v:=?_) (a':=?_) #[true,true,true,true,true,true,true,true,false,false,false] rfl rfl (any_of HT_.out (by kernel_rfl)) (fun _ _ _ h=>h) (Or.inl ⟨by rfl,?_⟩) ?_ ?_;rotate_left
        ·intro w';go_simp;with_reducible rfl
        rotate_left
        ·simp only [Act.put,List.setIfInBounds_toArray,List.set_cons_zero,List.set_cons_succ,i64_w,i32_w];rfl
        refine one_ (i:=8) (N:=some 6) #[true,true,true,true,true,true,true,true,true,false,false] rfl rfl (one_of HT_.out (by kernel_rfl)) (by decide) (fun K hK=>?_);refine box_step ?hg (N:=6) ?hd (cs:=#[.slice none 0 0]) (t:=44) ?hr ?_;(case hd=>rfl);(case hg=>rfl);(case hr=>first | (go_simp;done) | (go_simp;rfl));intro gb1681 hg w56 hbox hb;have n0_:=Aside0.mk (Kd.R_below (rs HO1674) hb);have n1_:=Aside0.mk (Kd.S_below (ss HO1677) hb);have n2_:=Aside0.mk (Kd.R_below (rs HO1680) hb);have n3_:=Aside0.mk (blk_below (g:=gb1669) (o:=.cells #[.slice A0_0 l0_0.length c0_0,.slice A0_1 l0_1.length c0_1,.int .i64 a0_2] 83 (0,0)) (bs BK1669) hb);have n4_:=Aside0.mk (below_step (hs1 HB GE1669) hb);have n5_:=Aside0.mk (hbox);have n6_:=Aside0.mk ((by rw [hg];exact (below_size (hs1 HB GE1669)) : w.heap.size ≤ gb1681));have n7_:=Aside0.mk ((by rw [hg];exact (below_size (hs1 HB GE1669)) : w.heap.size ≤ gb1681));have n8_:=Aside0.mk ((by rw [hg];exact Nat.ne_of_lt (blk_lt (g:=gb1669) (o:=.cells #[.slice A0_0 l0_0.length c0_0,.slice A0_1 l0_1.length c0_1,.int .i64 a0_2] 83 (0,0)) (bs BK1669)) : gb1669 ≠ gb1681));have n9_:=Aside0.mk ((by rw [hg];exact Nat.ne_of_gt (blk_lt (g:=gb1669) (o:=.cells #[.slice A0_0 l0_0.length c0_0,.slice A0_1 l0_1.length c0_1,.int .i64 a0_2] 83 (0,0)) (bs BK1669)) : gb1681 ≠ gb1669));clear HO1674;clear HO1677;clear HO1680;clear BK1669;clear HB;have HO1674:=n0_;have HO1677:=n1_;have HO1680:=n2_;have BK1669:=n3_;have HB:=n4_;have BK1681:=n5_;have GW1681:=n6_;have GE1681:=n7_;have NB1669_1681:=n8_;have NB1681_1669:=n9_;clear n0_ n1_ n2_ n3_ n4_ n5_ n6_ n7_ n8_ n9_;clear hb hbox hg;refine hK.out _ _ ⟨(blk_cell BK1669.out 0).trans rfl,(blk_cell BK1669.out 1).trans rfl,(blk_cell BK1669.out 2).trans rfl⟩ (fun hHeld=>?_);clear hK K;refine norm_ (a':=?_) ?_ ?_;rotate_left
        ·show Act.put _ (some 6) _ = _;simp only [Act.put,List.setIfInBounds_toArray,List.set_cons_zero,List.set_cons_succ,i64_w,i32_w];rfl
        exact norm_ (by simp only [putAll,Act.put,List.setIfInBounds_toArray,List.set_cons_zero,List.set_cons_succ]) (hCont (.slice Ao54 t1672.length co54,v1676,v1679,gb1681) _ ⟨hHeld,(by (with_reducible repeat (first | apply Kd.R_alloc | apply Kd.R_drewN | apply Kd.R_drew));exact Kd.R_mono HO1674.out (fun _ hk=>hk.2)),(by (with_reducible repeat (first | apply Kd.S_alloc | apply Kd.S_drewN | apply Kd.S_drew));exact Kd.S_mono HO1677.out (fun _ hk=>⟨hk.2,hk.1⟩)),(by (with_reducible repeat (first | apply Kd.R_alloc | apply Kd.R_drewN | apply Kd.R_drew));exact Kd.R_mono HO1680.out (fun _ hk=>hk.2)),(bs BK1669),(bs BK1681),GW1681.out,GE1681.out,NB1669_1681.out,NB1681_1669.out,(hs2 HB GE1669 GE1681)⟩)
       skip
       refine box_step ?hg (N:=6) ?hd (cs:=#[.slice none 0 0]) (t:=44) ?hr ?_;(case hd=>rfl);(case hg=>rfl);(case hr=>first | (go_simp;done) | (go_simp;rfl));intro gb1681 hg w54 hbox hb;have n0_:=Aside0.mk (Kd.R_below (rs HO1674) hb);have n1_:=Aside0.mk (blk_below (g:=gb1669) (o:=.cells #[.slice A0_0 l0_0.length c0_0,.slice A0_1 l0_1.length c0_1,.int .i64 a0_2] 83 (0,0)) (bs BK1669) hb);have n2_:=Aside0.mk (below_step (hs1 HB GE1669) hb);have n3_:=Aside0.mk (hbox);have n4_:=Aside0.mk ((by rw [hg];exact (below_size (hs1 HB GE1669)) : w.heap.size ≤ gb1681));have n5_:=Aside0.mk ((by rw [hg];exact (below_size (hs1 HB GE1669)) : w.heap.size ≤ gb1681));have n6_:=Aside0.mk ((by rw [hg];exact Nat.ne_of_lt (blk_lt (g:=gb1669) (o:=.cells #[.slice A0_0 l0_0.length c0_0,.slice A0_1 l0_1.length c0_1,.int .i64 a0_2] 83 (0,0)) (bs BK1669)) : gb1669 ≠ gb1681));have n7_:=Aside0.mk ((by rw [hg];exact Nat.ne_of_gt (blk_lt (g:=gb1669) (o:=.cells #[.slice A0_0 l0_0.length c0_0,.slice A0_1 l0_1.length c0_1,.int .i64 a0_2] 83 (0,0)) (bs BK1669)) : gb1681 ≠ gb1669));clear HO1674;clear BK1669;clear HB;have HO1674:=n0_;have BK1669:=n1_;have HB:=n2_;have BK1681:=n3_;have GW1681:=n4_;have GE1681:=n5_;have NB1669_1681:=n6_;have NB1681_1669:=n7_;clear n0_ n1_ n2_ n3_ n4_ n5_ n6_ n7_;clear hb hbox hg;obtain ⟨Ao55,co55,eo55⟩:=Kd.R_slice HO1674.out
       (first | subst eo55 | (injection eo55 with f1_ f2_ f3_;have f4_:=f1_.symm;have f5_:=f3_.symm;clear f1_ f2_ f3_;subst f4_;subst f5_))
       refine hK.out _ _ ⟨(blk_cell BK1669.out 0).trans rfl,(blk_cell BK1669.out 1).trans rfl,(blk_cell BK1669.out 2).trans rfl⟩ (fun hHeld=>?_);clear hK K;refine norm_ (a':=?_) ?_ ?_;rotate_left
       ·show Act.put _ (some 6) _ = _;simp only [Act.put,List.setIfInBounds_toArray,List.set_cons_zero,List.set_cons_succ,i64_w,i32_w];rfl
       refine one_ (i:=4) (N:=some 82) #[true,true,true,true,true,false,false,false,true,false,false] rfl rfl (one_of HT_.out (by kernel_rfl)) (by decide) (fun K hK=>?_);refine goes_ Try.func72 (by kernel_rfl) rfl #[.agg #[.slice A0_1 l0_1.length c0_1],.slice Ao55 t1672.length co55] (by rfl) rfl rfl (by (try simp only [List.map_toArray,List.map_cons,List.map_nil]);first | done | rfl | (simp only [List.length_drop,List.length_take];rfl)) ?_;with_reducible refine (spec_SweepArena.calls k2 _ _ l0_1 _ _ t1672 t1675 t1678 _ ?side1 ?side2 ?side3 ?side4 A50.out).mono ?_
       (case side1=>repeat (first | exact (Kd.C_below HR0_1.out HB.out) | (with_reducible refine Kd.C_alloc ?_ _) | (with_reducible refine Kd.C_drewN ?_ _) | (with_reducible refine Kd.C_drew ?_)))
       (case side2=>exact HC0_1.out)
       (case side3=>repeat (first | exact (Kd.R_reads' HO1674.out).2.2 | (with_reducible refine Kd.C_alloc ?_ _) | (with_reducible refine Kd.C_drewN ?_ _) | (with_reducible refine Kd.C_drew ?_)))
       (case side4=>exact (Kd.R_reads' HO1674.out).2.1)
       rintro e w56 ⟨v1676,v1679,rfl,ho0,ho1,hb⟩;refine ⟨_,rfl,?_⟩;have n0_:=Aside0.mk (Kd.R_elder' (rs HO1674) (Kd.R_base ho1) hb);have n1_:=Aside0.mk (Kd.S_lower (Kd.S_new' ho0 (Kd.R_lt (rs HO1674))) (below_size (hs2 HB GE1669 GE1681)));have n2_:=Aside0.mk (Kd.R_lower (Kd.R_new' ho1 (Kd.R_lt (rs HO1674))) (below_size (hs2 HB GE1669 GE1681)));have n3_:=Aside0.mk (blk_below (g:=gb1669) (o:=.cells #[.slice A0_0 l0_0.length c0_0,.slice A0_1 l0_1.length c0_1,.int .i64 a0_2] 83 (0,0)) (bs BK1669) hb);have n4_:=Aside0.mk (blk_below (g:=gb1681) (o:=.cells #[.slice none 0 0] 44 (0,0)) (bs BK1681) hb);have n5_:=Aside0.mk (below_step (hs2 HB GE1669 GE1681) hb);clear HO1674;clear BK1669;clear BK1681;clear HB;have HO1674:=n0_;have HO1677:=n1_;have HO1680:=n2_;have BK1669:=n3_;have BK1681:=n4_;have HB:=n5_;clear n0_ n1_ n2_ n3_ n4_ n5_
       (try clear hb)
       (try clear hb2)
       (try clear hk)
       (try clear hi)
       (try clear ho0)
       (try clear ho1)
       refine hK.out _ _ ⟨(blk_cell BK1669.out 0).trans rfl,(blk_cell BK1669.out 1).trans rfl,(blk_cell BK1669.out 2).trans rfl⟩ (fun hHeld=>?_);clear hK K;refine norm_ (a':=?_) ?_ ?_;rotate_left
       ·show Act.put _ (some 82) _ = _;simp only [Act.put,List.setIfInBounds_toArray,List.set_cons_zero,List.set_cons_succ,i64_w,i32_w];rfl
       refine pure_ (i:=5) (N:=some 77) (v:=?_) (a':=?_) #[true,true,true,true,true,true,false,false,true,false,false] rfl rfl (any_of HT_.out (by kernel_rfl)) (fun _ _ _ h=>h) (Or.inl ⟨by rfl,?_⟩) ?_ ?_;rotate_left
       ·intro w';go_simp;with_reducible rfl
       rotate_left
       ·simp only [Act.put,List.setIfInBounds_toArray,List.set_cons_zero,List.set_cons_succ,i64_w,i32_w];rfl
       refine pure_ (i:=6) (N:=some 83) (v:=?_) (a':=?_) #[true,true,true,true,true,true,true,false,true,false,false] rfl rfl (any_of HT_.out (by kernel_rfl)) (fun _ _ _ h=>h) (Or.inl ⟨by rfl,?_⟩) ?_ ?_;rotate_left
       ·intro w';go_simp;with_reducible rfl
       rotate_left
       ·simp only [Act.put,List.setIfInBounds_toArray,List.set_cons_zero,List.set_cons_succ,i64_w,i32_w];rfl
       refine pure_ (i:=7) (N:=some 84) (v:=?_) (a':=?_) #[true,true,true,true,true,true,true,true,true,false,false] rfl rfl (any_of HT_.out (by kernel_rfl)) (fun _ _ _ h=>h) (Or.inl ⟨by rfl,?_⟩) ?_ ?_;rotate_left
       ·intro w';go_simp;with_reducible rfl
       rotate_left
       ·simp only [Act.put,List.setIfInBounds_toArray,List.set_cons_zero,List.set_cons_succ,i64_w,i32_w];rfl
       exact norm_ (by simp only [putAll,Act.put,List.setIfInBounds_toArray,List.set_cons_zero,List.set_cons_succ]) (hCont (.slice Ao55 t1672.length co55,v1676,v1679,gb1681) _ ⟨hHeld,(by (with_reducible repeat (first | apply Kd.R_alloc | apply Kd.R_drewN | apply Kd.R_drew));exact Kd.R_mono HO1674.out (fun _ hk=>hk.2)),(by (with_reducible repeat (first | apply Kd.S_alloc | apply Kd.S_drewN | apply Kd.S_drew));exact Kd.S_mono HO1677.out (fun _ hk=>⟨hk.2,hk.1⟩)),(by (with_reducible repeat (first | apply Kd.R_alloc | apply Kd.R_drewN | apply Kd.R_drew));exact Kd.R_mono HO1680.out (fun _ hk=>hk.2)),(bs BK1669),(bs BK1681),GW1681.out,GE1681.out,NB1669_1681.out,NB1681_1669.out,(hs2 HB GE1669 GE1681)⟩)
      skip
      refine box_step ?hg (N:=6) ?hd (cs:=#[.slice none 0 0]) (t:=44) ?hr ?_;(case hd=>rfl);(case hg=>rfl);(case hr=>first | (go_simp;done) | (go_simp;rfl));intro gb1681 hg w53 hbox hb;have n0_:=Aside0.mk (blk_below (g:=gb1669) (o:=.cells #[.slice A0_0 l0_0.length c0_0,.slice A0_1 l0_1.length c0_1,.int .i64 a0_2] 83 (0,0)) (bs BK1669) hb);have n1_:=Aside0.mk (below_step (hs1 HB GE1669) hb);have n2_:=Aside0.mk (hbox);have n3_:=Aside0.mk ((by rw [hg];exact (below_size (hs1 HB GE1669)) : w.heap.size ≤ gb1681));have n4_:=Aside0.mk ((by rw [hg];exact (below_size (hs1 HB GE1669)) : w.heap.size ≤ gb1681));have n5_:=Aside0.mk ((by rw [hg];exact Nat.ne_of_lt (blk_lt (g:=gb1669) (o:=.cells #[.slice A0_0 l0_0.length c0_0,.slice A0_1 l0_1.length c0_1,.int .i64 a0_2] 83 (0,0)) (bs BK1669)) : gb1669 ≠ gb1681));have n6_:=Aside0.mk ((by rw [hg];exact Nat.ne_of_gt (blk_lt (g:=gb1669) (o:=.cells #[.slice A0_0 l0_0.length c0_0,.slice A0_1 l0_1.length c0_1,.int .i64 a0_2] 83 (0,0)) (bs BK1669)) : gb1681 ≠ gb1669));clear BK1669;clear HB;have BK1669:=n0_;have HB:=n1_;have BK1681:=n2_;have GW1681:=n3_;have GE1681:=n4_;have NB1669_1681:=n5_;have NB1681_1669:=n6_;clear n0_ n1_ n2_ n3_ n4_ n5_ n6_;clear hb hbox hg;refine hK.out _ _ ⟨(blk_cell BK1669.out 0).trans rfl,(blk_cell BK1669.out 1).trans rfl,(blk_cell BK1669.out 2).trans rfl⟩ (fun hHeld=>?_);clear hK K;refine norm_ (a':=?_) ?_ ?_;rotate_left
      ·show Act.put _ (some 6) _ = _;simp only [Act.put,List.setIfInBounds_toArray,List.set_cons_zero,List.set_cons_succ,i64_w,i32_w];rfl
      refine one_ (i:=3) (N:=some 81) #[true,true,true,true,false,false,false,false,true,false,false] rfl rfl (one_of HT_.out (by kernel_rfl)) (by decide) (fun K hK=>?_);refine goes_ Try.func136 (by kernel_rfl) rfl #[.agg #[.slice A0_0 l0_0.length c0_0,.slice A0_1 l0_1.length c0_1,.int .i64 a0_2]] (by rfl) rfl rfl (by (try simp only [List.map_toArray,List.map_cons,List.map_nil]);first | done | rfl | (simp only [List.length_drop,List.length_take];rfl)) ?_;with_reducible refine (spec_l12Roots.calls k2 _ _ l0_0 _ _ l0_1 a0_2 t1672 _ ?side1 ?side2 ?side3 ?side4 A49.out).mono ?_
      (case side1=>repeat (first | exact (Kd.C_below HR0_0.out HB.out) | (with_reducible refine Kd.C_alloc ?_ _) | (with_reducible refine Kd.C_drewN ?_ _) | (with_reducible refine Kd.C_drew ?_)))
      (case side2=>exact HC0_0.out)
      (case side3=>repeat (first | exact (Kd.C_below HR0_1.out HB.out) | (with_reducible refine Kd.C_alloc ?_ _) | (with_reducible refine Kd.C_drewN ?_ _) | (with_reducible refine Kd.C_drew ?_)))
      (case side4=>exact HC0_1.out)
      rintro e w54 ⟨v1673,rfl,ho0,hb⟩;refine ⟨_,rfl,?_⟩;have n0_:=Aside0.mk (Kd.R_lower ho0 (below_size (hs2 HB GE1669 GE1681)));have n1_:=Aside0.mk (blk_below (g:=gb1669) (o:=.cells #[.slice A0_0 l0_0.length c0_0,.slice A0_1 l0_1.length c0_1,.int .i64 a0_2] 83 (0,0)) (bs BK1669) hb);have n2_:=Aside0.mk (blk_below (g:=gb1681) (o:=.cells #[.slice none 0 0] 44 (0,0)) (bs BK1681) hb);have n3_:=Aside0.mk (below_step (hs2 HB GE1669 GE1681) hb);clear BK1669;clear BK1681;clear HB;have HO1674:=n0_;have BK1669:=n1_;have BK1681:=n2_;have HB:=n3_;clear n0_ n1_ n2_ n3_
      (try clear hb)
      (try clear hb2)
      (try clear hk)
      (try clear hi)
      (try clear ho0)
      obtain ⟨Ao55,co55,eo55⟩:=Kd.R_slice HO1674.out
      (first | subst eo55 | (injection eo55 with f1_ f2_ f3_;have f4_:=f1_.symm;have f5_:=f3_.symm;clear f1_ f2_ f3_;subst f4_;subst f5_))
      refine hK.out _ _ ⟨(blk_cell BK1669.out 0).trans rfl,(blk_cell BK1669.out 1).trans rfl,(blk_cell BK1669.out 2).trans rfl⟩ (fun hHeld=>?_);clear hK K;refine norm_ (a':=?_) ?_ ?_;rotate_left
      ·show Act.put _ (some 81) _ = _;simp only [Act.put,List.setIfInBounds_toArray,List.set_cons_zero,List.set_cons_succ,i64_w,i32_w];rfl
      refine one_ (i:=4) (N:=some 82) #[true,true,true,true,true,false,false,false,true,false,false] rfl rfl (one_of HT_.out (by kernel_rfl)) (by decide) (fun K hK=>?_);refine goes_ Try.func72 (by kernel_rfl) rfl #[.agg #[.slice A0_1 l0_1.length c0_1],.slice Ao55 t1672.length co55] (by rfl) rfl rfl (by (try simp only [List.map_toArray,List.map_cons,List.map_nil]);first | done | rfl | (simp only [List.length_drop,List.length_take];rfl)) ?_;with_reducible refine (spec_SweepArena.calls k2 _ _ l0_1 _ _ t1672 t1675 t1678 _ ?side1 ?side2 ?side3 ?side4 A50.out).mono ?_
      (case side1=>repeat (first | exact (Kd.C_below HR0_1.out HB.out) | (with_reducible refine Kd.C_alloc ?_ _) | (with_reducible refine Kd.C_drewN ?_ _) | (with_reducible refine Kd.C_drew ?_)))
      (case side2=>exact HC0_1.out)
      (case side3=>repeat (first | exact (Kd.R_reads' HO1674.out).2.2 | (with_reducible refine Kd.C_alloc ?_ _) | (with_reducible refine Kd.C_drewN ?_ _) | (with_reducible refine Kd.C_drew ?_)))
      (case side4=>exact (Kd.R_reads' HO1674.out).2.1)
      rintro e w56 ⟨v1676,v1679,rfl,ho0,ho1,hb⟩;refine ⟨_,rfl,?_⟩;have n0_:=Aside0.mk (Kd.R_elder' (rs HO1674) (Kd.R_base ho1) hb);have n1_:=Aside0.mk (Kd.S_lower (Kd.S_new' ho0 (Kd.R_lt (rs HO1674))) (below_size (hs2 HB GE1669 GE1681)));have n2_:=Aside0.mk (Kd.R_lower (Kd.R_new' ho1 (Kd.R_lt (rs HO1674))) (below_size (hs2 HB GE1669 GE1681)));have n3_:=Aside0.mk (blk_below (g:=gb1669) (o:=.cells #[.slice A0_0 l0_0.length c0_0,.slice A0_1 l0_1.length c0_1,.int .i64 a0_2] 83 (0,0)) (bs BK1669) hb);have n4_:=Aside0.mk (blk_below (g:=gb1681) (o:=.cells #[.slice none 0 0] 44 (0,0)) (bs BK1681) hb);have n5_:=Aside0.mk (below_step (hs2 HB GE1669 GE1681) hb);clear HO1674;clear BK1669;clear BK1681;clear HB;have HO1674:=n0_;have HO1677:=n1_;have HO1680:=n2_;have BK1669:=n3_;have BK1681:=n4_;have HB:=n5_;clear n0_ n1_ n2_ n3_ n4_ n5_
      (try clear hb)
      (try clear hb2)
      (try clear hk)
      (try clear hi)
      (try clear ho0)
      (try clear ho1)
      refine hK.out _ _ ⟨(blk_cell BK1669.out 0).trans rfl,(blk_cell BK1669.out 1).trans rfl,(blk_cell BK1669.out 2).trans rfl⟩ (fun hHeld=>?_);clear hK K;refine norm_ (a':=?_) ?_ ?_;rotate_left
      ·show Act.put _ (some 82) _ = _;simp only [Act.put,List.setIfInBounds_toArray,List.set_cons_zero,List.set_cons_succ,i64_w,i32_w];rfl
      refine pure_ (i:=5) (N:=some 77) (v:=?_) (a':=?_) #[true,true,true,true,true,true,false,false,true,false,false] rfl rfl (any_of HT_.out (by kernel_rfl)) (fun _ _ _ h=>h) (Or.inl ⟨by rfl,?_⟩) ?_ ?_;rotate_left
      ·intro w';go_simp;with_reducible rfl
      rotate_left
      ·simp only [Act.put,List.setIfInBounds_toArray,List.set_cons_zero,List.set_cons_succ,i64_w,i32_w];rfl
      refine pure_ (i:=6) (N:=some 83) (v:=?_) (a':=?_) #[true,true,true,true,true,true,true,false,true,false,false] rfl rfl (any_of HT_.out (by kernel_rfl)) (fun _ _ _ h=>h) (Or.inl ⟨by rfl,?_⟩) ?_ ?_;rotate_left
      ·intro w';go_simp;with_reducible rfl
      rotate_left
      ·simp only [Act.put,List.setIfInBounds_toArray,List.set_cons_zero,List.set_cons_succ,i64_w,i32_w];rfl
      refine pure_ (i:=7) (N:=some 84) (v:=?_) (a':=?_) #[true,true,true,true,true,true,true,true,true,false,false] rfl rfl (any_of HT_.out (by kernel_rfl)) (fun _ _ _ h=>h) (Or.inl ⟨by rfl,?_⟩) ?_ ?_;rotate_left
      ·intro w';go_simp;with_reducible rfl
      rotate_left
      ·simp only [Act.put,List.setIfInBounds_toArray,List.set_cons_zero,List.set_cons_succ,i64_w,i32_w];rfl
      exact norm_ (by simp only [putAll,Act.put,List.setIfInBounds_toArray,List.set_cons_zero,List.set_cons_succ]) (hCont (.slice Ao55 t1672.length co55,v1676,v1679,gb1681) _ ⟨hHeld,(by (with_reducible repeat (first | apply Kd.R_alloc | apply Kd.R_drewN | apply Kd.R_drew));exact Kd.R_mono HO1674.out (fun _ hk=>hk.2)),(by (with_reducible repeat (first | apply Kd.S_alloc | apply Kd.S_drewN | apply Kd.S_drew));exact Kd.S_mono HO1677.out (fun _ hk=>⟨hk.2,hk.1⟩)),(by (with_reducible repeat (first | apply Kd.R_alloc | apply Kd.R_drewN | apply Kd.R_drew));exact Kd.R_mono HO1680.out (fun _ hk=>hk.2)),(bs BK1669),(bs BK1681),GW1681.out,GE1681.out,NB1669_1681.out,NB1681_1669.out,(hs2 HB GE1669 GE1681)⟩)
     rintro ⟨v1673,v1676,v1679,gb1681⟩ w57 ⟨hS_,h0_,h1_,h2_,h3_,h4_,h5_,h6_,h7_,h8_,h9_⟩;have n0_ : Aside0 (Kd.R (Kd.int .i64) 3 w57 w.heap.size (fun k_=>some k_ ≠ (v1679 : Value).ownBlock) v1673 t1672):=⟨h0_⟩;have n1_ : Aside0 (Kd.S k133 133 w57 w.heap.size (fun k_=>some k_ ≠ (v1673 : Value).ownBlock ∧ some k_ ≠ (v1679 : Value).ownBlock) v1676 t1675):=⟨h1_⟩;have n2_ : Aside0 (Kd.R (Kd.int .i64) 3 w57 w.heap.size (fun k_=>some k_ ≠ (v1673 : Value).ownBlock) v1679 t1678):=⟨h2_⟩;have n3_ : Aside0 (w57.heap[gb1669]? = some (.cells #[.slice A0_0 l0_0.length c0_0,.slice A0_1 l0_1.length c0_1,.int .i64 a0_2] 83 (0,0))):=⟨h3_⟩;have n4_ : Aside0 (w57.heap[gb1681]? = some (.cells #[.slice none 0 0] 44 (0,0))):=⟨h4_⟩;have n5_ : Aside0 (w.heap.size ≤ gb1681):=⟨h5_⟩;have n6_ : Aside0 (w.heap.size ≤ gb1681):=⟨h6_⟩;have n7_ : Aside0 (gb1669 ≠ gb1681):=⟨h7_⟩;have n8_ : Aside0 (gb1681 ≠ gb1669):=⟨h8_⟩;have n9_ : Aside0 (Below w.heap.size w w57):=⟨h9_⟩;clear BK1669;clear HB;clear h0_ h1_ h2_ h3_ h4_ h5_ h6_ h7_ h8_ h9_;have HO1674:=n0_;have HO1677:=n1_;have HO1680:=n2_;have BK1669:=n3_;have BK1681:=n4_;have GW1681:=n5_;have GE1681:=n6_;have NB1669_1681:=n7_;have NB1681_1669:=n8_;have HB:=n9_;clear n0_ n1_ n2_ n3_ n4_ n5_ n6_ n7_ n8_ n9_;have hHeld : w57.cell? ⟨gb1669,0,none⟩ = some (.slice A0_0 l0_0.length c0_0) ∧ w57.cell? ⟨gb1669,1,none⟩ = some (.slice A0_1 l0_1.length c0_1) ∧ w57.cell? ⟨gb1669,2,none⟩ = some (.int .i64 a0_2):=hS_;obtain ⟨Ao58,co58,eo58⟩:=Kd.S_slice HO1677.out
     (first | subst eo58 | (injection eo58 with f1_ f2_ f3_;have f4_:=f1_.symm;have f5_:=f3_.symm;clear f1_ f2_ f3_;subst f4_;subst f5_))
     refine norm_ (a':=?_) ?_ ?_;rotate_left
     ·simp only [putAll,Act.put,List.setIfInBounds_toArray,List.set_cons_zero,List.set_cons_succ];rfl
     refine one_ (i:=9) (N:=none) #[true,true,true,true,true,true,true,true,true,true,false] rfl rfl (one_of HT_.out (by kernel_rfl)) (by decide) (fun K hK=>?_);have hs59 : w57.cell? ⟨gb1681,0,none⟩ = some (.slice none 0 0):=(blk_cell BK1681.out 0).trans rfl;have hfs59:=blk_frozen BK1681.out 0;have hns59_0:=NB1669_1681.out;have hms59_0:=NB1681_1669.out;refine skip_ (w1:=?_) (by rfl) rfl ?_ ?_;rotate_left
     ·go_simp;rfl
     refine hK.out _ _ ⟨((cell_far (p:=⟨gb1681,_,none⟩) NB1669_1681.out _).trans (hHeld.1)),((cell_far (p:=⟨gb1681,_,none⟩) NB1669_1681.out _).trans (hHeld.2.1)),((cell_far (p:=⟨gb1681,_,none⟩) NB1669_1681.out _).trans (hHeld.2.2))⟩ (fun hHeld=>?_);clear hK K;refine pure_ (i:=10) (N:=some 7) (v:=?_) (a':=?_) #[true,true,true,true,true,true,true,true,true,true,true] rfl rfl (any_of HT_.out (by kernel_rfl)) (fun _ _ _ h=>h) (Or.inl ⟨by rfl,?_⟩) ?_ ?_;rotate_left
     ·intro w';go_simp;with_reducible rfl
     rotate_left
     ·simp only [Act.put,List.setIfInBounds_toArray,List.set_cons_zero,List.set_cons_succ,i64_w,i32_w];rfl
     refine done_ (done_of HT_.out (by kernel_rfl)) ?_;have hnb60:=NB1681_1669.out;have hnc60:=NB1669_1681.out;have hcz61_0 : w57.cell? ⟨gb1681,0,none⟩ = some (.slice none 0 0):=(blk_cell BK1681.out 0).trans rfl;have hfz61_0:=blk_frozen BK1681.out 0;have hcz62_0 : w57.cell? ⟨gb1669,0,none⟩ = some (.slice A0_0 l0_0.length c0_0):=(blk_cell BK1669.out 0).trans rfl;have hcz62_1 : w57.cell? ⟨gb1669,1,none⟩ = some (.slice A0_1 l0_1.length c0_1):=(blk_cell BK1669.out 1).trans rfl;have hcz62_2 : w57.cell? ⟨gb1669,2,none⟩ = some (.int .i64 a0_2):=(blk_cell BK1669.out 2).trans rfl;have hfz62_0:=blk_frozen BK1669.out 0;have hfz62_1:=blk_frozen BK1669.out 1;have hfz62_2:=blk_frozen BK1669.out 2
     try go_wp2
     go_ret
     exact ⟨by first | rfl | (simp [errW_none,errW_some] <;> rfl) | (simp [*,errW_none,errW_some] <;> rfl),hs2 HB GE1669 GE1681⟩
end Go.Proofs.Ytdolplcbokioaaa.PB

namespace Go.Proofs.Ytdolplcbokioaaa.PB
open Go.RowKit Go.Proofs.YtdolplcbokioaaaW.PrintWords Go.Proofs.YtdolplcbokioaaaW.PrintLast Go.Proofs.YtdolplcbokioaaaW.PrintMore
attribute [local go_sem] max2_int min2_int max_two min_two max_three min_three max_four min_four   -- for this text's walks alone
set_option linter.unusedVariables false
set_option linter.unusedSimpArgs false
def impl_in.f (a0 : Int) (a1 : Int) (a2 : Int) : Option (Bool):=if a0 ≥ a1 then (some (decide (a0 ≤ a2))) else (some false)
set_option maxHeartbeats 8000000 in
set_option maxRecDepth 100000 in
theorem impl_in.calls (a0 : Int) (a1 : Int) (a2 : Int) (r : Bool) (w : World) (h : impl_in.f a0 a1 a2 = some r) :
  Calls Try.prog 84 #[.int .i64 a0,.int .i64 a1,.int .i64 a2] w fun e w'=>e = .returned (.bool r) ∧ Drawn0 w w':=by
 have H : (if a0 ≥ a1 then (some (decide (a0 ≤ a2))) else (some false)) = some r:=h;clear h
 by_cases c4 : a0 ≥ a1
 ·rw [if_pos c4] at H;have c4b0 : decide (a1 ≤ a0) = true:=decide_eq_true c4;clear c4;obtain rfl:=Option.some.inj H
  go_enter Try.func84,Try.ntmps84
  go_wp2
  go_ret
  exact ⟨by first | rfl | (simp;done) | (simp [*];done),by repeat (first | exact Drawn0.refl _ | apply Drawn0.step)⟩
 rw [if_neg c4] at H;have c4b0 : decide (a1 ≤ a0) = false:=decide_eq_false c4;clear c4;obtain rfl:=Option.some.inj H
 go_enter Try.func84,Try.ntmps84
 go_wp2
 go_ret
 exact ⟨by first | rfl | (simp;done) | (simp [*];done),by repeat (first | exact Drawn0.refl _ | apply Drawn0.step)⟩
end Go.Proofs.Ytdolplcbokioaaa.PB

namespace Go.Proofs.Ytdolplcbokioaaa.PB
open Go.RowKit Go.Proofs.YtdolplcbokioaaaW.PrintWords Go.Proofs.YtdolplcbokioaaaW.PrintLast Go.Proofs.YtdolplcbokioaaaW.PrintMore
attribute [local go_sem] max2_int min2_int max_two min_two max_three min_three max_four min_four   -- for this text's walks alone
set_option linter.unusedVariables false
set_option linter.unusedSimpArgs false
def impl_hasInt.l0 : Nat → Int → List Int → Int → Int → Option (Bool)
 | 0,_,_,_,_=>none
 | k + 1,x1,x7,x8,x9=>if x9 < x8 then (if 0 ≤ x9 then (if x9 < (x7.length : Int) then (if (rd x7 x9) = x1 then (some true) else (impl_hasInt.l0 k x1 x7 x8 (wrap64 (x9 + 1)))) else (none)) else (none)) else (some false)
def impl_hasInt.f (k : Nat) (l0 : List Int) (a1 : Int) : Option (Bool):=impl_hasInt.l0 k a1 l0 (l0.length : Int) 0
theorem impl_hasInt.mono_l : ∀ k,(∀ y0 y1 y2 y3,LeO (impl_hasInt.l0 k y0 y1 y2 y3) (impl_hasInt.l0 (k + 1) y0 y1 y2 y3))
 | 0=>fun _ _ _ _ r h=>by simp [impl_hasInt.l0] at h
 | k + 1=>by
  have ih0:=impl_hasInt.mono_l k;intro y0 y1 y2 y3;unfold impl_hasInt.l0
  repeat' first
  | (with_reducible exact ih0 _ _ _ _)
  | (with_reducible exact LeO.refl _)
  | (with_reducible exact LeO.none _)
  | (with_reducible refine LeO.ite ?_ ?_)
  | (with_reducible refine LeO.bind ?_ (fun _=>?_))
  | exact ih0 _ _ _ _
  | exact LeO.none _
  | refine LeO.ite ?_ ?_
  | refine LeO.bind ?_ (fun _=>?_)
theorem impl_hasInt.mono : ∀ a0 a1 k,LeO (impl_hasInt.f k a0 a1) (impl_hasInt.f (k + 1) a0 a1):=by
 intro a0 a1 k;have ih0:=impl_hasInt.mono_l k;unfold impl_hasInt.f
 repeat' first
   | (with_reducible exact ih0 _ _ _ _)
   | (with_reducible exact LeO.refl _)
   | (with_reducible exact LeO.none _)
   | (with_reducible refine LeO.ite ?_ ?_)
   | (with_reducible refine LeO.bind ?_ (fun _=>?_))
   | exact ih0 _ _ _ _
   | exact LeO.none _
   | refine LeO.ite ?_ ?_
   | refine LeO.bind ?_ (fun _=>?_)
set_option maxHeartbeats 8000000 in
set_option maxRecDepth 100000 in
theorem impl_hasInt.calls (k : Nat) (A0 : Option Addr) (c0 : Nat) (l0 : List Int) (a1 : Int) (r : Bool) (w : World) (hr0 : Kd.C (Kd.int .i64) w A0 l0.length l0) (hc0 : l0.length ≤ c0) (h : impl_hasInt.f k l0 a1 = some r) :
  Calls Try.prog 87 #[.slice A0 l0.length c0,.int .i64 a1] w fun e w'=>e = .returned (.bool r) ∧ Drawn0 w w':=by
 have HR0:=Aside0.mk hr0;have HC0:=Aside0.mk hc0;clear hr0 hc0;have H : (impl_hasInt.l0 k a1 l0 (l0.length : Int) 0) = some r:=h;clear h;have H':=Aside0.mk H;clear H
 go_enter Try.func87,Try.ntmps87
 go_wp2
 go_loopg [9] k (fun kq v9 w'=>∃ (x9_1 : Int),v9 = .int .i64 x9_1 ∧ Aside0 (impl_hasInt.l0 kq a1 l0 (l0.length : Int) x9_1 = some r) ∧ Aside0 (kq ≤ k) ∧ Drawn0 w w');case atStart=>exact ⟨(0),(by first | rfl | (simp;done) | (simp [*];done)),H',⟨Nat.le_refl _⟩,by repeat (first | exact Drawn0.refl _ | apply Drawn0.step)⟩
 case round =>
  clear H'
  try clear p2
  obtain ⟨x9_1,rfl,HA,HK1,⟨m1,rfl⟩⟩:=hrel;cases gk with
  | zero=>exact absurd HA.out (by simp [impl_hasInt.l0])
  | succ k1 =>
   have H:=HA.out;clear HA;simp only [impl_hasInt.l0] at H
   by_cases c3 : x9_1 < (l0.length : Int)
   ·rw [if_pos c3] at H;have c3b0 : decide (x9_1 < (l0.length : Int)) = true:=decide_eq_true c3;clear c3
    by_cases c4 : 0 ≤ x9_1
    ·rw [if_pos c4] at H;have c4b0 : decide (0 ≤ x9_1) = true:=decide_eq_true c4;clear c4
     by_cases c5 : x9_1 < (l0.length : Int)
     ·rw [if_pos c5] at H;have c5b0 : decide (x9_1 < (l0.length : Int)) = true:=decide_eq_true c5;clear c5
      by_cases c6 : (rd l0 x9_1) = a1
      ·rw [if_pos c6] at H;have c6b0 : ((rd l0 x9_1) == a1) = true:=beq_iff_eq.mpr c6;have c6b1 : ((rd l0 x9_1) != a1) = false:=bne_eq_false_iff_eq.mpr c6;clear c6;obtain rfl:=Option.some.inj H;have p298 : 0 ≤ (x9_1 : Int):=of_decide_eq_true (by first | (with_reducible assumption) | assumption);have q298 : x9_1 < (l0.length : Int):=of_decide_eq_true (by first | (with_reducible assumption) | assumption);obtain ⟨ad298,e298,hx298_0⟩:=Kd.at_int HR0.out x9_1 p298 q298;cases e298;replace p298:=eq_true p298;replace q298:=eq_true q298
       go_wp2
       go_ret
       exact ⟨by first | rfl | (simp;done) | (simp [*];done),by repeat (first | exact Drawn0.refl _ | apply Drawn0.step)⟩
      rw [if_neg c6] at H;have c6b0 : ((rd l0 x9_1) == a1) = false:=beq_eq_false_iff_ne.mpr c6;have c6b1 : ((rd l0 x9_1) != a1) = true:=bne_iff_ne.mpr c6;have H':=Aside0.mk H;clear H;have p298 : 0 ≤ (x9_1 : Int):=of_decide_eq_true (by first | (with_reducible assumption) | assumption);have q298 : x9_1 < (l0.length : Int):=of_decide_eq_true (by first | (with_reducible assumption) | assumption);obtain ⟨ad298,e298,hx298_0⟩:=Kd.at_int HR0.out x9_1 p298 q298;cases e298;replace p298:=eq_true p298;replace q298:=eq_true q298
      go_wp2
      go_roundg k1;case measure=>have:=HK1.out;omega
      case rel=>exact ⟨(wrap64 (x9_1 + 1)),(by first | rfl | (simp;done) | (simp [*];done)),H',⟨by have:=HK1.out;omega⟩,by repeat (first | exact Drawn0.refl _ | apply Drawn0.step)⟩
     rw [if_neg c5] at H;exact absurd H (by simp)
    rw [if_neg c4] at H;exact absurd H (by simp)
   rw [if_neg c3] at H;have c3b0 : decide (x9_1 < (l0.length : Int)) = false:=decide_eq_false c3;clear c3;obtain rfl:=Option.some.inj H
   go_wp2
   go_ret
   exact ⟨by first | rfl | (simp;done) | (simp [*];done),by repeat (first | exact Drawn0.refl _ | apply Drawn0.step)⟩
end Go.Proofs.Ytdolplcbokioaaa.PB

namespace Go.Proofs.Ytdolplcbokioaaa.PB
open Go.RowKit Go.Proofs.YtdolplcbokioaaaW.PrintWords Go.Proofs.YtdolplcbokioaaaW.PrintLast Go.Proofs.YtdolplcbokioaaaW.PrintMore
attribute [local go_sem] max2_int min2_int max_two min_two max_three min_three max_four min_four   -- for this text's walks alone
set_option linter.unusedVariables false
set_option linter.unusedSimpArgs false
mutual
def impl_ArenaOk.l0 : Nat → List (S133) → Int → Int → List (S133) → Option (Bool)
 | 0,_,_,_,_=>none
 | k + 1,x8,x9,x10,x607000=>if x10 < x9 then (if 0 ≤ x10 then (if x10 < (x8.length : Int) then (if (((rd_T133 x8 x10).f1).length : Int) = 4 then (impl_ArenaOk.l1 k x10 x8 x9 x10 ((rd_T133 x8 x10).f1) (((rd_T133 x8 x10).f1).length : Int) 0 x607000 ((rd_T133 x8 x10).f0) ((rd_T133 x8 x10).f1)) else (some false)) else (none)) else (none)) else (some true)
def impl_ArenaOk.l1 : Nat → Int → List (S133) → Int → Int → List Int → Int → Int → List (S133) → Bool → List Int → Option (Bool)
 | 0,_,_,_,_,_,_,_,_,_,_=>none
 | k + 1,x3,x8,x9,x10,x20,x21,x22,x607000,x609000,x609001=>if x22 < x21 then (if 0 ≤ x22 then (if x22 < (x20.length : Int) then (if x609000 = true then (if (rd x20 x22) < 0 then (some false) else (impl_ArenaOk.l1 k x3 x8 x9 x10 x20 x21 (wrap64 (x22 + 1)) x607000 x609000 x609001)) else (if (rd x20 x22) = (-1) then (impl_ArenaOk.l1 k x3 x8 x9 x10 x20 x21 (wrap64 (x22 + 1)) x607000 x609000 x609001) else ((impl_in.f (rd x20 x22) 0 (wrap64 (x3 - 1))).bind fun t610=>(if t610 = true then (if 0 ≤ (rd x20 x22) then (if (rd x20 x22) < (x607000.length : Int) then (if ((rd_T133 x607000 (rd x20 x22)).f0 = true) then (impl_ArenaOk.l1 k x3 x8 x9 x10 x20 x21 (wrap64 (x22 + 1)) x607000 x609000 x609001) else (some false)) else (none)) else (none)) else (some false))))) else (none)) else (none)) else (impl_ArenaOk.l0 k x8 x9 (wrap64 (x10 + 1)) x607000)
end
def impl_ArenaOk.f (k : Nat) (l0_0 : List (S133)) : Option (Bool):=impl_ArenaOk.l0 k l0_0 (l0_0.length : Int) 0 l0_0
theorem impl_ArenaOk.mono_l : ∀ k,(∀ y0 y1 y2 y3,LeO (impl_ArenaOk.l0 k y0 y1 y2 y3) (impl_ArenaOk.l0 (k + 1) y0 y1 y2 y3)) ∧ (∀ y0 y1 y2 y3 y4 y5 y6 y7 y8 y9,LeO (impl_ArenaOk.l1 k y0 y1 y2 y3 y4 y5 y6 y7 y8 y9) (impl_ArenaOk.l1 (k + 1) y0 y1 y2 y3 y4 y5 y6 y7 y8 y9))
 | 0=>⟨fun _ _ _ _ r h=>by simp [impl_ArenaOk.l0] at h,fun _ _ _ _ _ _ _ _ _ _ r h=>by simp [impl_ArenaOk.l1] at h⟩
 | k + 1=>by
  obtain ⟨ih0,ih1⟩:=impl_ArenaOk.mono_l k;refine ⟨?_,?_⟩
  ·intro y0 y1 y2 y3;unfold impl_ArenaOk.l0
   repeat' first
   | (with_reducible exact ih0 _ _ _ _)
   | (with_reducible exact ih1 _ _ _ _ _ _ _ _ _ _)
   | (with_reducible exact LeO.refl _)
   | (with_reducible exact LeO.none _)
   | (with_reducible refine LeO.ite ?_ ?_)
   | (with_reducible refine LeO.bind ?_ (fun _=>?_))
   | exact ih0 _ _ _ _
   | exact ih1 _ _ _ _ _ _ _ _ _ _
   | exact LeO.none _
   | refine LeO.ite ?_ ?_
   | refine LeO.bind ?_ (fun _=>?_)
  intro y0 y1 y2 y3 y4 y5 y6 y7 y8 y9;unfold impl_ArenaOk.l1
  repeat' first
  | (with_reducible exact ih0 _ _ _ _)
  | (with_reducible exact ih1 _ _ _ _ _ _ _ _ _ _)
  | (with_reducible exact LeO.refl _)
  | (with_reducible exact LeO.none _)
  | (with_reducible refine LeO.ite ?_ ?_)
  | (with_reducible refine LeO.bind ?_ (fun _=>?_))
  | exact ih0 _ _ _ _
  | exact ih1 _ _ _ _ _ _ _ _ _ _
  | exact LeO.none _
  | refine LeO.ite ?_ ?_
  | refine LeO.bind ?_ (fun _=>?_)
theorem impl_ArenaOk.mono : ∀ a0 k,LeO (impl_ArenaOk.f k a0) (impl_ArenaOk.f (k + 1) a0):=by
 intro a0 k;obtain ⟨ih0,ih1⟩:=impl_ArenaOk.mono_l k;unfold impl_ArenaOk.f
 repeat' first
   | (with_reducible exact ih0 _ _ _ _)
   | (with_reducible exact ih1 _ _ _ _ _ _ _ _ _ _)
   | (with_reducible exact LeO.refl _)
   | (with_reducible exact LeO.none _)
   | (with_reducible refine LeO.ite ?_ ?_)
   | (with_reducible refine LeO.bind ?_ (fun _=>?_))
   | exact ih0 _ _ _ _
   | exact ih1 _ _ _ _ _ _ _ _ _ _
   | exact LeO.none _
   | refine LeO.ite ?_ ?_
   | refine LeO.bind ?_ (fun _=>?_)
set_option maxHeartbeats 8000000 in
set_option maxRecDepth 100000 in
theorem impl_ArenaOk.calls (k : Nat) (A0_0 : Option Addr) (c0_0 : Nat) (l0_0 : List (S133)) (r : Bool) (w : World) (hr0_0 : Kd.C k133 w A0_0 l0_0.length l0_0) (hc0_0 : l0_0.length ≤ c0_0) (h : impl_ArenaOk.f k l0_0 = some r) :
  Calls Try.prog 25 #[.agg #[.slice A0_0 l0_0.length c0_0]] w fun e w'=>e = .returned (.bool r) ∧ Below w.heap.size w w':=by
 have hu44:=Try.underlying44;have hu133:=Try.underlying133;have HR0_0:=Aside0.mk hr0_0;have HC0_0:=Aside0.mk hc0_0;clear hr0_0 hc0_0;have HB:=Aside0.mk (Below.refl w.heap.size w);have H : (impl_ArenaOk.l0 k l0_0 (l0_0.length : Int) 0 l0_0) = some r:=h;clear h;have H':=Aside0.mk H;clear H
 go_enter Try.func25,Try.ntmps25
 go_wp2_with (first | ((with_reducible refine gate_dst (N:=1) rfl ?_);refine box_event ?hg (N:=1) ?hd (cs:=#[.slice A0_0 l0_0.length c0_0]) (t:=44) ?hr ?_;(case hd=>rfl);(case hg=>rfl);(case hr=>first | (go_simp;done) | (go_simp;rfl));intro gb606 hg w2 hbox hb;have n0_:=Aside0.mk (below_step (hs HB) hb);have n1_:=Aside0.mk (hbox);have n2_:=Aside0.mk ((by rw [hg];exact (below_size (hs HB)) : w.heap.size ≤ gb606));have n3_:=Aside0.mk ((by rw [hg];exact (below_size (hs HB)) : w.heap.size ≤ gb606));clear HB;have HB:=n0_;have BK606:=n1_;have GW606:=n2_;have GE606:=n3_;clear n0_ n1_ n2_ n3_;clear hb hbox hg;have hcz3_0 : w2.cell? ⟨gb606,0,none⟩ = some (.slice A0_0 l0_0.length c0_0):=(blk_cell BK606.out 0).trans rfl;have hfz3_0:=blk_frozen BK606.out 0));go_loopg [10] k (fun kq v10 w'=>∃ (x10_1 : Int),v10 = .int .i64 x10_1 ∧ Aside0 (impl_ArenaOk.l0 kq l0_0 (l0_0.length : Int) x10_1 l0_0 = some r) ∧ Aside0 (kq ≤ k) ∧ Aside0 (w'.heap[gb606]? = some (.cells #[(.slice A0_0 l0_0.length c0_0)] 44 (0,0))) ∧ Aside0 (Below w.heap.size w w'));case atStart=>exact ⟨(0),(by first | rfl | (simp;done) | (simp [*];done)),H',⟨Nat.le_refl _⟩,⟨bs BK606⟩,⟨hs1 HB GE606⟩⟩
 case round =>
  clear H'
  try clear c2
  try clear p2
  try clear hcz3_0
  try clear hfz3_0
  obtain ⟨x10_1,rfl,HA,HK1,BK606,HB⟩:=hrel;cases gk with
  | zero=>exact absurd HA.out (by simp [impl_ArenaOk.l0])
  | succ k1 =>
   have H:=HA.out;clear HA;simp only [impl_ArenaOk.l0] at H
   by_cases c4 : x10_1 < (l0_0.length : Int)
   ·rw [if_pos c4] at H;have c4b0 : decide (x10_1 < (l0_0.length : Int)) = true:=decide_eq_true c4;clear c4
    by_cases c5 : 0 ≤ x10_1
    ·rw [if_pos c5] at H;have c5b0 : decide (0 ≤ x10_1) = true:=decide_eq_true c5;clear c5
     by_cases c6 : x10_1 < (l0_0.length : Int)
     ·rw [if_pos c6] at H;have c6b0 : decide (x10_1 < (l0_0.length : Int)) = true:=decide_eq_true c6;clear c6
      by_cases c7 : (((rd_T133 l0_0 x10_1).f1).length : Int) = 4
      ·rw [if_pos c7] at H;have c7b0 : ((((rd_T133 l0_0 x10_1).f1).length : Int) == 4) = true:=beq_iff_eq.mpr c7;have c7b1 : ((((rd_T133 l0_0 x10_1).f1).length : Int) != 4) = false:=bne_eq_false_iff_eq.mpr c7;clear c7;have H':=Aside0.mk H;clear H;have p607 : 0 ≤ (x10_1 : Int):=of_decide_eq_true (by first | (with_reducible assumption) | assumption);have q607 : x10_1 < (l0_0.length : Int):=of_decide_eq_true (by first | (with_reducible assumption) | assumption);obtain ⟨ad607,A607_1,c607_1,e607,hx607_0,hx607_1,hl607_1,hi607_1⟩:=at_T133 HR0_0.out x10_1 p607 q607;cases e607;replace hx607_0:=(HB.out.cell (World.block_lt_of_cell? w _ hx607_0)).trans hx607_0;replace hx607_1:=(HB.out.cell (World.block_lt_of_cell? w _ hx607_1)).trans hx607_1;have HR607_1:=Aside0.mk hi607_1;have HC607_1:=Aside0.mk hl607_1;clear hi607_1 hl607_1;replace p607:=eq_true p607;replace q607:=eq_true q607;go_wp2_with (first | ((with_reducible refine gate_dst (N:=4) rfl ?_);refine box_event ?hg (N:=4) ?hd (cs:=#[.bool false,.slice none 0 0]) (t:=133) ?hr ?_;(case hd=>rfl);(case hg=>rfl);(case hr=>first | (go_simp;done) | (go_simp;rfl));intro gb608 hg w8 hbox hb;have n0_:=Aside0.mk (blk_below (g:=gb606) (o:=.cells #[.slice (some ad607) l0_0.length c0_0] 44 (0,0)) (bs BK606) hb);have n1_:=Aside0.mk (below_step (hs1 HB GE606) hb);have n2_:=Aside0.mk (hbox);have n3_:=Aside0.mk ((by rw [hg];exact (below_size (hs1 HB GE606)) : w.heap.size ≤ gb608));have n4_:=Aside0.mk ((by rw [hg];exact (below_size (hs1 HB GE606)) : w.heap.size ≤ gb608));have n5_:=Aside0.mk ((by rw [hg];exact Nat.ne_of_lt (blk_lt (g:=gb606) (o:=.cells #[.slice (some ad607) l0_0.length c0_0] 44 (0,0)) (bs BK606)) : gb606 ≠ gb608));have n6_:=Aside0.mk ((by rw [hg];exact Nat.ne_of_gt (blk_lt (g:=gb606) (o:=.cells #[.slice (some ad607) l0_0.length c0_0] 44 (0,0)) (bs BK606)) : gb608 ≠ gb606));clear BK606;clear HB;have BK606:=n0_;have HB:=n1_;have BK608:=n2_;have GW608:=n3_;have GE608:=n4_;have NB606_608:=n5_;have NB608_606:=n6_;clear n0_ n1_ n2_ n3_ n4_ n5_ n6_;clear hb hbox hg;have hnb9:=NB608_606.out;have hnc9:=NB606_608.out;have hcz10_0 : w8.cell? ⟨gb608,0,none⟩ = some (.bool false):=(blk_cell BK608.out 0).trans rfl;have hcz10_1 : w8.cell? ⟨gb608,1,none⟩ = some (.slice none 0 0):=(blk_cell BK608.out 1).trans rfl;have hfz10_0:=blk_frozen BK608.out 0;have hfz10_1:=blk_frozen BK608.out 1))
       (try generalize (Value.agg #[.bool ((rd_T133 l0_0 x10_1).f0),.slice A607_1 ((rd_T133 l0_0 x10_1).f1).length c607_1]) = gd14)
       go_loopg [22] k1 (fun kq v22 w'=>∃ (x22_2 : Int),v22 = .int .i64 x22_2 ∧ Aside0 (impl_ArenaOk.l1 kq x10_1 l0_0 (l0_0.length : Int) x10_1 ((rd_T133 l0_0 x10_1).f1) (((rd_T133 l0_0 x10_1).f1).length : Int) x22_2 l0_0 ((rd_T133 l0_0 x10_1).f0) ((rd_T133 l0_0 x10_1).f1) = some r) ∧ Aside0 (kq ≤ k1) ∧ Aside0 (w'.heap[gb606]? = some (.cells #[(.slice (some ad607) l0_0.length c0_0)] 44 (0,0))) ∧ Aside0 (w'.heap[gb608]? = some (.cells #[.bool ((rd_T133 l0_0 x10_1).f0),(.slice A607_1 ((rd_T133 l0_0 x10_1).f1).length c607_1)] 133 (0,0))) ∧ Aside0 (Below w.heap.size w w'));case atStart=>exact ⟨(0),(by first | rfl | (simp;done) | (simp [*];done)),H',⟨Nat.le_refl _⟩,⟨by (with_reducible repeat (first | refine blk_drewN ?_ _ | refine blk_drew ?_ | refine blk_alloc ?_ _));refine blk_far ?_ NB606_608.out _;(with_reducible repeat (first | refine blk_drewN ?_ _ | refine blk_drew ?_ | refine blk_alloc ?_ _));refine blk_far ?_ NB606_608.out _;(with_reducible repeat (first | refine blk_drewN ?_ _ | refine blk_drew ?_ | refine blk_alloc ?_ _));exact BK606.out⟩,⟨by (with_reducible repeat (first | refine blk_drewN ?_ _ | refine blk_drew ?_ | refine blk_alloc ?_ _));refine blk_put (cs:=#[.bool ((rd_T133 l0_0 x10_1).f0),.slice none 0 0]) ?_ 1 _ rfl;(with_reducible repeat (first | refine blk_drewN ?_ _ | refine blk_drew ?_ | refine blk_alloc ?_ _));refine blk_put (cs:=#[.bool false,.slice none 0 0]) ?_ 0 _ rfl;(with_reducible repeat (first | refine blk_drewN ?_ _ | refine blk_drew ?_ | refine blk_alloc ?_ _));exact BK608.out⟩,⟨hs2 HB GE606 GE608⟩⟩
       case round =>
        clear H'
        try clear c2
        try clear p2
        try clear c4
        try clear c4b0
        try clear c5
        try clear c5b0
        try clear c6
        try clear c6b0
        try clear p6
        try clear q6
        try clear hx6
        try clear c7
        try clear c7b0
        try clear c7b1
        try clear c9
        try clear hcz10_0
        try clear hcz10_1
        try clear hcz3_0
        try clear hfz10_0
        try clear hfz10_1
        try clear hfz3_0
        try clear hx607_0
        try clear hx607_1
        try clear p2
        try clear p607
        try clear q607
        obtain ⟨x22_2,rfl,HA,HK2,BK606,BK608,HB⟩:=hrel;cases gk with
        | zero=>exact absurd HA.out (by simp [impl_ArenaOk.l1])
        | succ k2 =>
         have H:=HA.out;clear HA;simp only [impl_ArenaOk.l1] at H
         by_cases c11 : x22_2 < (((rd_T133 l0_0 x10_1).f1).length : Int)
         ·rw [if_pos c11] at H;have c11b0 : decide (x22_2 < (((rd_T133 l0_0 x10_1).f1).length : Int)) = true:=decide_eq_true c11;clear c11
          by_cases c12 : 0 ≤ x22_2
          ·rw [if_pos c12] at H;have c12b0 : decide (0 ≤ x22_2) = true:=decide_eq_true c12;clear c12
           by_cases c13 : x22_2 < (((rd_T133 l0_0 x10_1).f1).length : Int)
           ·rw [if_pos c13] at H;have c13b0 : decide (x22_2 < (((rd_T133 l0_0 x10_1).f1).length : Int)) = true:=decide_eq_true c13;clear c13
            by_cases c14 : ((rd_T133 l0_0 x10_1).f0) = true
            ·rw [if_pos c14] at H;have c14b0 : ((rd_T133 l0_0 x10_1).f0) = true:=c14;clear c14
             by_cases c15 : (rd ((rd_T133 l0_0 x10_1).f1) x22_2) < 0
             ·rw [if_pos c15] at H;have c15b0 : decide ((rd ((rd_T133 l0_0 x10_1).f1) x22_2) < 0) = true:=decide_eq_true c15;clear c15;obtain rfl:=Option.some.inj H;have p609 : 0 ≤ (x22_2 : Int):=of_decide_eq_true (by first | (with_reducible assumption) | assumption);have q609 : x22_2 < (((rd_T133 l0_0 x10_1).f1).length : Int):=of_decide_eq_true (by first | (with_reducible assumption) | assumption);obtain ⟨ad609,e609,hx609_0⟩:=Kd.at_int HR607_1.out x22_2 p609 q609;cases e609;replace hx609_0:=(HB.out.cell (World.block_lt_of_cell? w _ hx609_0)).trans hx609_0;replace p609:=eq_true p609;replace q609:=eq_true q609;have hnb16:=NB608_606.out;have hnc16:=NB606_608.out;have hcz17_0 : wr.cell? ⟨gb608,0,none⟩ = some (.bool ((rd_T133 l0_0 x10_1).f0)):=(blk_cell BK608.out 0).trans rfl;have hcz17_1 : wr.cell? ⟨gb608,1,none⟩ = some (.slice (some ad609) ((rd_T133 l0_0 x10_1).f1).length c607_1):=(blk_cell BK608.out 1).trans rfl;have hfz17_0:=blk_frozen BK608.out 0;have hfz17_1:=blk_frozen BK608.out 1
              go_wp2
              go_ret
              exact ⟨by first | rfl | (simp [errW_none,errW_some] <;> rfl) | (simp [*,errW_none,errW_some] <;> rfl),hs2 HB GE606 GE608⟩
             rw [if_neg c15] at H;have c15b0 : decide ((rd ((rd_T133 l0_0 x10_1).f1) x22_2) < 0) = false:=decide_eq_false c15;clear c15;have H':=Aside0.mk H;clear H;have p609 : 0 ≤ (x22_2 : Int):=of_decide_eq_true (by first | (with_reducible assumption) | assumption);have q609 : x22_2 < (((rd_T133 l0_0 x10_1).f1).length : Int):=of_decide_eq_true (by first | (with_reducible assumption) | assumption);obtain ⟨ad609,e609,hx609_0⟩:=Kd.at_int HR607_1.out x22_2 p609 q609;cases e609;replace hx609_0:=(HB.out.cell (World.block_lt_of_cell? w _ hx609_0)).trans hx609_0;replace p609:=eq_true p609;replace q609:=eq_true q609;have hnb18:=NB608_606.out;have hnc18:=NB606_608.out;have hcz19_0 : wr.cell? ⟨gb608,0,none⟩ = some (.bool ((rd_T133 l0_0 x10_1).f0)):=(blk_cell BK608.out 0).trans rfl;have hcz19_1 : wr.cell? ⟨gb608,1,none⟩ = some (.slice (some ad609) ((rd_T133 l0_0 x10_1).f1).length c607_1):=(blk_cell BK608.out 1).trans rfl;have hfz19_0:=blk_frozen BK608.out 0;have hfz19_1:=blk_frozen BK608.out 1
             go_wp2
             go_roundg k2;case measure=>have:=HK1.out;have:=HK2.out;omega
             case rel=>exact ⟨(wrap64 (x22_2 + 1)),(by first | rfl | (simp;done) | (simp [*];done)),H',⟨by have:=HK1.out;have:=HK2.out;omega⟩,⟨bs BK606⟩,⟨bs BK608⟩,⟨hs2 HB GE606 GE608⟩⟩
            rw [if_neg c14] at H;have c14b0 : ((rd_T133 l0_0 x10_1).f0) = false:=by simpa using c14
            clear c14
            by_cases c20 : (rd ((rd_T133 l0_0 x10_1).f1) x22_2) = (-1)
            ·rw [if_pos c20] at H;have c20b0 : ((rd ((rd_T133 l0_0 x10_1).f1) x22_2) == (-1)) = true:=beq_iff_eq.mpr c20;have c20b1 : ((rd ((rd_T133 l0_0 x10_1).f1) x22_2) != (-1)) = false:=bne_eq_false_iff_eq.mpr c20;clear c20;have H':=Aside0.mk H;clear H;have p609 : 0 ≤ (x22_2 : Int):=of_decide_eq_true (by first | (with_reducible assumption) | assumption);have q609 : x22_2 < (((rd_T133 l0_0 x10_1).f1).length : Int):=of_decide_eq_true (by first | (with_reducible assumption) | assumption);obtain ⟨ad609,e609,hx609_0⟩:=Kd.at_int HR607_1.out x22_2 p609 q609;cases e609;replace hx609_0:=(HB.out.cell (World.block_lt_of_cell? w _ hx609_0)).trans hx609_0;replace p609:=eq_true p609;replace q609:=eq_true q609;have hnb21:=NB608_606.out;have hnc21:=NB606_608.out;have hcz22_0 : wr.cell? ⟨gb608,0,none⟩ = some (.bool ((rd_T133 l0_0 x10_1).f0)):=(blk_cell BK608.out 0).trans rfl;have hcz22_1 : wr.cell? ⟨gb608,1,none⟩ = some (.slice (some ad609) ((rd_T133 l0_0 x10_1).f1).length c607_1):=(blk_cell BK608.out 1).trans rfl;have hfz22_0:=blk_frozen BK608.out 0;have hfz22_1:=blk_frozen BK608.out 1
             go_wp2
             go_roundg k2;case measure=>have:=HK1.out;have:=HK2.out;omega
             case rel=>exact ⟨(wrap64 (x22_2 + 1)),(by first | rfl | (simp;done) | (simp [*];done)),H',⟨by have:=HK1.out;have:=HK2.out;omega⟩,⟨bs BK606⟩,⟨bs BK608⟩,⟨hs2 HB GE606 GE608⟩⟩
            rw [if_neg c20] at H;have c20b0 : ((rd ((rd_T133 l0_0 x10_1).f1) x22_2) == (-1)) = false:=beq_eq_false_iff_ne.mpr c20;have c20b1 : ((rd ((rd_T133 l0_0 x10_1).f1) x22_2) != (-1)) = true:=bne_iff_ne.mpr c20;replace H:=Option.bind_eq_some_iff.mp H;obtain ⟨t610,A230,H⟩:=H;replace H : (if t610 = true then (if 0 ≤ (rd ((rd_T133 l0_0 x10_1).f1) x22_2) then (if (rd ((rd_T133 l0_0 x10_1).f1) x22_2) < (l0_0.length : Int) then (if ((rd_T133 l0_0 (rd ((rd_T133 l0_0 x10_1).f1) x22_2)).f0 = true) then (impl_ArenaOk.l1 k2 x10_1 l0_0 (l0_0.length : Int) x10_1 ((rd_T133 l0_0 x10_1).f1) (((rd_T133 l0_0 x10_1).f1).length : Int) (wrap64 (x22_2 + 1)) l0_0 ((rd_T133 l0_0 x10_1).f0) ((rd_T133 l0_0 x10_1).f1)) else (some false)) else (none)) else (none)) else (some false)) = some r:=H;have A23:=Aside0.mk A230;clear A230
            by_cases c24 : t610 = true
            ·subst c24;have H1 : (if 0 ≤ (rd ((rd_T133 l0_0 x10_1).f1) x22_2) then (if (rd ((rd_T133 l0_0 x10_1).f1) x22_2) < (l0_0.length : Int) then (if ((rd_T133 l0_0 (rd ((rd_T133 l0_0 x10_1).f1) x22_2)).f0 = true) then (impl_ArenaOk.l1 k2 x10_1 l0_0 (l0_0.length : Int) x10_1 ((rd_T133 l0_0 x10_1).f1) (((rd_T133 l0_0 x10_1).f1).length : Int) (wrap64 (x22_2 + 1)) l0_0 ((rd_T133 l0_0 x10_1).f0) ((rd_T133 l0_0 x10_1).f1)) else (some false)) else (none)) else (none)) = some r:=by rw [if_pos rfl] at H;exact H
             clear H;have H:=H1;clear H1
             by_cases c25 : 0 ≤ (rd ((rd_T133 l0_0 x10_1).f1) x22_2)
             ·rw [if_pos c25] at H;have c25b0 : decide (0 ≤ (rd ((rd_T133 l0_0 x10_1).f1) x22_2)) = true:=decide_eq_true c25;clear c25
              by_cases c26 : (rd ((rd_T133 l0_0 x10_1).f1) x22_2) < (l0_0.length : Int)
              ·rw [if_pos c26] at H;have c26b0 : decide ((rd ((rd_T133 l0_0 x10_1).f1) x22_2) < (l0_0.length : Int)) = true:=decide_eq_true c26;clear c26;obtain ⟨bq27,hbq27⟩ : ∃ b_ : Bool,b_ = ((rd_T133 l0_0 (rd ((rd_T133 l0_0 x10_1).f1) x22_2)).f0):=⟨_,rfl⟩;replace H : (if (bq27 = true) then (impl_ArenaOk.l1 k2 x10_1 l0_0 (l0_0.length : Int) x10_1 ((rd_T133 l0_0 x10_1).f1) (((rd_T133 l0_0 x10_1).f1).length : Int) (wrap64 (x22_2 + 1)) l0_0 ((rd_T133 l0_0 x10_1).f0) ((rd_T133 l0_0 x10_1).f1)) else (some false)) = some r:=by rw [← hbq27] at H;exact H
               have Nbq27:=Aside0.mk hbq27;clear hbq27
               (try rw [← Nbq27.out] at A23)
               by_cases c28 : (bq27 = true)
               ·subst c28;have H1 : (impl_ArenaOk.l1 k2 x10_1 l0_0 (l0_0.length : Int) x10_1 ((rd_T133 l0_0 x10_1).f1) (((rd_T133 l0_0 x10_1).f1).length : Int) (wrap64 (x22_2 + 1)) l0_0 ((rd_T133 l0_0 x10_1).f0) ((rd_T133 l0_0 x10_1).f1)) = some r:=by rw [if_pos rfl] at H;exact H
                clear H;have H:=H1;clear H1;have H':=Aside0.mk H;clear H;have p609 : 0 ≤ (x22_2 : Int):=of_decide_eq_true (by first | (with_reducible assumption) | assumption);have q609 : x22_2 < (((rd_T133 l0_0 x10_1).f1).length : Int):=of_decide_eq_true (by first | (with_reducible assumption) | assumption);obtain ⟨ad609,e609,hx609_0⟩:=Kd.at_int HR607_1.out x22_2 p609 q609;cases e609;replace hx609_0:=(HB.out.cell (World.block_lt_of_cell? w _ hx609_0)).trans hx609_0;replace p609:=eq_true p609;replace q609:=eq_true q609;have hnb29:=NB608_606.out;have hnc29:=NB606_608.out;have hcz30_0 : wr.cell? ⟨gb608,0,none⟩ = some (.bool ((rd_T133 l0_0 x10_1).f0)):=(blk_cell BK608.out 0).trans rfl;have hcz30_1 : wr.cell? ⟨gb608,1,none⟩ = some (.slice (some ad609) ((rd_T133 l0_0 x10_1).f1).length c607_1):=(blk_cell BK608.out 1).trans rfl;have hfz30_0:=blk_frozen BK608.out 0;have hfz30_1:=blk_frozen BK608.out 1;go_wp2_with (first | (go_at_call 84;(with_reducible refine (impl_in.calls (rd ((rd_T133 l0_0 x10_1).f1) x22_2) 0 (wrap64 (x10_1 - 1)) true _ A23.out).mono ?_);rintro e w' ⟨rfl,⟨nd,rfl⟩⟩;have hcz31_0 : wr.cell? ⟨gb606,0,none⟩ = some (.slice (some ad607) l0_0.length c0_0):=(blk_cell BK606.out 0).trans rfl;have hfz31_0:=blk_frozen BK606.out 0;have p611 : 0 ≤ ((rd ((rd_T133 l0_0 x10_1).f1) x22_2) : Int):=of_decide_eq_true (by first | (with_reducible assumption) | assumption);have q611 : (rd ((rd_T133 l0_0 x10_1).f1) x22_2) < (l0_0.length : Int):=of_decide_eq_true (by first | (with_reducible assumption) | assumption);obtain ⟨ad611,A611_1,c611_1,e611,hx611_0,hx611_1,hl611_1,hi611_1⟩:=at_T133 HR0_0.out (rd ((rd_T133 l0_0 x10_1).f1) x22_2) p611 q611;(try rw [← Nbq27.out] at hx611_0);obtain rfl : ad607 = ad611:=(by injection e611);replace hx611_0:=(HB.out.cell (World.block_lt_of_cell? w _ hx611_0)).trans hx611_0;replace hx611_1:=(HB.out.cell (World.block_lt_of_cell? w _ hx611_1)).trans hx611_1;have HR611_1:=Aside0.mk hi611_1;have HC611_1:=Aside0.mk hl611_1;clear hi611_1 hl611_1;replace p611:=eq_true p611;replace q611:=eq_true q611));go_roundg k2;case measure=>have:=HK1.out;have:=HK2.out;omega
                case rel=>exact ⟨(wrap64 (x22_2 + 1)),(by first | rfl | (simp;done) | (simp [*];done)),H',⟨by have:=HK1.out;have:=HK2.out;omega⟩,⟨bs BK606⟩,⟨bs BK608⟩,⟨hs2 HB GE606 GE608⟩⟩
               replace c28:=Bool.eq_false_iff.mpr c28;subst c28;have H1 : (some false) = some r:=by rw [if_neg (show ¬ (false = true) by decide)] at H;exact H
               clear H;have H:=H1;clear H1;obtain rfl:=Option.some.inj H;have p609 : 0 ≤ (x22_2 : Int):=of_decide_eq_true (by first | (with_reducible assumption) | assumption);have q609 : x22_2 < (((rd_T133 l0_0 x10_1).f1).length : Int):=of_decide_eq_true (by first | (with_reducible assumption) | assumption);obtain ⟨ad609,e609,hx609_0⟩:=Kd.at_int HR607_1.out x22_2 p609 q609;cases e609;replace hx609_0:=(HB.out.cell (World.block_lt_of_cell? w _ hx609_0)).trans hx609_0;replace p609:=eq_true p609;replace q609:=eq_true q609;have hnb32:=NB608_606.out;have hnc32:=NB606_608.out;have hcz33_0 : wr.cell? ⟨gb608,0,none⟩ = some (.bool ((rd_T133 l0_0 x10_1).f0)):=(blk_cell BK608.out 0).trans rfl;have hcz33_1 : wr.cell? ⟨gb608,1,none⟩ = some (.slice (some ad609) ((rd_T133 l0_0 x10_1).f1).length c607_1):=(blk_cell BK608.out 1).trans rfl;have hfz33_0:=blk_frozen BK608.out 0;have hfz33_1:=blk_frozen BK608.out 1;go_wp2_with (first | (go_at_call 84;(with_reducible refine (impl_in.calls (rd ((rd_T133 l0_0 x10_1).f1) x22_2) 0 (wrap64 (x10_1 - 1)) true _ A23.out).mono ?_);rintro e w' ⟨rfl,⟨nd,rfl⟩⟩;have hcz34_0 : wr.cell? ⟨gb606,0,none⟩ = some (.slice (some ad607) l0_0.length c0_0):=(blk_cell BK606.out 0).trans rfl;have hfz34_0:=blk_frozen BK606.out 0;have p611 : 0 ≤ ((rd ((rd_T133 l0_0 x10_1).f1) x22_2) : Int):=of_decide_eq_true (by first | (with_reducible assumption) | assumption);have q611 : (rd ((rd_T133 l0_0 x10_1).f1) x22_2) < (l0_0.length : Int):=of_decide_eq_true (by first | (with_reducible assumption) | assumption);obtain ⟨ad611,A611_1,c611_1,e611,hx611_0,hx611_1,hl611_1,hi611_1⟩:=at_T133 HR0_0.out (rd ((rd_T133 l0_0 x10_1).f1) x22_2) p611 q611;(try rw [← Nbq27.out] at hx611_0);obtain rfl : ad607 = ad611:=(by injection e611);replace hx611_0:=(HB.out.cell (World.block_lt_of_cell? w _ hx611_0)).trans hx611_0;replace hx611_1:=(HB.out.cell (World.block_lt_of_cell? w _ hx611_1)).trans hx611_1;have HR611_1:=Aside0.mk hi611_1;have HC611_1:=Aside0.mk hl611_1;clear hi611_1 hl611_1;replace p611:=eq_true p611;replace q611:=eq_true q611))
               go_ret
               exact ⟨by first | rfl | (simp [errW_none,errW_some] <;> rfl) | (simp [*,errW_none,errW_some] <;> rfl),hs2 HB GE606 GE608⟩
              rw [if_neg c26] at H;exact absurd H (by simp)
             rw [if_neg c25] at H;exact absurd H (by simp)
            replace c24:=Bool.eq_false_iff.mpr c24;subst c24;have H1 : (some false) = some r:=by rw [if_neg (show ¬ (false = true) by decide)] at H;exact H
            clear H;have H:=H1;clear H1;obtain rfl:=Option.some.inj H;have p609 : 0 ≤ (x22_2 : Int):=of_decide_eq_true (by first | (with_reducible assumption) | assumption);have q609 : x22_2 < (((rd_T133 l0_0 x10_1).f1).length : Int):=of_decide_eq_true (by first | (with_reducible assumption) | assumption);obtain ⟨ad609,e609,hx609_0⟩:=Kd.at_int HR607_1.out x22_2 p609 q609;cases e609;replace hx609_0:=(HB.out.cell (World.block_lt_of_cell? w _ hx609_0)).trans hx609_0;replace p609:=eq_true p609;replace q609:=eq_true q609;have hnb35:=NB608_606.out;have hnc35:=NB606_608.out;have hcz36_0 : wr.cell? ⟨gb608,0,none⟩ = some (.bool ((rd_T133 l0_0 x10_1).f0)):=(blk_cell BK608.out 0).trans rfl;have hcz36_1 : wr.cell? ⟨gb608,1,none⟩ = some (.slice (some ad609) ((rd_T133 l0_0 x10_1).f1).length c607_1):=(blk_cell BK608.out 1).trans rfl;have hfz36_0:=blk_frozen BK608.out 0;have hfz36_1:=blk_frozen BK608.out 1;go_wp2_with (first | (go_at_call 84;(with_reducible refine (impl_in.calls (rd ((rd_T133 l0_0 x10_1).f1) x22_2) 0 (wrap64 (x10_1 - 1)) false _ A23.out).mono ?_);rintro e w' ⟨rfl,⟨nd,rfl⟩⟩))
            go_ret
            exact ⟨by first | rfl | (simp [errW_none,errW_some] <;> rfl) | (simp [*,errW_none,errW_some] <;> rfl),hs2 HB GE606 GE608⟩
           rw [if_neg c13] at H;exact absurd H (by simp)
          rw [if_neg c12] at H;exact absurd H (by simp)
         rw [if_neg c11] at H;have c11b0 : decide (x22_2 < (((rd_T133 l0_0 x10_1).f1).length : Int)) = false:=decide_eq_false c11;clear c11;have H':=Aside0.mk H;clear H
         go_wp2
         go_roundg k2;case measure=>have:=HK1.out;have:=HK2.out;omega
         case rel=>exact ⟨(wrap64 (x10_1 + 1)),(by first | rfl | (simp;done) | (simp [*];done)),H',⟨by have:=HK1.out;have:=HK2.out;omega⟩,⟨bs BK606⟩,⟨hs2 HB GE606 GE608⟩⟩
      rw [if_neg c7] at H;have c7b0 : ((((rd_T133 l0_0 x10_1).f1).length : Int) == 4) = false:=beq_eq_false_iff_ne.mpr c7;have c7b1 : ((((rd_T133 l0_0 x10_1).f1).length : Int) != 4) = true:=bne_iff_ne.mpr c7;obtain rfl:=Option.some.inj H;have p607 : 0 ≤ (x10_1 : Int):=of_decide_eq_true (by first | (with_reducible assumption) | assumption);have q607 : x10_1 < (l0_0.length : Int):=of_decide_eq_true (by first | (with_reducible assumption) | assumption);obtain ⟨ad607,A607_1,c607_1,e607,hx607_0,hx607_1,hl607_1,hi607_1⟩:=at_T133 HR0_0.out x10_1 p607 q607;cases e607;replace hx607_0:=(HB.out.cell (World.block_lt_of_cell? w _ hx607_0)).trans hx607_0;replace hx607_1:=(HB.out.cell (World.block_lt_of_cell? w _ hx607_1)).trans hx607_1;have HR607_1:=Aside0.mk hi607_1;have HC607_1:=Aside0.mk hl607_1;clear hi607_1 hl607_1;replace p607:=eq_true p607;replace q607:=eq_true q607;go_wp2_with (first | ((with_reducible refine gate_dst (N:=4) rfl ?_);refine box_event ?hg (N:=4) ?hd (cs:=#[.bool false,.slice none 0 0]) (t:=133) ?hr ?_;(case hd=>rfl);(case hg=>rfl);(case hr=>first | (go_simp;done) | (go_simp;rfl));intro gb608 hg w37 hbox hb;have n0_:=Aside0.mk (blk_below (g:=gb606) (o:=.cells #[.slice (some ad607) l0_0.length c0_0] 44 (0,0)) (bs BK606) hb);have n1_:=Aside0.mk (below_step (hs1 HB GE606) hb);have n2_:=Aside0.mk (hbox);have n3_:=Aside0.mk ((by rw [hg];exact (below_size (hs1 HB GE606)) : w.heap.size ≤ gb608));have n4_:=Aside0.mk ((by rw [hg];exact (below_size (hs1 HB GE606)) : w.heap.size ≤ gb608));have n5_:=Aside0.mk ((by rw [hg];exact Nat.ne_of_lt (blk_lt (g:=gb606) (o:=.cells #[.slice (some ad607) l0_0.length c0_0] 44 (0,0)) (bs BK606)) : gb606 ≠ gb608));have n6_:=Aside0.mk ((by rw [hg];exact Nat.ne_of_gt (blk_lt (g:=gb606) (o:=.cells #[.slice (some ad607) l0_0.length c0_0] 44 (0,0)) (bs BK606)) : gb608 ≠ gb606));clear BK606;clear HB;have BK606:=n0_;have HB:=n1_;have BK608:=n2_;have GW608:=n3_;have GE608:=n4_;have NB606_608:=n5_;have NB608_606:=n6_;clear n0_ n1_ n2_ n3_ n4_ n5_ n6_;clear hb hbox hg;have hnb38:=NB608_606.out;have hnc38:=NB606_608.out;have hcz39_0 : w37.cell? ⟨gb608,0,none⟩ = some (.bool false):=(blk_cell BK608.out 0).trans rfl;have hcz39_1 : w37.cell? ⟨gb608,1,none⟩ = some (.slice none 0 0):=(blk_cell BK608.out 1).trans rfl;have hfz39_0:=blk_frozen BK608.out 0;have hfz39_1:=blk_frozen BK608.out 1))
      go_ret
      exact ⟨by first | rfl | (simp [errW_none,errW_some] <;> rfl) | (simp [*,errW_none,errW_some] <;> rfl),hs2 HB GE606 GE608⟩
     rw [if_neg c6] at H;exact absurd H (by simp)
    rw [if_neg c5] at H;exact absurd H (by simp)
   rw [if_neg c4] at H;have c4b0 : decide (x10_1 < (l0_0.length : Int)) = false:=decide_eq_false c4;clear c4;obtain rfl:=Option.some.inj H
   go_wp2
   go_ret
   exact ⟨by first | rfl | (simp [errW_none,errW_some] <;> rfl) | (simp [*,errW_none,errW_some] <;> rfl),hs1 HB GE606⟩
end Go.Proofs.Ytdolplcbokioaaa.PB

namespace Go.Proofs.Ytdolplcbokioaaa.PB
open Go.RowKit Go.Proofs.YtdolplcbokioaaaW.PrintWords Go.Proofs.YtdolplcbokioaaaW.PrintLast Go.Proofs.YtdolplcbokioaaaW.PrintMore
attribute [local go_sem] max2_int min2_int max_two min_two max_three min_three max_four min_four   -- for this text's walks alone
set_option linter.unusedVariables false
set_option linter.unusedSimpArgs false
def impl_isRoot.f (l0_0 : List (S133)) (a1 : Int) : Option (Bool):=(impl_in.f a1 0 (wrap64 ((l0_0.length : Int) - 1))).bind fun t616=>(if t616 = true then (if 0 ≤ a1 then (if a1 < (l0_0.length : Int) then (some (!((rd_T133 l0_0 a1).f0))) else (none)) else (none)) else (some false))
set_option maxHeartbeats 8000000 in
set_option maxRecDepth 100000 in
theorem impl_isRoot.calls (A0_0 : Option Addr) (c0_0 : Nat) (l0_0 : List (S133)) (a1 : Int) (r : Bool) (w : World) (hr0_0 : Kd.C k133 w A0_0 l0_0.length l0_0) (hc0_0 : l0_0.length ≤ c0_0) (h : impl_isRoot.f l0_0 a1 = some r) :
  Calls Try.prog 92 #[.agg #[.slice A0_0 l0_0.length c0_0],.int .i64 a1] w fun e w'=>e = .returned (.bool r) ∧ Below w.heap.size w w':=by
 have hu44:=Try.underlying44;have HR0_0:=Aside0.mk hr0_0;have HC0_0:=Aside0.mk hc0_0;clear hr0_0 hc0_0;have HB:=Aside0.mk (Below.refl w.heap.size w);have H : ((impl_in.f a1 0 (wrap64 ((l0_0.length : Int) - 1))).bind fun t616=>(if t616 = true then (if 0 ≤ a1 then (if a1 < (l0_0.length : Int) then (some (!((rd_T133 l0_0 a1).f0))) else (none)) else (none)) else (some false))) = some r:=h;clear h;replace H:=Option.bind_eq_some_iff.mp H;obtain ⟨t616,A30,H⟩:=H;replace H : (if t616 = true then (if 0 ≤ a1 then (if a1 < (l0_0.length : Int) then (some (!((rd_T133 l0_0 a1).f0))) else (none)) else (none)) else (some false)) = some r:=H;have A3:=Aside0.mk A30;clear A30
 by_cases c4 : t616 = true
 ·subst c4;have H1 : (if 0 ≤ a1 then (if a1 < (l0_0.length : Int) then (some (!((rd_T133 l0_0 a1).f0))) else (none)) else (none)) = some r:=by rw [if_pos rfl] at H;exact H
  clear H;have H:=H1;clear H1
  by_cases c5 : 0 ≤ a1
  ·rw [if_pos c5] at H;have c5b0 : decide (0 ≤ a1) = true:=decide_eq_true c5;clear c5
   by_cases c6 : a1 < (l0_0.length : Int)
   ·rw [if_pos c6] at H;have c6b0 : decide (a1 < (l0_0.length : Int)) = true:=decide_eq_true c6;clear c6;obtain rfl:=Option.some.inj H
    go_enter Try.func92,Try.ntmps92
    go_wp2_with (first | ((with_reducible refine gate_dst (N:=2) rfl ?_);refine box_event ?hg (N:=2) ?hd (cs:=#[.slice A0_0 l0_0.length c0_0]) (t:=44) ?hr ?_;(case hd=>rfl);(case hg=>rfl);(case hr=>first | (go_simp;done) | (go_simp;rfl));intro gb615 hg w7 hbox hb;have n0_:=Aside0.mk (below_step (hs HB) hb);have n1_:=Aside0.mk (hbox);have n2_:=Aside0.mk ((by rw [hg];exact (below_size (hs HB)) : w.heap.size ≤ gb615));have n3_:=Aside0.mk ((by rw [hg];exact (below_size (hs HB)) : w.heap.size ≤ gb615));clear HB;have HB:=n0_;have BK615:=n1_;have GW615:=n2_;have GE615:=n3_;clear n0_ n1_ n2_ n3_;clear hb hbox hg;have hcz8_0 : w7.cell? ⟨gb615,0,none⟩ = some (.slice A0_0 l0_0.length c0_0):=(blk_cell BK615.out 0).trans rfl;have hfz8_0:=blk_frozen BK615.out 0) | ((with_reducible refine gate_callee (f:=84) rfl ?_);refine goesL_ (some 10) rfl rfl Try.func84 (by kernel_rfl) rfl #[.int .i64 a1,.int .i64 0,.int .i64 (wrap64 ((l0_0.length : Int) - 1))] rfl (by (try simp only [List.map_toArray,List.map_cons,List.map_nil]);first | done | rfl | (simp only [List.length_drop,List.length_take];rfl)) ?_;(with_reducible refine (impl_in.calls a1 0 (wrap64 ((l0_0.length : Int) - 1)) true _ A3.out).mono ?_);rintro e w' ⟨rfl,⟨nd,rfl⟩⟩;refine ⟨_,rfl,?_⟩;have p617 : 0 ≤ (a1 : Int):=of_decide_eq_true (by first | (with_reducible assumption) | assumption);have q617 : a1 < (l0_0.length : Int):=of_decide_eq_true (by first | (with_reducible assumption) | assumption);obtain ⟨ad617,A617_1,c617_1,e617,hx617_0,hx617_1,hl617_1,hi617_1⟩:=at_T133 HR0_0.out a1 p617 q617;cases e617;replace hx617_0:=(HB.out.cell (World.block_lt_of_cell? w _ hx617_0)).trans hx617_0;replace hx617_1:=(HB.out.cell (World.block_lt_of_cell? w _ hx617_1)).trans hx617_1;have HR617_1:=Aside0.mk hi617_1;have HC617_1:=Aside0.mk hl617_1;clear hi617_1 hl617_1;replace p617:=eq_true p617;replace q617:=eq_true q617))
    go_ret
    exact ⟨by first | rfl | (simp [errW_none,errW_some] <;> rfl) | (simp [*,errW_none,errW_some] <;> rfl),hs1 HB GE615⟩
   rw [if_neg c6] at H;exact absurd H (by simp)
  rw [if_neg c5] at H;exact absurd H (by simp)
 replace c4:=Bool.eq_false_iff.mpr c4;subst c4;have H1 : (some false) = some r:=by rw [if_neg (show ¬ (false = true) by decide)] at H;exact H
 clear H;have H:=H1;clear H1;obtain rfl:=Option.some.inj H
 go_enter Try.func92,Try.ntmps92
 go_wp2_with (first | ((with_reducible refine gate_dst (N:=2) rfl ?_);refine box_event ?hg (N:=2) ?hd (cs:=#[.slice A0_0 l0_0.length c0_0]) (t:=44) ?hr ?_;(case hd=>rfl);(case hg=>rfl);(case hr=>first | (go_simp;done) | (go_simp;rfl));intro gb615 hg w9 hbox hb;have n0_:=Aside0.mk (below_step (hs HB) hb);have n1_:=Aside0.mk (hbox);have n2_:=Aside0.mk ((by rw [hg];exact (below_size (hs HB)) : w.heap.size ≤ gb615));have n3_:=Aside0.mk ((by rw [hg];exact (below_size (hs HB)) : w.heap.size ≤ gb615));clear HB;have HB:=n0_;have BK615:=n1_;have GW615:=n2_;have GE615:=n3_;clear n0_ n1_ n2_ n3_;clear hb hbox hg;have hcz10_0 : w9.cell? ⟨gb615,0,none⟩ = some (.slice A0_0 l0_0.length c0_0):=(blk_cell BK615.out 0).trans rfl;have hfz10_0:=blk_frozen BK615.out 0) | ((with_reducible refine gate_callee (f:=84) rfl ?_);refine goesL_ (some 10) rfl rfl Try.func84 (by kernel_rfl) rfl #[.int .i64 a1,.int .i64 0,.int .i64 (wrap64 ((l0_0.length : Int) - 1))] rfl (by (try simp only [List.map_toArray,List.map_cons,List.map_nil]);first | done | rfl | (simp only [List.length_drop,List.length_take];rfl)) ?_;(with_reducible refine (impl_in.calls a1 0 (wrap64 ((l0_0.length : Int) - 1)) false _ A3.out).mono ?_);rintro e w' ⟨rfl,⟨nd,rfl⟩⟩;refine ⟨_,rfl,?_⟩))
 go_ret
 exact ⟨by first | rfl | (simp [errW_none,errW_some] <;> rfl) | (simp [*,errW_none,errW_some] <;> rfl),hs1 HB GE615⟩
end Go.Proofs.Ytdolplcbokioaaa.PB

namespace Go.Proofs.Ytdolplcbokioaaa.PB
open Go.RowKit Go.Proofs.YtdolplcbokioaaaW.PrintWords Go.Proofs.YtdolplcbokioaaaW.PrintLast Go.Proofs.YtdolplcbokioaaaW.PrintMore
attribute [local go_sem] max2_int min2_int max_two min_two max_three min_three max_four min_four   -- for this text's walks alone
set_option linter.unusedVariables false
set_option linter.unusedSimpArgs false
def impl_knotsOf.l0 : Nat → List Int → List Int → Int → Int → List (S133) → Option (List Int)
 | 0,_,_,_,_,_=>none
 | k + 1,x5,x19,x20,x21,x630000=>if x21 < x20 then (if 0 ≤ x21 then (if x21 < (x19.length : Int) then ((impl_in.f (rd x19 x21) 0 (wrap64 ((x630000.length : Int) - 1))).bind fun t636=>(if t636 = true then ((impl_hasInt.f k x5 (rd x19 x21)).bind fun t637=>(if t637 = true then (impl_knotsOf.l0 k x5 x19 x20 (wrap64 (x21 + 1)) x630000) else (if x5.length < 17592186044416 then (impl_knotsOf.l0 k (x5 ++ [rd x19 x21]) x19 x20 (wrap64 (x21 + 1)) x630000) else (none)))) else (impl_knotsOf.l0 k x5 x19 x20 (wrap64 (x21 + 1)) x630000))) else (none)) else (none)) else (some x5)
def impl_knotsOf.f (k : Nat) (l0_0 : List (S133)) (a1 : Int) : Option (List Int):=(impl_isRoot.f l0_0 a1).bind fun t630=>(if t630 = true then (if 0 ≤ a1 then (if a1 < (l0_0.length : Int) then (impl_knotsOf.l0 k (([a1] : List Int)) ((rd_T133 l0_0 a1).f1) (((rd_T133 l0_0 a1).f1).length : Int) 0 l0_0) else (none)) else (none)) else (some ([] : List Int)))
theorem impl_knotsOf.mono_l : ∀ k,(∀ y0 y1 y2 y3 y4,LeO (impl_knotsOf.l0 k y0 y1 y2 y3 y4) (impl_knotsOf.l0 (k + 1) y0 y1 y2 y3 y4))
 | 0=>fun _ _ _ _ _ r h=>by simp [impl_knotsOf.l0] at h
 | k + 1=>by
  have ih0:=impl_knotsOf.mono_l k;intro y0 y1 y2 y3 y4;unfold impl_knotsOf.l0
  repeat' first
  | (with_reducible exact ih0 _ _ _ _ _)
  | (with_reducible exact impl_hasInt.mono _ _ _)
  | (with_reducible exact LeO.refl _)
  | (with_reducible exact LeO.none _)
  | (with_reducible refine LeO.ite ?_ ?_)
  | (with_reducible refine LeO.bind ?_ (fun _=>?_))
  | exact ih0 _ _ _ _ _
  | exact impl_hasInt.mono _ _ _
  | exact LeO.none _
  | refine LeO.ite ?_ ?_
  | refine LeO.bind ?_ (fun _=>?_)
theorem impl_knotsOf.mono : ∀ a0 a1 k,LeO (impl_knotsOf.f k a0 a1) (impl_knotsOf.f (k + 1) a0 a1):=by
 intro a0 a1 k;have ih0:=impl_knotsOf.mono_l k;unfold impl_knotsOf.f
 repeat' first
   | (with_reducible exact ih0 _ _ _ _ _)
   | (with_reducible exact impl_hasInt.mono _ _ _)
   | (with_reducible exact LeO.refl _)
   | (with_reducible exact LeO.none _)
   | (with_reducible refine LeO.ite ?_ ?_)
   | (with_reducible refine LeO.bind ?_ (fun _=>?_))
   | exact ih0 _ _ _ _ _
   | exact impl_hasInt.mono _ _ _
   | exact LeO.none _
   | refine LeO.ite ?_ ?_
   | refine LeO.bind ?_ (fun _=>?_)
set_option maxHeartbeats 8000000 in
set_option maxRecDepth 100000 in
theorem impl_knotsOf.calls (k : Nat) (A0_0 : Option Addr) (c0_0 : Nat) (l0_0 : List (S133)) (a1 : Int) (r : List Int) (w : World) (hr0_0 : Kd.C k133 w A0_0 l0_0.length l0_0) (hc0_0 : l0_0.length ≤ c0_0) (h : impl_knotsOf.f k l0_0 a1 = some r) :
  Calls Try.prog 94 #[.agg #[.slice A0_0 l0_0.length c0_0],.int .i64 a1] w fun e w'=>∃ v0_ : Value,e = .returned (v0_) ∧ Kd.R (Kd.int .i64) 3 w' w.heap.size (fun _=>True) v0_ r ∧ Below w.heap.size w w':=by
 have hu44:=Try.underlying44;have HR0_0:=Aside0.mk hr0_0;have HC0_0:=Aside0.mk hc0_0;clear hr0_0 hc0_0;have HB:=Aside0.mk (Below.refl w.heap.size w);have H : ((impl_isRoot.f l0_0 a1).bind fun t630=>(if t630 = true then (if 0 ≤ a1 then (if a1 < (l0_0.length : Int) then (impl_knotsOf.l0 k (([a1] : List Int)) ((rd_T133 l0_0 a1).f1) (((rd_T133 l0_0 a1).f1).length : Int) 0 l0_0) else (none)) else (none)) else (some ([] : List Int)))) = some r:=h;clear h;replace H:=Option.bind_eq_some_iff.mp H;obtain ⟨t630,A30,H⟩:=H;replace H : (if t630 = true then (if 0 ≤ a1 then (if a1 < (l0_0.length : Int) then (impl_knotsOf.l0 k (([a1] : List Int)) ((rd_T133 l0_0 a1).f1) (((rd_T133 l0_0 a1).f1).length : Int) 0 l0_0) else (none)) else (none)) else (some ([] : List Int))) = some r:=H;have A3:=Aside0.mk A30;clear A30
 by_cases c4 : t630 = true
 ·subst c4;have H1 : (if 0 ≤ a1 then (if a1 < (l0_0.length : Int) then (impl_knotsOf.l0 k (([a1] : List Int)) ((rd_T133 l0_0 a1).f1) (((rd_T133 l0_0 a1).f1).length : Int) 0 l0_0) else (none)) else (none)) = some r:=by rw [if_pos rfl] at H;exact H
  clear H;have H:=H1;clear H1;obtain ⟨y631,hy631⟩ : ∃ y_ : List Int,y_ = (([a1] : List Int)):=⟨_,rfl⟩;replace H : (if 0 ≤ a1 then (if a1 < (l0_0.length : Int) then (impl_knotsOf.l0 k y631 ((rd_T133 l0_0 a1).f1) (((rd_T133 l0_0 a1).f1).length : Int) 0 l0_0) else (none)) else (none)) = some r:=by first | (rw [hy631];with_reducible exact H) | (have H2_:=(Option.bind_some _ _).symm.trans H;rw [hy631];with_reducible exact H2_) | (have H2_:=(Option.bind_some _ _).symm.trans H;with_reducible exact H2_) | with_reducible exact H | (rw [hy631];exact H) | exact H
  have Ny631:=Aside0.mk hy631;clear hy631
  by_cases c5 : 0 ≤ a1
  ·rw [if_pos c5] at H;have c5b0 : decide (0 ≤ a1) = true:=decide_eq_true c5;clear c5
   by_cases c6 : a1 < (l0_0.length : Int)
   ·rw [if_pos c6] at H;have c6b0 : decide (a1 < (l0_0.length : Int)) = true:=decide_eq_true c6;clear c6;have H':=Aside0.mk H;clear H
    go_enter Try.func94,Try.ntmps94
    go_wp2_with (first | ((with_reducible refine gate_dst (N:=2) rfl ?_);refine box_event ?hg (N:=2) ?hd (cs:=#[.slice A0_0 l0_0.length c0_0]) (t:=44) ?hr ?_;(case hd=>rfl);(case hg=>rfl);(case hr=>first | (go_simp;done) | (go_simp;rfl));intro gb629 hg w7 hbox hb;have n0_:=Aside0.mk (below_step (hs HB) hb);have n1_:=Aside0.mk (hbox);have n2_:=Aside0.mk ((by rw [hg];exact (below_size (hs HB)) : w.heap.size ≤ gb629));have n3_:=Aside0.mk ((by rw [hg];exact (below_size (hs HB)) : w.heap.size ≤ gb629));clear HB;have HB:=n0_;have BK629:=n1_;have GW629:=n2_;have GE629:=n3_;clear n0_ n1_ n2_ n3_;clear hb hbox hg;have hcz8_0 : w7.cell? ⟨gb629,0,none⟩ = some (.slice A0_0 l0_0.length c0_0):=(blk_cell BK629.out 0).trans rfl;have hfz8_0:=blk_frozen BK629.out 0) | ((with_reducible refine gate_callee (f:=92) rfl ?_);refine goesL_ (some 10) rfl rfl Try.func92 (by kernel_rfl) rfl #[.agg #[.slice A0_0 l0_0.length c0_0],.int .i64 a1] rfl (by (try simp only [List.map_toArray,List.map_cons,List.map_nil]);first | done | rfl | (simp only [List.length_drop,List.length_take];rfl)) ?_;(with_reducible refine (impl_isRoot.calls _ _ l0_0 a1 true _ ?side1 ?side2 A3.out).mono ?_);(case side1=>repeat (first | exact (Kd.C_below HR0_0.out HB.out) | (with_reducible refine Kd.C_alloc ?_ _) | (with_reducible refine Kd.C_drewN ?_ _) | (with_reducible refine Kd.C_drew ?_)));(case side2=>exact HC0_0.out);rintro e w9 ⟨rfl,hb⟩;refine ⟨_,rfl,?_⟩;have n0_:=Aside0.mk (blk_below (g:=gb629) (o:=.cells #[.slice A0_0 l0_0.length c0_0] 44 (0,0)) (bs BK629) hb);have n1_:=Aside0.mk (below_step (hs1 HB GE629) hb);clear BK629;clear HB;have BK629:=n0_;have HB:=n1_;clear n0_ n1_;(try clear hb);(try clear hb2);(try clear hk);(try clear hi)) | ((with_reducible refine gate_dst (N:=13) rfl ?_);refine Kd.R_lit (Kd.int .i64) _ 3 ?hg (N:=13) ?hd (xs:=([a1] : List Int)) (inner:=[.int .i64 a1]) (ok:=fun _=>True) (okp:=fun _=>True) ?hr ?hp (fun _ hk=>hk) trivial (Below.refl _ _) (Nat.le_refl _) (by simp) ?_;(case hd=>rfl);(case hg=>rfl);(case hr=>first | (go_simp;done) | (go_simp;rfl));(case hp=>exact (Reps.one (show Kd.M (Kd.int .i64) _ _ _ a1 [.int .i64 a1] from rfl) (Reps.none _ _)));intro v632 w10 ho11 hb hg_ hnew_;clear hg_ hnew_;(first | rw [← Ny631.out] at ho11 | (simp only [Int.reduceToNat] at ho11;rw [← Ny631.out] at ho11));have n0_:=Aside0.mk (Kd.R_lower ho11 (below_size (hs1 HB GE629)));have n1_:=Aside0.mk (blk_below (g:=gb629) (o:=.cells #[.slice A0_0 l0_0.length c0_0] 44 (0,0)) (bs BK629) hb);have n2_:=Aside0.mk (below_step (hs1 HB GE629) hb);clear BK629;clear HB;have HO633:=n0_;have BK629:=n1_;have HB:=n2_;clear n0_ n1_ n2_;clear hb ho11;have hcz12_0 : w10.cell? ⟨gb629,0,none⟩ = some (.slice A0_0 l0_0.length c0_0):=(blk_cell BK629.out 0).trans rfl;have hfz12_0:=blk_frozen BK629.out 0;have p634 : 0 ≤ (a1 : Int):=of_decide_eq_true (by first | (with_reducible assumption) | assumption);have q634 : a1 < (l0_0.length : Int):=of_decide_eq_true (by first | (with_reducible assumption) | assumption);obtain ⟨ad634,A634_1,c634_1,e634,hx634_0,hx634_1,hl634_1,hi634_1⟩:=at_T133 HR0_0.out a1 p634 q634;cases e634;replace hx634_0:=(HB.out.cell (World.block_lt_of_cell? w _ hx634_0)).trans hx634_0;replace hx634_1:=(HB.out.cell (World.block_lt_of_cell? w _ hx634_1)).trans hx634_1;have HR634_1:=Aside0.mk hi634_1;have HC634_1:=Aside0.mk hl634_1;clear hi634_1 hl634_1;replace p634:=eq_true p634;replace q634:=eq_true q634));go_loopg [5,21] k (fun kq v5 v21 w'=>∃ (x5_1 : List Int) (x21_1 : Int),v21 = .int .i64 x21_1 ∧ Aside0 (impl_knotsOf.l0 kq x5_1 ((rd_T133 l0_0 a1).f1) (((rd_T133 l0_0 a1).f1).length : Int) x21_1 l0_0 = some r) ∧ Aside0 (kq ≤ k) ∧ Aside0 (Kd.R (Kd.int .i64) 3 w' w.heap.size (fun _=>True) v5 x5_1) ∧ Aside0 (w'.heap[gb629]? = some (.cells #[(.slice (some ad634) l0_0.length c0_0)] 44 (0,0))) ∧ Aside0 (Below w.heap.size w w'));case atStart=>exact ⟨(y631),(0),(by first | rfl | (simp;done) | (simp [*];done)),H',⟨Nat.le_refl _⟩,⟨rs HO633⟩,⟨bs BK629⟩,⟨hs1 HB GE629⟩⟩
    case round =>
     clear H'
     try clear p2
     try clear c4
     try clear c5
     try clear c5b0
     try clear c6
     try clear c6b0
     try clear p6
     try clear q6
     try clear hx6
     try clear c9
     try clear hcz12_0
     try clear hcz8_0
     try clear hfz12_0
     try clear hfz8_0
     try clear hx634_0
     try clear hx634_1
     try clear p634
     try clear q634
     obtain ⟨x5_1,x21_1,rfl,HA,HK1,HO_5,BK629,HB⟩:=hrel;cases gk with
     | zero=>exact absurd HA.out (by simp [impl_knotsOf.l0])
     | succ k1 =>
      have H:=HA.out;clear HA;simp only [impl_knotsOf.l0] at H
      by_cases c13 : x21_1 < (((rd_T133 l0_0 a1).f1).length : Int)
      ·rw [if_pos c13] at H;have c13b0 : decide (x21_1 < (((rd_T133 l0_0 a1).f1).length : Int)) = true:=decide_eq_true c13;clear c13
       by_cases c14 : 0 ≤ x21_1
       ·rw [if_pos c14] at H;have c14b0 : decide (0 ≤ x21_1) = true:=decide_eq_true c14;clear c14
        by_cases c15 : x21_1 < (((rd_T133 l0_0 a1).f1).length : Int)
        ·rw [if_pos c15] at H;have c15b0 : decide (x21_1 < (((rd_T133 l0_0 a1).f1).length : Int)) = true:=decide_eq_true c15;clear c15;replace H:=Option.bind_eq_some_iff.mp H;obtain ⟨t636,A160,H⟩:=H;replace H : (if t636 = true then ((impl_hasInt.f k1 x5_1 (rd ((rd_T133 l0_0 a1).f1) x21_1)).bind fun t637=>(if t637 = true then (impl_knotsOf.l0 k1 x5_1 ((rd_T133 l0_0 a1).f1) (((rd_T133 l0_0 a1).f1).length : Int) (wrap64 (x21_1 + 1)) l0_0) else (if x5_1.length < 17592186044416 then (impl_knotsOf.l0 k1 (x5_1 ++ [rd ((rd_T133 l0_0 a1).f1) x21_1]) ((rd_T133 l0_0 a1).f1) (((rd_T133 l0_0 a1).f1).length : Int) (wrap64 (x21_1 + 1)) l0_0) else (none)))) else (impl_knotsOf.l0 k1 x5_1 ((rd_T133 l0_0 a1).f1) (((rd_T133 l0_0 a1).f1).length : Int) (wrap64 (x21_1 + 1)) l0_0)) = some r:=H;have A16:=Aside0.mk A160;clear A160
         by_cases c17 : t636 = true
         ·subst c17;have H1 : ((impl_hasInt.f k1 x5_1 (rd ((rd_T133 l0_0 a1).f1) x21_1)).bind fun t637=>(if t637 = true then (impl_knotsOf.l0 k1 x5_1 ((rd_T133 l0_0 a1).f1) (((rd_T133 l0_0 a1).f1).length : Int) (wrap64 (x21_1 + 1)) l0_0) else (if x5_1.length < 17592186044416 then (impl_knotsOf.l0 k1 (x5_1 ++ [rd ((rd_T133 l0_0 a1).f1) x21_1]) ((rd_T133 l0_0 a1).f1) (((rd_T133 l0_0 a1).f1).length : Int) (wrap64 (x21_1 + 1)) l0_0) else (none)))) = some r:=by rw [if_pos rfl] at H;exact H
          clear H;have H:=H1;clear H1;replace H:=Option.bind_eq_some_iff.mp H;obtain ⟨t637,A180,H⟩:=H;replace H : (if t637 = true then (impl_knotsOf.l0 k1 x5_1 ((rd_T133 l0_0 a1).f1) (((rd_T133 l0_0 a1).f1).length : Int) (wrap64 (x21_1 + 1)) l0_0) else (if x5_1.length < 17592186044416 then (impl_knotsOf.l0 k1 (x5_1 ++ [rd ((rd_T133 l0_0 a1).f1) x21_1]) ((rd_T133 l0_0 a1).f1) (((rd_T133 l0_0 a1).f1).length : Int) (wrap64 (x21_1 + 1)) l0_0) else (none))) = some r:=H;have A18:=Aside0.mk A180;clear A180
          by_cases c19 : t637 = true
          ·subst c19;have H1 : (impl_knotsOf.l0 k1 x5_1 ((rd_T133 l0_0 a1).f1) (((rd_T133 l0_0 a1).f1).length : Int) (wrap64 (x21_1 + 1)) l0_0) = some r:=by rw [if_pos rfl] at H;exact H
           clear H;have H:=H1;clear H1;have H':=Aside0.mk H;clear H;have p635 : 0 ≤ (x21_1 : Int):=of_decide_eq_true (by first | (with_reducible assumption) | assumption);have q635 : x21_1 < (((rd_T133 l0_0 a1).f1).length : Int):=of_decide_eq_true (by first | (with_reducible assumption) | assumption);obtain ⟨ad635,e635,hx635_0⟩:=Kd.at_int HR634_1.out x21_1 p635 q635;cases e635;replace hx635_0:=(HB.out.cell (World.block_lt_of_cell? w _ hx635_0)).trans hx635_0;replace p635:=eq_true p635;replace q635:=eq_true q635;have hcz20_0 : wr.cell? ⟨gb629,0,none⟩ = some (.slice (some ad634) l0_0.length c0_0):=(blk_cell BK629.out 0).trans rfl;have hfz20_0:=blk_frozen BK629.out 0;go_wp2_with (first | ((with_reducible refine gate_callee (f:=84) rfl ?_);refine goesL_ (some 30) rfl rfl Try.func84 (by kernel_rfl) rfl #[.int .i64 (rd ((rd_T133 l0_0 a1).f1) x21_1),.int .i64 0,.int .i64 (wrap64 ((l0_0.length : Int) - 1))] rfl (by (try simp only [List.map_toArray,List.map_cons,List.map_nil]);first | done | rfl | (simp only [List.length_drop,List.length_take];rfl)) ?_;(with_reducible refine (impl_in.calls (rd ((rd_T133 l0_0 a1).f1) x21_1) 0 (wrap64 ((l0_0.length : Int) - 1)) true _ A16.out).mono ?_);rintro e w' ⟨rfl,⟨nd,rfl⟩⟩;refine ⟨_,rfl,?_⟩;obtain ⟨Ao21,co21,eo21⟩:=Kd.R_slice HO_5.out;subst eo21) | (go_at_call 87;(with_reducible refine (impl_hasInt.calls k1 _ _ x5_1 (rd ((rd_T133 l0_0 a1).f1) x21_1) true _ ?side1 ?side2 A18.out).mono ?_);(case side1=>repeat (first | exact (Kd.R_reads' HO_5.out).2.2 | (with_reducible refine Kd.C_alloc ?_ _) | (with_reducible refine Kd.C_drewN ?_ _) | (with_reducible refine Kd.C_drew ?_)));(case side2=>exact (Kd.R_reads' HO_5.out).2.1);rintro e w' ⟨rfl,⟨nd,rfl⟩⟩));go_roundg k1;case measure=>have:=HK1.out;omega
           case rel=>exact ⟨(x5_1),(wrap64 (x21_1 + 1)),(by first | rfl | (simp;done) | (simp [*];done)),H',⟨by have:=HK1.out;omega⟩,⟨rs HO_5⟩,⟨bs BK629⟩,⟨hs1 HB GE629⟩⟩
          replace c19:=Bool.eq_false_iff.mpr c19;subst c19;have H1 : (if x5_1.length < 17592186044416 then (impl_knotsOf.l0 k1 (x5_1 ++ [rd ((rd_T133 l0_0 a1).f1) x21_1]) ((rd_T133 l0_0 a1).f1) (((rd_T133 l0_0 a1).f1).length : Int) (wrap64 (x21_1 + 1)) l0_0) else (none)) = some r:=by rw [if_neg (show ¬ (false = true) by decide)] at H;exact H
          clear H;have H:=H1;clear H1
          by_cases c22 : x5_1.length < 17592186044416
          ·rw [if_pos c22] at H;have LMc22:=Aside0.mk c22;clear c22;obtain ⟨y638,hy638⟩ : ∃ y_ : List Int,y_ = (x5_1 ++ [rd ((rd_T133 l0_0 a1).f1) x21_1]):=⟨_,rfl⟩;replace H : (impl_knotsOf.l0 k1 y638 ((rd_T133 l0_0 a1).f1) (((rd_T133 l0_0 a1).f1).length : Int) (wrap64 (x21_1 + 1)) l0_0) = some r:=by first | (rw [hy638];with_reducible exact H) | (have H2_:=(Option.bind_some _ _).symm.trans H;rw [hy638];with_reducible exact H2_) | (have H2_:=(Option.bind_some _ _).symm.trans H;with_reducible exact H2_) | with_reducible exact H | (rw [hy638];exact H) | exact H
           have Ny638:=Aside0.mk hy638;clear hy638;have H':=Aside0.mk H;clear H;have p635 : 0 ≤ (x21_1 : Int):=of_decide_eq_true (by first | (with_reducible assumption) | assumption);have q635 : x21_1 < (((rd_T133 l0_0 a1).f1).length : Int):=of_decide_eq_true (by first | (with_reducible assumption) | assumption);obtain ⟨ad635,e635,hx635_0⟩:=Kd.at_int HR634_1.out x21_1 p635 q635;cases e635;replace hx635_0:=(HB.out.cell (World.block_lt_of_cell? w _ hx635_0)).trans hx635_0;replace p635:=eq_true p635;replace q635:=eq_true q635;have hcz23_0 : wr.cell? ⟨gb629,0,none⟩ = some (.slice (some ad634) l0_0.length c0_0):=(blk_cell BK629.out 0).trans rfl;have hfz23_0:=blk_frozen BK629.out 0;go_wp2_with (first | ((with_reducible refine gate_callee (f:=84) rfl ?_);refine goesL_ (some 30) rfl rfl Try.func84 (by kernel_rfl) rfl #[.int .i64 (rd ((rd_T133 l0_0 a1).f1) x21_1),.int .i64 0,.int .i64 (wrap64 ((l0_0.length : Int) - 1))] rfl (by (try simp only [List.map_toArray,List.map_cons,List.map_nil]);first | done | rfl | (simp only [List.length_drop,List.length_take];rfl)) ?_;(with_reducible refine (impl_in.calls (rd ((rd_T133 l0_0 a1).f1) x21_1) 0 (wrap64 ((l0_0.length : Int) - 1)) true _ A16.out).mono ?_);rintro e w' ⟨rfl,⟨nd,rfl⟩⟩;refine ⟨_,rfl,?_⟩;obtain ⟨Ao24,co24,eo24⟩:=Kd.R_slice HO_5.out;subst eo24) | (go_at_call 87;(with_reducible refine (impl_hasInt.calls k1 _ _ x5_1 (rd ((rd_T133 l0_0 a1).f1) x21_1) false _ ?side1 ?side2 A18.out).mono ?_);(case side1=>repeat (first | exact (Kd.R_reads' HO_5.out).2.2 | (with_reducible refine Kd.C_alloc ?_ _) | (with_reducible refine Kd.C_drewN ?_ _) | (with_reducible refine Kd.C_drew ?_)));(case side2=>exact (Kd.R_reads' HO_5.out).2.1);rintro e w' ⟨rfl,⟨nd,rfl⟩⟩) | ((with_reducible refine gate_builtin (b:=.append) (xs:=#[.tmp 37,.tmp 39]) rfl ?_);at_builtin;refine Kd.R_append (Kd.int .i64) (w0:=w) w.heap.size rfl (.tmp 37) (.tmp 39) 26 3 (.int .i64 0) 8 rfl Try.underlying26 info3 rfl (by decide) (by omega) (.slice Ao24 x5_1.length co24) x5_1 (rd ((rd_T133 l0_0 a1).f1) x21_1) [.int .i64 (rd ((rd_T133 l0_0 a1).f1) x21_1)] (fun _=>True) (fun _=>False) rfl rfl ?aP (fun _ hk=>hk.elim) ?aF ?aO ?aB ?aS ?aL ?_;(case aP=>exact rfl);(case aB=>exact (hs1 HB GE629));(case aF=>exact (fun _ _=>trivial));(case aO=>exact (rs HO_5));(case aS=>exact (below_size (hs1 HB GE629)));(case aL=>have:=LMc22.out;omega);intro v639 w25 ho hb hg hat;rw [← Ny638.out] at ho;have n0_:=Aside0.mk (blk_grown (g:=gb629) (o:=.cells #[.slice (some ad634) l0_0.length c0_0] 44 (0,0)) (bs BK629) hg (Kd.R_ne HO_5.out BK629.out (by decide)));have n1_:=Aside0.mk (hb);have n2_:=Aside0.mk (ho);clear BK629;clear HB;clear HO_5;have BK629:=n0_;have HB:=n1_;have HO640:=n2_;clear n0_ n1_ n2_;clear ho hb hg hat));go_roundg k1;case measure=>have:=HK1.out;omega
           case rel=>exact ⟨(y638),(wrap64 (x21_1 + 1)),(by first | rfl | (simp;done) | (simp [*];done)),H',⟨by have:=HK1.out;omega⟩,⟨rs HO640⟩,⟨bs BK629⟩,⟨hs1 HB GE629⟩⟩
          rw [if_neg c22] at H;exact absurd H (by simp)
         replace c17:=Bool.eq_false_iff.mpr c17;subst c17;have H1 : (impl_knotsOf.l0 k1 x5_1 ((rd_T133 l0_0 a1).f1) (((rd_T133 l0_0 a1).f1).length : Int) (wrap64 (x21_1 + 1)) l0_0) = some r:=by rw [if_neg (show ¬ (false = true) by decide)] at H;exact H
         clear H;have H:=H1;clear H1;have H':=Aside0.mk H;clear H;have p635 : 0 ≤ (x21_1 : Int):=of_decide_eq_true (by first | (with_reducible assumption) | assumption);have q635 : x21_1 < (((rd_T133 l0_0 a1).f1).length : Int):=of_decide_eq_true (by first | (with_reducible assumption) | assumption);obtain ⟨ad635,e635,hx635_0⟩:=Kd.at_int HR634_1.out x21_1 p635 q635;cases e635;replace hx635_0:=(HB.out.cell (World.block_lt_of_cell? w _ hx635_0)).trans hx635_0;replace p635:=eq_true p635;replace q635:=eq_true q635;have hcz26_0 : wr.cell? ⟨gb629,0,none⟩ = some (.slice (some ad634) l0_0.length c0_0):=(blk_cell BK629.out 0).trans rfl;have hfz26_0:=blk_frozen BK629.out 0;go_wp2_with (first | ((with_reducible refine gate_callee (f:=84) rfl ?_);refine goesL_ (some 30) rfl rfl Try.func84 (by kernel_rfl) rfl #[.int .i64 (rd ((rd_T133 l0_0 a1).f1) x21_1),.int .i64 0,.int .i64 (wrap64 ((l0_0.length : Int) - 1))] rfl (by (try simp only [List.map_toArray,List.map_cons,List.map_nil]);first | done | rfl | (simp only [List.length_drop,List.length_take];rfl)) ?_;(with_reducible refine (impl_in.calls (rd ((rd_T133 l0_0 a1).f1) x21_1) 0 (wrap64 ((l0_0.length : Int) - 1)) false _ A16.out).mono ?_);rintro e w' ⟨rfl,⟨nd,rfl⟩⟩;refine ⟨_,rfl,?_⟩));go_roundg k1;case measure=>have:=HK1.out;omega
         case rel=>exact ⟨(x5_1),(wrap64 (x21_1 + 1)),(by first | rfl | (simp;done) | (simp [*];done)),H',⟨by have:=HK1.out;omega⟩,⟨rs HO_5⟩,⟨bs BK629⟩,⟨hs1 HB GE629⟩⟩
        rw [if_neg c15] at H;exact absurd H (by simp)
       rw [if_neg c14] at H;exact absurd H (by simp)
      rw [if_neg c13] at H;have c13b0 : decide (x21_1 < (((rd_T133 l0_0 a1).f1).length : Int)) = false:=decide_eq_false c13;clear c13;obtain rfl:=Option.some.inj H
      go_wp2
      go_ret
      exact ⟨_,by first | rfl | (simp [errW_none,errW_some] <;> rfl) | (simp [*,errW_none,errW_some] <;> rfl),rs HO_5,hs1 HB GE629⟩
   rw [if_neg c6] at H;exact absurd H (by simp)
  rw [if_neg c5] at H;exact absurd H (by simp)
 replace c4:=Bool.eq_false_iff.mpr c4;subst c4;have H1 : (some ([] : List Int)) = some r:=by rw [if_neg (show ¬ (false = true) by decide)] at H;exact H
 clear H;have H:=H1;clear H1;obtain rfl:=Option.some.inj H
 go_enter Try.func94,Try.ntmps94
 go_wp2_with (first | ((with_reducible refine gate_dst (N:=2) rfl ?_);refine box_event ?hg (N:=2) ?hd (cs:=#[.slice A0_0 l0_0.length c0_0]) (t:=44) ?hr ?_;(case hd=>rfl);(case hg=>rfl);(case hr=>first | (go_simp;done) | (go_simp;rfl));intro gb629 hg w27 hbox hb;have n0_:=Aside0.mk (below_step (hs HB) hb);have n1_:=Aside0.mk (hbox);have n2_:=Aside0.mk ((by rw [hg];exact (below_size (hs HB)) : w.heap.size ≤ gb629));have n3_:=Aside0.mk ((by rw [hg];exact (below_size (hs HB)) : w.heap.size ≤ gb629));clear HB;have HB:=n0_;have BK629:=n1_;have GW629:=n2_;have GE629:=n3_;clear n0_ n1_ n2_ n3_;clear hb hbox hg;have hcz28_0 : w27.cell? ⟨gb629,0,none⟩ = some (.slice A0_0 l0_0.length c0_0):=(blk_cell BK629.out 0).trans rfl;have hfz28_0:=blk_frozen BK629.out 0) | ((with_reducible refine gate_callee (f:=92) rfl ?_);refine goesL_ (some 10) rfl rfl Try.func92 (by kernel_rfl) rfl #[.agg #[.slice A0_0 l0_0.length c0_0],.int .i64 a1] rfl (by (try simp only [List.map_toArray,List.map_cons,List.map_nil]);first | done | rfl | (simp only [List.length_drop,List.length_take];rfl)) ?_;(with_reducible refine (impl_isRoot.calls _ _ l0_0 a1 false _ ?side1 ?side2 A3.out).mono ?_);(case side1=>repeat (first | exact (Kd.C_below HR0_0.out HB.out) | (with_reducible refine Kd.C_alloc ?_ _) | (with_reducible refine Kd.C_drewN ?_ _) | (with_reducible refine Kd.C_drew ?_)));(case side2=>exact HC0_0.out);rintro e w29 ⟨rfl,hb⟩;refine ⟨_,rfl,?_⟩;have n0_:=Aside0.mk (blk_below (g:=gb629) (o:=.cells #[.slice A0_0 l0_0.length c0_0] 44 (0,0)) (bs BK629) hb);have n1_:=Aside0.mk (below_step (hs1 HB GE629) hb);clear BK629;clear HB;have BK629:=n0_;have HB:=n1_;clear n0_ n1_;(try clear hb);(try clear hb2);(try clear hk);(try clear hi)))
 go_ret
 exact ⟨_,by first | rfl | (simp [errW_none,errW_some] <;> rfl) | (simp [*,errW_none,errW_some] <;> rfl),by first | exact Kd.R_nil _ _ _ _ _ | exact Kd.N_nil _ _ _ _ _ | exact Kd.V_nil _ _ _ _ _ | exact Kd.Q_nil _ _ _ _ _ | exact Kd.S_nil _ _ _ _ _,hs1 HB GE629⟩
end Go.Proofs.Ytdolplcbokioaaa.PB
