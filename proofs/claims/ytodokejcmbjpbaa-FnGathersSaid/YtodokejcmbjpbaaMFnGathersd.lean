/- FnGathers: functions of the translation as Lean functions with what their calls come to, plain lemmas on them, and, at the end, the row. Parts of one proof, merged by a program of this session; each part's own sentence stands at its head. -/
import Derived.Test.YtodokejcmbjpbaaMFnGathersc
set_option linter.unusedSimpArgs false
set_option linter.unusedVariables false
namespace Go.Proofs.Ytodokejcmbjpbaa.PK
open Go.RowKit Go.Proofs.YtodokejcmbjpbaaW.PrintWords Go.Proofs.YtodokejcmbjpbaaW.PrintLast Go.Proofs.YtodokejcmbjpbaaW.PrintMore
attribute [local go_sem] max2_int min2_int max_two min_two max_three min_three max_four min_four
mutual
def spec_Gather.l0 : Nat → List (S36) → List Int → Int → Option ((List (S40)))
 | 0,_,_,_=>none
 | k + 1,x0,x3,x4=>if x4 < (x0.length : Int) then (if 0 ≤ x4 then (if ((rd_T36 x0 x4).f2.f0) = 2 then (spec_Gather.l1 k x0 x3 x4 (([] : List Int)) 0 ((rd_T36 x0 x4).f2.f0) ((rd_T36 x0 x4).f2.f1) ((rd_T36 x0 x4).f2.f2) ((rd_T36 x0 x4).f2.f3) ((rd_T36 x0 x4).f2.f4) ((rd_T36 x0 x4).f2.f5)) else (spec_Gather.l0 k x0 x3 (wrap64 (x4 + 1)))) else (none)) else (spec_Gather.l3 k x0 x3 (([] : List (S40))) 0)
def spec_Gather.l1 : Nat → List (S36) → List Int → Int → List Int → Int → Int → Int → Int → Int → Int → ByteArray → Option ((List (S40)))
 | 0,_,_,_,_,_,_,_,_,_,_,_=>none
 | k + 1,x0,x3,x4,x6,x7,x702000,x702001,x702002,x702003,x702004,x702005=>if x7 < (x3.length : Int) then (if 0 ≤ x7 then (if (rd x3 x7) < x702002 then (if x6.length < 17592186044416 then (spec_Gather.l1 k x0 x3 x4 (x6 ++ [rd x3 x7]) (wrap64 (x7 + 1)) x702000 x702001 x702002 x702003 x702004 x702005) else (none)) else (spec_Gather.l1 k x0 x3 x4 x6 (wrap64 (x7 + 1)) x702000 x702001 x702002 x702003 x702004 x702005)) else (none)) else (if x6.length < 17592186044416 then (spec_Gather.l2 k x0 x3 x4 (x6 ++ [x702002]) 0 x702000 x702001 x702002 x702003 x702004 x702005) else (none))
def spec_Gather.l2 : Nat → List (S36) → List Int → Int → List Int → Int → Int → Int → Int → Int → Int → ByteArray → Option ((List (S40)))
 | 0,_,_,_,_,_,_,_,_,_,_,_=>none
 | k + 1,x0,x3,x4,x6,x8,x702000,x702001,x702002,x702003,x702004,x702005=>if x8 < (x3.length : Int) then (if 0 ≤ x8 then (if (rd x3 x8) > x702002 then (if x6.length < 17592186044416 then (spec_Gather.l2 k x0 x3 x4 (x6 ++ [rd x3 x8]) (wrap64 (x8 + 1)) x702000 x702001 x702002 x702003 x702004 x702005) else (none)) else (spec_Gather.l2 k x0 x3 x4 x6 (wrap64 (x8 + 1)) x702000 x702001 x702002 x702003 x702004 x702005)) else (none)) else (spec_Gather.l0 k x0 x6 (wrap64 (x4 + 1)))
def spec_Gather.l3 : Nat → List (S36) → List Int → List (S40) → Int → Option ((List (S40)))
 | 0,_,_,_,_=>none
 | k + 1,x0,x3,x9,x10=>if x10 < (x3.length : Int) then (if 0 ≤ x10 then ((spec_l10Tx.f k x0 (rd x3 x10)).bind fun bt722=>(if bt722.2.2.2 = true then (if x9.length < 3518437208883 then (spec_Gather.l3 k x0 x3 (x9 ++ [(⟨bt722.1,bt722.2.1,bt722.2.2.1⟩ : S40)]) (wrap64 (x10 + 1))) else (none)) else (spec_Gather.l3 k x0 x3 x9 (wrap64 (x10 + 1))))) else (none)) else (some x9)
end
def spec_Gather.f (k : Nat) (l0 : List (S36)) : Option ((List (S40))):=spec_Gather.l0 k l0 (([] : List Int)) 0
theorem spec_Gather.mono_l : ∀ k,(∀ y0 y1 y2,LeO (spec_Gather.l0 k y0 y1 y2) (spec_Gather.l0 (k + 1) y0 y1 y2)) ∧ (∀ y0 y1 y2 y3 y4 y5 y6 y7 y8 y9 y10,LeO (spec_Gather.l1 k y0 y1 y2 y3 y4 y5 y6 y7 y8 y9 y10) (spec_Gather.l1 (k + 1) y0 y1 y2 y3 y4 y5 y6 y7 y8 y9 y10)) ∧ (∀ y0 y1 y2 y3 y4 y5 y6 y7 y8 y9 y10,LeO (spec_Gather.l2 k y0 y1 y2 y3 y4 y5 y6 y7 y8 y9 y10) (spec_Gather.l2 (k + 1) y0 y1 y2 y3 y4 y5 y6 y7 y8 y9 y10)) ∧ (∀ y0 y1 y2 y3,LeO (spec_Gather.l3 k y0 y1 y2 y3) (spec_Gather.l3 (k + 1) y0 y1 y2 y3))
 | 0=>⟨fun _ _ _ r h=>by simp [spec_Gather.l0] at h,fun _ _ _ _ _ _ _ _ _ _ _ r h=>by simp [spec_Gather.l1] at h,fun _ _ _ _ _ _ _ _ _ _ _ r h=>by simp [spec_Gather.l2] at h,fun _ _ _ _ r h=>by simp [spec_Gather.l3] at h⟩
 | k + 1=>by
  obtain ⟨ih0,ih1,ih2,ih3⟩:=spec_Gather.mono_l k;refine ⟨?_,?_,?_,?_⟩
  ·intro y0 y1 y2;unfold spec_Gather.l0
   repeat' first
   | (with_reducible exact ih0 _ _ _)
   | (with_reducible exact ih1 _ _ _ _ _ _ _ _ _ _ _)
   | (with_reducible exact ih2 _ _ _ _ _ _ _ _ _ _ _)
   | (with_reducible exact ih3 _ _ _ _)
   | (with_reducible exact spec_l10Tx.mono _ _ _)
   | (with_reducible exact LeO.refl _)
   | (with_reducible exact LeO.none _)
   | (with_reducible refine LeO.ite ?_ ?_)
   | (with_reducible refine LeO.bind ?_ (fun _=>?_))
   | exact ih0 _ _ _
   | exact ih1 _ _ _ _ _ _ _ _ _ _ _
   | exact ih2 _ _ _ _ _ _ _ _ _ _ _
   | exact ih3 _ _ _ _
   | exact spec_l10Tx.mono _ _ _
   | exact LeO.none _
   | refine LeO.ite ?_ ?_
   | refine LeO.bind ?_ (fun _=>?_)
  ·intro y0 y1 y2 y3 y4 y5 y6 y7 y8 y9 y10;unfold spec_Gather.l1
   repeat' first
   | (with_reducible exact ih0 _ _ _)
   | (with_reducible exact ih1 _ _ _ _ _ _ _ _ _ _ _)
   | (with_reducible exact ih2 _ _ _ _ _ _ _ _ _ _ _)
   | (with_reducible exact ih3 _ _ _ _)
   | (with_reducible exact spec_l10Tx.mono _ _ _)
   | (with_reducible exact LeO.refl _)
   | (with_reducible exact LeO.none _)
   | (with_reducible refine LeO.ite ?_ ?_)
   | (with_reducible refine LeO.bind ?_ (fun _=>?_))
   | exact ih0 _ _ _
   | exact ih1 _ _ _ _ _ _ _ _ _ _ _
   | exact ih2 _ _ _ _ _ _ _ _ _ _ _
   | exact ih3 _ _ _ _
   | exact spec_l10Tx.mono _ _ _
   | exact LeO.none _
   | refine LeO.ite ?_ ?_
   | refine LeO.bind ?_ (fun _=>?_)
  ·intro y0 y1 y2 y3 y4 y5 y6 y7 y8 y9 y10;unfold spec_Gather.l2
   repeat' first
   | (with_reducible exact ih0 _ _ _)
   | (with_reducible exact ih1 _ _ _ _ _ _ _ _ _ _ _)
   | (with_reducible exact ih2 _ _ _ _ _ _ _ _ _ _ _)
   | (with_reducible exact ih3 _ _ _ _)
   | (with_reducible exact spec_l10Tx.mono _ _ _)
   | (with_reducible exact LeO.refl _)
   | (with_reducible exact LeO.none _)
   | (with_reducible refine LeO.ite ?_ ?_)
   | (with_reducible refine LeO.bind ?_ (fun _=>?_))
   | exact ih0 _ _ _
   | exact ih1 _ _ _ _ _ _ _ _ _ _ _
   | exact ih2 _ _ _ _ _ _ _ _ _ _ _
   | exact ih3 _ _ _ _
   | exact spec_l10Tx.mono _ _ _
   | exact LeO.none _
   | refine LeO.ite ?_ ?_
   | refine LeO.bind ?_ (fun _=>?_)
  intro y0 y1 y2 y3;unfold spec_Gather.l3
  repeat' first
  | (with_reducible exact ih0 _ _ _)
  | (with_reducible exact ih1 _ _ _ _ _ _ _ _ _ _ _)
  | (with_reducible exact ih2 _ _ _ _ _ _ _ _ _ _ _)
  | (with_reducible exact ih3 _ _ _ _)
  | (with_reducible exact spec_l10Tx.mono _ _ _)
  | (with_reducible exact LeO.refl _)
  | (with_reducible exact LeO.none _)
  | (with_reducible refine LeO.ite ?_ ?_)
  | (with_reducible refine LeO.bind ?_ (fun _=>?_))
  | exact ih0 _ _ _
  | exact ih1 _ _ _ _ _ _ _ _ _ _ _
  | exact ih2 _ _ _ _ _ _ _ _ _ _ _
  | exact ih3 _ _ _ _
  | exact spec_l10Tx.mono _ _ _
  | exact LeO.none _
  | refine LeO.ite ?_ ?_
  | refine LeO.bind ?_ (fun _=>?_)
theorem spec_Gather.mono : ∀ a0 k,LeO (spec_Gather.f k a0) (spec_Gather.f (k + 1) a0):=by
 intro a0 k;obtain ⟨ih0,ih1,ih2,ih3⟩:=spec_Gather.mono_l k;unfold spec_Gather.f
 repeat' first
   | (with_reducible exact ih0 _ _ _)
   | (with_reducible exact ih1 _ _ _ _ _ _ _ _ _ _ _)
   | (with_reducible exact ih2 _ _ _ _ _ _ _ _ _ _ _)
   | (with_reducible exact ih3 _ _ _ _)
   | (with_reducible exact spec_l10Tx.mono _ _ _)
   | (with_reducible exact LeO.refl _)
   | (with_reducible exact LeO.none _)
   | (with_reducible refine LeO.ite ?_ ?_)
   | (with_reducible refine LeO.bind ?_ (fun _=>?_))
   | exact ih0 _ _ _
   | exact ih1 _ _ _ _ _ _ _ _ _ _ _
   | exact ih2 _ _ _ _ _ _ _ _ _ _ _
   | exact ih3 _ _ _ _
   | exact spec_l10Tx.mono _ _ _
   | exact LeO.none _
   | refine LeO.ite ?_ ?_
   | refine LeO.bind ?_ (fun _=>?_)
set_option maxHeartbeats 8000000 in
set_option maxRecDepth 100000 in
theorem spec_Gather.calls (k : Nat) (A0 : Option Addr) (c0 : Nat) (l0 : List (S36)) (r : List (S40)) (w : World) (hr0 : Kd.C k36 w A0 l0.length l0) (hc0 : l0.length ≤ c0) (h : spec_Gather.f k l0 = some r) :
  Calls Try.prog 18 #[.slice A0 l0.length c0] w fun e w'=>∃ v0_ : Value,e = .returned (v0_) ∧ Kd.S k40 40 w' w.heap.size (fun _=>True) v0_ r ∧ Below w.heap.size w w':=by
 have hu33:=Try.underlying33;have hu40:=Try.underlying40;have HR0:=zMk hr0;have HC0:=zMk hc0;clear hr0 hc0;have HB:=zMk (Below.refl w.heap.size w);have H : (spec_Gather.l0 k l0 (([] : List Int)) 0) = some r:=h;clear h;obtain ⟨y697,hy697⟩ : ∃ y_ : List Int,y_ = (([] : List Int)):=⟨_,rfl⟩;replace H : (spec_Gather.l0 k l0 y697 0) = some r:=by first | (rw [hy697];with_reducible exact H) | (have H2_:=(Option.bind_some _ _).symm.trans H;rw [hy697];with_reducible exact H2_) | (have H2_:=(Option.bind_some _ _).symm.trans H;with_reducible exact H2_) | with_reducible exact H | (rw [hy697];exact H) | exact H
 have Ny697:=zMk hy697;clear hy697;have H':=zMk H;clear H
 go_enter Try.func18,Try.ntmps18
 go_wp2_with (first | ((with_reducible refine gate_dst (N:=13) rfl ?_);refine Kd.R_lit (Kd.int .i64) _ 3 ?hg (N:=13) ?hd (xs:=([] : List Int)) (inner:=[]) (ok:=fun _=>True) (okp:=fun _=>True) ?hr ?hp (fun _ hk=>hk) trivial (Below.refl _ _) (Nat.le_refl _) (by simp) ?_;(case hd=>rfl);(case hg=>rfl);(case hr=>first | (go_simp;done) | (go_simp;rfl));(case hp=>exact (Reps.none _ _));intro v698 w2 ho3 hb hg_ hnew_;clear hg_ hnew_;(first | rw [← Ny697.out] at ho3 | (simp only [Int.reduceToNat] at ho3;rw [← Ny697.out] at ho3));have n0_:=zMk (Kd.R_lower ho3 (below_size (hs HB)));have n1_:=zMk (below_step (hs HB) hb);clear HB;have HO699:=n0_;have HB:=n1_;clear n0_ n1_;clear hb ho3) | ((first | fail_if_success go_not_at_region 11 | fail_if_success go_not_at_region 17);go_quiet (fail)));go_loopg [3,4] k (fun kq v3 v4 w'=>∃ (x3_1 : List Int) (x4_1 : Int),v4 = .int .i64 x4_1 ∧ Aside0 (spec_Gather.l0 kq l0 x3_1 x4_1 = some r) ∧ Aside0 (kq ≤ k) ∧ Aside0 (Kd.R (Kd.int .i64) 3 w' w.heap.size (fun _=>True) v3 x3_1) ∧ Aside0 (Below w.heap.size w w'));case atStart=>exact ⟨(y697),(0),(by first | rfl | (simp;done) | (simp [*];done)),H',⟨Nat.le_refl _⟩,⟨rs HO699⟩,⟨hs HB⟩⟩
 case round =>
  clear H'
  try clear c1
  try clear p2
  obtain ⟨x3_1,x4_1,rfl,HA,HK1,HO_3,HB⟩:=hrel;cases gk with
  | zero=>exact absurd HA.out (by simp [spec_Gather.l0])
  | succ k1 =>
   have H:=HA.out;clear HA;simp only [spec_Gather.l0] at H
   by_cases c4 : x4_1 < (l0.length : Int)
   ·rw [if_pos c4] at H;have c4b0 : decide (x4_1 < (l0.length : Int)) = true:=decide_eq_true c4;clear c4
    by_cases c5 : 0 ≤ x4_1
    ·rw [if_pos c5] at H;have c5b0 : decide (0 ≤ x4_1) = true:=decide_eq_true c5;clear c5;have p700 : 0 ≤ (x4_1 : Int):=zDe (by first | (with_reducible assumption) | assumption);have q700 : x4_1 < (l0.length : Int):=zDe (by first | (with_reducible assumption) | assumption);obtain ⟨ad700,e700,hx700_0,hx700_1,hx700_2,hx700_3,hx700_4,hx700_5,hx700_6,hx700_7⟩:=at_T36 HR0.out x4_1 p700 q700;cases e700;replace hx700_0:=(HB.out.cell (zBl w _ hx700_0)).trans hx700_0;replace hx700_1:=(HB.out.cell (zBl w _ hx700_1)).trans hx700_1;replace hx700_2:=(HB.out.cell (zBl w _ hx700_2)).trans hx700_2;replace hx700_3:=(HB.out.cell (zBl w _ hx700_3)).trans hx700_3;replace hx700_4:=(HB.out.cell (zBl w _ hx700_4)).trans hx700_4;replace hx700_5:=(HB.out.cell (zBl w _ hx700_5)).trans hx700_5;replace hx700_6:=(HB.out.cell (zBl w _ hx700_6)).trans hx700_6;replace hx700_7:=(HB.out.cell (zBl w _ hx700_7)).trans hx700_7;replace p700:=eq_true p700;replace q700:=eq_true q700
     go_upto_if 27 with (first | ((with_reducible refine gate_dst (N:=5) rfl ?_);refine box_event ?hg (N:=5) ?hd (cs:=#[.int .i64 0,.int .i64 0,.int .i64 0,.int .i64 0,.int .i64 0,.string (⟨#[]⟩ : ByteArray)]) (t:=33) ?hr ?_;(case hd=>rfl);(case hg=>rfl);(case hr=>first | (go_simp;done) | (go_simp;rfl));intro gb701 hg w7 hbox hb;have n0_:=zMk (Kd.R_below (rs HO_3) hb);have n1_:=zMk (below_step (hs HB) hb);have n2_:=zMk (hbox);have n3_:=zMk ((by rw [hg];exact (below_size (hs HB)) : w.heap.size ≤ gb701));have n4_:=zMk ((by rw [hg];exact (below_size (hs HB)) : w.heap.size ≤ gb701));clear HO_3;clear HB;have HO_3:=n0_;have HB:=n1_;have BK701:=n2_;have GW701:=n3_;have GE701:=n4_;clear n0_ n1_ n2_ n3_ n4_;clear hb hbox hg;have hcz8_0 : w7.cell? ⟨gb701,0,none⟩ = some (.int .i64 0):=(zCl BK701.out 0).trans rfl;have hcz8_1 : w7.cell? ⟨gb701,1,none⟩ = some (.int .i64 0):=(zCl BK701.out 1).trans rfl;have hcz8_2 : w7.cell? ⟨gb701,2,none⟩ = some (.int .i64 0):=(zCl BK701.out 2).trans rfl;have hcz8_3 : w7.cell? ⟨gb701,3,none⟩ = some (.int .i64 0):=(zCl BK701.out 3).trans rfl;have hcz8_4 : w7.cell? ⟨gb701,4,none⟩ = some (.int .i64 0):=(zCl BK701.out 4).trans rfl;have hcz8_5 : w7.cell? ⟨gb701,5,none⟩ = some (.string (⟨#[]⟩ : ByteArray)):=(zCl BK701.out 5).trans rfl;have hfz8_0:=zFr BK701.out 0;have hfz8_1:=zFr BK701.out 1;have hfz8_2:=zFr BK701.out 2;have hfz8_3:=zFr BK701.out 3;have hfz8_4:=zFr BK701.out 4;have hfz8_5:=zFr BK701.out 5) | ((first | fail_if_success go_not_at_region 11 | fail_if_success go_not_at_region 17);go_quiet (fail)))
     (try simp only [Act.put,zS1,zS2,zS3])
     by_cases c6 : ((rd_T36 l0 x4_1).f2.f0) = 2
     ·rw [if_pos c6] at H;have c6b0 : (((rd_T36 l0 x4_1).f2.f0) == 2) = true:=beq_iff_eq.mpr c6;have c6b1 : (((rd_T36 l0 x4_1).f2.f0) != 2) = false:=bne_eq_false_iff_eq.mpr c6;clear c6
      (first | rw [c6b0] | rw [c6b1] | (simp only [i64_w,i32_w];rw [c6b0]) | skip)
      obtain ⟨y702,hy702⟩ : ∃ y_ : List Int,y_ = (([] : List Int)):=⟨_,rfl⟩;replace H : (spec_Gather.l1 k1 l0 x3_1 x4_1 y702 0 ((rd_T36 l0 x4_1).f2.f0) ((rd_T36 l0 x4_1).f2.f1) ((rd_T36 l0 x4_1).f2.f2) ((rd_T36 l0 x4_1).f2.f3) ((rd_T36 l0 x4_1).f2.f4) ((rd_T36 l0 x4_1).f2.f5)) = some r:=by first | (rw [hy702];with_reducible exact H) | (have H2_:=(Option.bind_some _ _).symm.trans H;rw [hy702];with_reducible exact H2_) | (have H2_:=(Option.bind_some _ _).symm.trans H;with_reducible exact H2_) | with_reducible exact H | (rw [hy702];exact H) | exact H
      have Ny702:=zMk hy702;clear hy702;have H':=zMk H;clear H;go_wp2_with (first | ((with_reducible refine gate_dst (N:=28) rfl ?_);refine Kd.R_lit (Kd.int .i64) _ 3 ?hg (N:=28) ?hd (xs:=([] : List Int)) (inner:=[]) (ok:=fun _=>True) (okp:=fun _=>True) ?hr ?hp (fun _ hk=>hk) trivial (Below.refl _ _) (Nat.le_refl _) (by simp) ?_;(case hd=>rfl);(case hg=>rfl);(case hr=>first | (go_simp;done) | (go_simp;rfl));(case hp=>exact (Reps.none _ _));intro v703 w9 ho10 hb hg_ hnew_;clear hg_ hnew_;(first | rw [← Ny702.out] at ho10 | (simp only [Int.reduceToNat] at ho10;rw [← Ny702.out] at ho10));have n0_:=zMk (Kd.R_elder' (by (with_reducible repeat (first | apply Kd.R_alloc | apply Kd.R_drewN | apply Kd.R_drew));exact (Kd.R_mono (Kd.R_far (p:=⟨gb701,5,none⟩) (Kd.R_far (p:=⟨gb701,4,none⟩) (Kd.R_far (p:=⟨gb701,3,none⟩) (Kd.R_far (p:=⟨gb701,2,none⟩) (Kd.R_far (p:=⟨gb701,1,none⟩) (Kd.R_far (p:=⟨gb701,0,none⟩) (Kd.R_types HO_3.out BK701.out (by decide)) (fun _ hk=>hk.2) (.int .i64 ((rd_T36 l0 x4_1).f2.f0))) (fun _ hk=>hk.2) (.int .i64 ((rd_T36 l0 x4_1).f2.f1))) (fun _ hk=>hk.2) (.int .i64 ((rd_T36 l0 x4_1).f2.f2))) (fun _ hk=>hk.2) (.int .i64 ((rd_T36 l0 x4_1).f2.f3))) (fun _ hk=>hk.2) (.int .i64 ((rd_T36 l0 x4_1).f2.f4))) (fun _ hk=>hk.2) (.string ((rd_T36 l0 x4_1).f2.f5))) (fun _ h_=>h_.1))) (Kd.R_base ho10) hb);have n1_:=zMk (Kd.R_lower (Kd.R_new' ho10 (Kd.R_lt (by (with_reducible repeat (first | apply Kd.R_alloc | apply Kd.R_drewN | apply Kd.R_drew));exact (Kd.R_mono (Kd.R_far (p:=⟨gb701,5,none⟩) (Kd.R_far (p:=⟨gb701,4,none⟩) (Kd.R_far (p:=⟨gb701,3,none⟩) (Kd.R_far (p:=⟨gb701,2,none⟩) (Kd.R_far (p:=⟨gb701,1,none⟩) (Kd.R_far (p:=⟨gb701,0,none⟩) (Kd.R_types HO_3.out BK701.out (by decide)) (fun _ hk=>hk.2) (.int .i64 ((rd_T36 l0 x4_1).f2.f0))) (fun _ hk=>hk.2) (.int .i64 ((rd_T36 l0 x4_1).f2.f1))) (fun _ hk=>hk.2) (.int .i64 ((rd_T36 l0 x4_1).f2.f2))) (fun _ hk=>hk.2) (.int .i64 ((rd_T36 l0 x4_1).f2.f3))) (fun _ hk=>hk.2) (.int .i64 ((rd_T36 l0 x4_1).f2.f4))) (fun _ hk=>hk.2) (.string ((rd_T36 l0 x4_1).f2.f5))) (fun _ h_=>h_.1))))) (below_size (hs1 HB GE701)));have n2_:=zMk (blk_below (g:=gb701) (o:=.cells #[.int .i64 ((rd_T36 l0 x4_1).f2.f0),.int .i64 ((rd_T36 l0 x4_1).f2.f1),.int .i64 ((rd_T36 l0 x4_1).f2.f2),.int .i64 ((rd_T36 l0 x4_1).f2.f3),.int .i64 ((rd_T36 l0 x4_1).f2.f4),.string ((rd_T36 l0 x4_1).f2.f5)] 33 (0,0)) (by (with_reducible repeat (first | refine blk_drewN ?_ _ | refine blk_drew ?_ | refine blk_alloc ?_ _));refine blk_put (cs:=#[.int .i64 ((rd_T36 l0 x4_1).f2.f0),.int .i64 ((rd_T36 l0 x4_1).f2.f1),.int .i64 ((rd_T36 l0 x4_1).f2.f2),.int .i64 ((rd_T36 l0 x4_1).f2.f3),.int .i64 ((rd_T36 l0 x4_1).f2.f4),.string (⟨#[]⟩ : ByteArray)]) ?_ 5 _ rfl;(with_reducible repeat (first | refine blk_drewN ?_ _ | refine blk_drew ?_ | refine blk_alloc ?_ _));refine blk_put (cs:=#[.int .i64 ((rd_T36 l0 x4_1).f2.f0),.int .i64 ((rd_T36 l0 x4_1).f2.f1),.int .i64 ((rd_T36 l0 x4_1).f2.f2),.int .i64 ((rd_T36 l0 x4_1).f2.f3),.int .i64 0,.string (⟨#[]⟩ : ByteArray)]) ?_ 4 _ rfl;(with_reducible repeat (first | refine blk_drewN ?_ _ | refine blk_drew ?_ | refine blk_alloc ?_ _));refine blk_put (cs:=#[.int .i64 ((rd_T36 l0 x4_1).f2.f0),.int .i64 ((rd_T36 l0 x4_1).f2.f1),.int .i64 ((rd_T36 l0 x4_1).f2.f2),.int .i64 0,.int .i64 0,.string (⟨#[]⟩ : ByteArray)]) ?_ 3 _ rfl;(with_reducible repeat (first | refine blk_drewN ?_ _ | refine blk_drew ?_ | refine blk_alloc ?_ _));refine blk_put (cs:=#[.int .i64 ((rd_T36 l0 x4_1).f2.f0),.int .i64 ((rd_T36 l0 x4_1).f2.f1),.int .i64 0,.int .i64 0,.int .i64 0,.string (⟨#[]⟩ : ByteArray)]) ?_ 2 _ rfl;(with_reducible repeat (first | refine blk_drewN ?_ _ | refine blk_drew ?_ | refine blk_alloc ?_ _));refine blk_put (cs:=#[.int .i64 ((rd_T36 l0 x4_1).f2.f0),.int .i64 0,.int .i64 0,.int .i64 0,.int .i64 0,.string (⟨#[]⟩ : ByteArray)]) ?_ 1 _ rfl;(with_reducible repeat (first | refine blk_drewN ?_ _ | refine blk_drew ?_ | refine blk_alloc ?_ _));refine blk_put (cs:=#[.int .i64 0,.int .i64 0,.int .i64 0,.int .i64 0,.int .i64 0,.string (⟨#[]⟩ : ByteArray)]) ?_ 0 _ rfl;(with_reducible repeat (first | refine blk_drewN ?_ _ | refine blk_drew ?_ | refine blk_alloc ?_ _));exact BK701.out) hb);have n3_:=zMk (below_step (hs1 HB GE701) hb);clear HO_3;clear BK701;clear HB;have HO_3:=n0_;have HO704:=n1_;have BK701:=n2_;have HB:=n3_;clear n0_ n1_ n2_ n3_;clear hb ho10) | ((first | fail_if_success go_not_at_region 11 | fail_if_success go_not_at_region 17);go_quiet (fail)));go_loopg [6,7] k1 (fun kq v6 v7 w'=>∃ (x6_2 : List Int) (x7_2 : Int),v7 = .int .i64 x7_2 ∧ Aside0 (spec_Gather.l1 kq l0 x3_1 x4_1 x6_2 x7_2 ((rd_T36 l0 x4_1).f2.f0) ((rd_T36 l0 x4_1).f2.f1) ((rd_T36 l0 x4_1).f2.f2) ((rd_T36 l0 x4_1).f2.f3) ((rd_T36 l0 x4_1).f2.f4) ((rd_T36 l0 x4_1).f2.f5) = some r) ∧ Aside0 (kq ≤ k1) ∧ Aside0 (Kd.R (Kd.int .i64) 3 w' w.heap.size (fun k_=>some k_ ≠ (v6 : Value).ownBlock) u3 x3_1) ∧ Aside0 (Kd.R (Kd.int .i64) 3 w' w.heap.size (fun k_=>some k_ ≠ (u3 : Value).ownBlock) v6 x6_2) ∧ Aside0 (w'.heap[gb701]? = some (.cells #[.int .i64 ((rd_T36 l0 x4_1).f2.f0),.int .i64 ((rd_T36 l0 x4_1).f2.f1),.int .i64 ((rd_T36 l0 x4_1).f2.f2),.int .i64 ((rd_T36 l0 x4_1).f2.f3),.int .i64 ((rd_T36 l0 x4_1).f2.f4),.string ((rd_T36 l0 x4_1).f2.f5)] 33 (0,0))) ∧ Aside0 (Below w.heap.size w w'));case atStart=>exact ⟨(y702),(0),(by first | rfl | (simp;done) | (simp [*];done)),H',⟨Nat.le_refl _⟩,⟨by (with_reducible repeat (first | apply Kd.R_alloc | apply Kd.R_drewN | apply Kd.R_drew));exact Kd.R_mono HO_3.out (fun _ hk=>hk.2)⟩,⟨by (with_reducible repeat (first | apply Kd.R_alloc | apply Kd.R_drewN | apply Kd.R_drew));exact Kd.R_mono HO704.out (fun _ hk=>hk.2)⟩,⟨bs BK701⟩,⟨hs1 HB GE701⟩⟩
      case round =>
       clear H'
       try clear c1
       try clear p2
       try clear c4
       try clear c4b0
       try clear c5
       try clear c5b0
       try clear c6
       try clear c6b0
       try clear c6b1
       try clear p7
       try clear q7
       try clear hx7
       try clear hcz8_0
       try clear hcz8_1
       try clear hcz8_2
       try clear hcz8_3
       try clear hcz8_4
       try clear hcz8_5
       try clear hfz8_0
       try clear hfz8_1
       try clear hfz8_2
       try clear hfz8_3
       try clear hfz8_4
       try clear hfz8_5
       try clear hx700_0
       try clear hx700_1
       try clear hx700_2
       try clear hx700_3
       try clear hx700_4
       try clear hx700_5
       try clear hx700_6
       try clear hx700_7
       try clear p2
       try clear p700
       try clear q700
       obtain ⟨x6_2,x7_2,rfl,HA,HK2,HO_3,HO_6,BK701,HB⟩:=hrel;cases gk with
       | zero=>exact absurd HA.out (by simp [spec_Gather.l1])
       | succ k2 =>
        have H:=HA.out;clear HA;simp only [spec_Gather.l1] at H
        by_cases c11 : x7_2 < (x3_1.length : Int)
        ·rw [if_pos c11] at H;have c11b0 : decide (x7_2 < (x3_1.length : Int)) = true:=decide_eq_true c11;clear c11
         by_cases c12 : 0 ≤ x7_2
         ·rw [if_pos c12] at H;have c12b0 : decide (0 ≤ x7_2) = true:=decide_eq_true c12;clear c12
          by_cases c13 : (rd x3_1 x7_2) < ((rd_T36 l0 x4_1).f2.f2)
          ·rw [if_pos c13] at H;have c13b0 : decide ((rd x3_1 x7_2) < ((rd_T36 l0 x4_1).f2.f2)) = true:=decide_eq_true c13;clear c13
           by_cases c14 : x6_2.length < 17592186044416
           ·rw [if_pos c14] at H;have LMc14:=zMk c14;clear c14;obtain ⟨y707,hy707⟩ : ∃ y_ : List Int,y_ = (x6_2 ++ [rd x3_1 x7_2]):=⟨_,rfl⟩;replace H : (spec_Gather.l1 k2 l0 x3_1 x4_1 y707 (wrap64 (x7_2 + 1)) ((rd_T36 l0 x4_1).f2.f0) ((rd_T36 l0 x4_1).f2.f1) ((rd_T36 l0 x4_1).f2.f2) ((rd_T36 l0 x4_1).f2.f3) ((rd_T36 l0 x4_1).f2.f4) ((rd_T36 l0 x4_1).f2.f5)) = some r:=by first | (rw [hy707];with_reducible exact H) | (have H2_:=(Option.bind_some _ _).symm.trans H;rw [hy707];with_reducible exact H2_) | (have H2_:=(Option.bind_some _ _).symm.trans H;with_reducible exact H2_) | with_reducible exact H | (rw [hy707];exact H) | exact H
            have Ny707:=zMk hy707;clear hy707;have H':=zMk H;clear H;obtain ⟨Ao15,co15,eo15⟩:=Kd.R_slice HO_3.out;subst eo15;have p705 : 0 ≤ (x7_2 : Int):=zDe (by first | (with_reducible assumption) | assumption);have q705 : x7_2 < (x3_1.length : Int):=zDe (by first | (with_reducible assumption) | assumption);obtain ⟨ad705,e705,hx705_0⟩:=Kd.at_int (Kd.R_reads' HO_3.out).2.2 x7_2 p705 q705;cases e705;replace p705:=eq_true p705;replace q705:=eq_true q705;have hcz16_0 : wr.cell? ⟨gb701,0,none⟩ = some (.int .i64 ((rd_T36 l0 x4_1).f2.f0)):=(zCl BK701.out 0).trans rfl;have hcz16_1 : wr.cell? ⟨gb701,1,none⟩ = some (.int .i64 ((rd_T36 l0 x4_1).f2.f1)):=(zCl BK701.out 1).trans rfl;have hcz16_2 : wr.cell? ⟨gb701,2,none⟩ = some (.int .i64 ((rd_T36 l0 x4_1).f2.f2)):=(zCl BK701.out 2).trans rfl;have hcz16_3 : wr.cell? ⟨gb701,3,none⟩ = some (.int .i64 ((rd_T36 l0 x4_1).f2.f3)):=(zCl BK701.out 3).trans rfl;have hcz16_4 : wr.cell? ⟨gb701,4,none⟩ = some (.int .i64 ((rd_T36 l0 x4_1).f2.f4)):=(zCl BK701.out 4).trans rfl;have hcz16_5 : wr.cell? ⟨gb701,5,none⟩ = some (.string ((rd_T36 l0 x4_1).f2.f5)):=(zCl BK701.out 5).trans rfl;have hfz16_0:=zFr BK701.out 0;have hfz16_1:=zFr BK701.out 1;have hfz16_2:=zFr BK701.out 2;have hfz16_3:=zFr BK701.out 3;have hfz16_4:=zFr BK701.out 4;have hfz16_5:=zFr BK701.out 5;have p706 : 0 ≤ (x7_2 : Int):=zDe (by first | (with_reducible assumption) | assumption);have q706 : x7_2 < (x3_1.length : Int):=zDe (by first | (with_reducible assumption) | assumption);obtain ⟨ad706,e706,hx706_0⟩:=Kd.at_int (Kd.R_reads' HO_3.out).2.2 x7_2 p706 q706;obtain rfl : ad705 = ad706:=(by injection e706);replace p706:=eq_true p706;replace q706:=eq_true q706;go_wp2_with (first | ((with_reducible refine gate_builtin (b:=.append) (xs:=#[.tmp 42,.tmp 47]) rfl ?_);at_builtin;refine Kd.R_append (Kd.int .i64) (w0:=w) w.heap.size rfl (.tmp 42) (.tmp 47) 26 3 (.int .i64 0) 8 rfl Try.underlying26 info3 rfl (by decide) (by omega) u6 x6_2 (rd x3_1 x7_2) [.int .i64 (rd x3_1 x7_2)] (fun k_=>some k_ ≠ (.slice (some ad705) x3_1.length co15 : Value).ownBlock) (fun _=>False) rfl rfl ?aP (fun _ hk=>hk.elim) ?aF ?aO ?aB ?aS ?aL ?_;(case aP=>exact rfl);(case aB=>exact (hs1 HB GE701));(case aF=>exact (fun k_ hk=>Kd.fresh' (Kd.R_lt (rs HO_3)) k_ hk));(case aO=>exact (rs HO_6));(case aS=>exact (below_size (hs1 HB GE701)));(case aL=>have:=LMc14.out;omega);intro v708 w17 ho hb hg hat;rw [← Ny707.out] at ho;have n0_:=zMk (Kd.R_after (ok:=(fun _=>True)) (by (with_reducible repeat (first | apply Kd.R_alloc | apply Kd.R_drewN | apply Kd.R_drew));exact Kd.R_mono HO_3.out (fun _ hk=>⟨trivial,hk⟩)) hg hat);have n1_:=zMk (blk_grown (g:=gb701) (o:=.cells #[.int .i64 ((rd_T36 l0 x4_1).f2.f0),.int .i64 ((rd_T36 l0 x4_1).f2.f1),.int .i64 ((rd_T36 l0 x4_1).f2.f2),.int .i64 ((rd_T36 l0 x4_1).f2.f3),.int .i64 ((rd_T36 l0 x4_1).f2.f4),.string ((rd_T36 l0 x4_1).f2.f5)] 33 (0,0)) (bs BK701) hg (Kd.R_ne HO_6.out BK701.out (by decide)));have n2_:=zMk (hb);have n3_:=zMk (ho);clear HO_3;clear BK701;clear HB;clear HO_6;have HO_3:=n0_;have BK701:=n1_;have HB:=n2_;have HO709:=n3_;clear n0_ n1_ n2_ n3_;clear ho hb hg hat) | ((first | fail_if_success go_not_at_region 11 | fail_if_success go_not_at_region 17);go_quiet (fail)));go_roundg k2;case measure=>have:=HK1.out;have:=HK2.out;omega
            case rel=>exact ⟨(y707),(wrap64 (x7_2 + 1)),(by first | rfl | (simp;done) | (simp [*];done)),H',⟨by have:=HK1.out;have:=HK2.out;omega⟩,⟨by (with_reducible repeat (first | apply Kd.R_alloc | apply Kd.R_drewN | apply Kd.R_drew));exact Kd.R_mono HO_3.out (fun _ hk=>hk.2)⟩,⟨rs HO709⟩,⟨bs BK701⟩,⟨hs1 HB GE701⟩⟩
           rw [if_neg c14] at H;exact absurd H (by simp)
          rw [if_neg c13] at H;have c13b0 : decide ((rd x3_1 x7_2) < ((rd_T36 l0 x4_1).f2.f2)) = false:=decide_eq_false c13;clear c13;have H':=zMk H;clear H;obtain ⟨Ao18,co18,eo18⟩:=Kd.R_slice HO_3.out;subst eo18;have p705 : 0 ≤ (x7_2 : Int):=zDe (by first | (with_reducible assumption) | assumption);have q705 : x7_2 < (x3_1.length : Int):=zDe (by first | (with_reducible assumption) | assumption);obtain ⟨ad705,e705,hx705_0⟩:=Kd.at_int (Kd.R_reads' HO_3.out).2.2 x7_2 p705 q705;cases e705;replace p705:=eq_true p705;replace q705:=eq_true q705;have hcz19_0 : wr.cell? ⟨gb701,0,none⟩ = some (.int .i64 ((rd_T36 l0 x4_1).f2.f0)):=(zCl BK701.out 0).trans rfl;have hcz19_1 : wr.cell? ⟨gb701,1,none⟩ = some (.int .i64 ((rd_T36 l0 x4_1).f2.f1)):=(zCl BK701.out 1).trans rfl;have hcz19_2 : wr.cell? ⟨gb701,2,none⟩ = some (.int .i64 ((rd_T36 l0 x4_1).f2.f2)):=(zCl BK701.out 2).trans rfl;have hcz19_3 : wr.cell? ⟨gb701,3,none⟩ = some (.int .i64 ((rd_T36 l0 x4_1).f2.f3)):=(zCl BK701.out 3).trans rfl;have hcz19_4 : wr.cell? ⟨gb701,4,none⟩ = some (.int .i64 ((rd_T36 l0 x4_1).f2.f4)):=(zCl BK701.out 4).trans rfl;have hcz19_5 : wr.cell? ⟨gb701,5,none⟩ = some (.string ((rd_T36 l0 x4_1).f2.f5)):=(zCl BK701.out 5).trans rfl;have hfz19_0:=zFr BK701.out 0;have hfz19_1:=zFr BK701.out 1;have hfz19_2:=zFr BK701.out 2;have hfz19_3:=zFr BK701.out 3;have hfz19_4:=zFr BK701.out 4;have hfz19_5:=zFr BK701.out 5;go_wp2_with ((first | fail_if_success go_not_at_region 11 | fail_if_success go_not_at_region 17);go_quiet (fail));go_roundg k2;case measure=>have:=HK1.out;have:=HK2.out;omega
          case rel=>exact ⟨(x6_2),(wrap64 (x7_2 + 1)),(by first | rfl | (simp;done) | (simp [*];done)),H',⟨by have:=HK1.out;have:=HK2.out;omega⟩,⟨rs HO_3⟩,⟨rs HO_6⟩,⟨bs BK701⟩,⟨hs1 HB GE701⟩⟩
         rw [if_neg c12] at H;exact absurd H (by simp)
        rw [if_neg c11] at H;have c11b0 : decide (x7_2 < (x3_1.length : Int)) = false:=decide_eq_false c11;clear c11
        by_cases c20 : x6_2.length < 17592186044416
        ·rw [if_pos c20] at H;have LMc20:=zMk c20;clear c20;obtain ⟨y710,hy710⟩ : ∃ y_ : List Int,y_ = (x6_2 ++ [((rd_T36 l0 x4_1).f2.f2)]):=⟨_,rfl⟩;replace H : (spec_Gather.l2 k2 l0 x3_1 x4_1 y710 0 ((rd_T36 l0 x4_1).f2.f0) ((rd_T36 l0 x4_1).f2.f1) ((rd_T36 l0 x4_1).f2.f2) ((rd_T36 l0 x4_1).f2.f3) ((rd_T36 l0 x4_1).f2.f4) ((rd_T36 l0 x4_1).f2.f5)) = some r:=by first | (rw [hy710];with_reducible exact H) | (have H2_:=(Option.bind_some _ _).symm.trans H;rw [hy710];with_reducible exact H2_) | (have H2_:=(Option.bind_some _ _).symm.trans H;with_reducible exact H2_) | with_reducible exact H | (rw [hy710];exact H) | exact H
         have Ny710:=zMk hy710;clear hy710;have H':=zMk H;clear H;obtain ⟨Ao21,co21,eo21⟩:=Kd.R_slice HO_3.out;subst eo21;have hcz22_0 : wr.cell? ⟨gb701,0,none⟩ = some (.int .i64 ((rd_T36 l0 x4_1).f2.f0)):=(zCl BK701.out 0).trans rfl;have hcz22_1 : wr.cell? ⟨gb701,1,none⟩ = some (.int .i64 ((rd_T36 l0 x4_1).f2.f1)):=(zCl BK701.out 1).trans rfl;have hcz22_2 : wr.cell? ⟨gb701,2,none⟩ = some (.int .i64 ((rd_T36 l0 x4_1).f2.f2)):=(zCl BK701.out 2).trans rfl;have hcz22_3 : wr.cell? ⟨gb701,3,none⟩ = some (.int .i64 ((rd_T36 l0 x4_1).f2.f3)):=(zCl BK701.out 3).trans rfl;have hcz22_4 : wr.cell? ⟨gb701,4,none⟩ = some (.int .i64 ((rd_T36 l0 x4_1).f2.f4)):=(zCl BK701.out 4).trans rfl;have hcz22_5 : wr.cell? ⟨gb701,5,none⟩ = some (.string ((rd_T36 l0 x4_1).f2.f5)):=(zCl BK701.out 5).trans rfl;have hfz22_0:=zFr BK701.out 0;have hfz22_1:=zFr BK701.out 1;have hfz22_2:=zFr BK701.out 2;have hfz22_3:=zFr BK701.out 3;have hfz22_4:=zFr BK701.out 4;have hfz22_5:=zFr BK701.out 5;go_wp2_with (first | ((with_reducible refine gate_builtin (b:=.append) (xs:=#[.tmp 49,.tmp 52]) rfl ?_);at_builtin;refine Kd.R_append (Kd.int .i64) (w0:=w) w.heap.size rfl (.tmp 49) (.tmp 52) 26 3 (.int .i64 0) 8 rfl Try.underlying26 info3 rfl (by decide) (by omega) u6 x6_2 ((rd_T36 l0 x4_1).f2.f2) [.int .i64 ((rd_T36 l0 x4_1).f2.f2)] (fun k_=>some k_ ≠ (.slice Ao21 x3_1.length co21 : Value).ownBlock) (fun _=>False) rfl rfl ?aP (fun _ hk=>hk.elim) ?aF ?aO ?aB ?aS ?aL ?_;(case aP=>exact rfl);(case aB=>exact (hs1 HB GE701));(case aF=>exact (fun k_ hk=>Kd.fresh' (Kd.R_lt (rs HO_3)) k_ hk));(case aO=>exact (rs HO_6));(case aS=>exact (below_size (hs1 HB GE701)));(case aL=>have:=LMc20.out;omega);intro v711 w23 ho hb hg hat;rw [← Ny710.out] at ho;have n0_:=zMk (Kd.R_after (ok:=(fun _=>True)) (by (with_reducible repeat (first | apply Kd.R_alloc | apply Kd.R_drewN | apply Kd.R_drew));exact Kd.R_mono HO_3.out (fun _ hk=>⟨trivial,hk⟩)) hg hat);have n1_:=zMk (blk_grown (g:=gb701) (o:=.cells #[.int .i64 ((rd_T36 l0 x4_1).f2.f0),.int .i64 ((rd_T36 l0 x4_1).f2.f1),.int .i64 ((rd_T36 l0 x4_1).f2.f2),.int .i64 ((rd_T36 l0 x4_1).f2.f3),.int .i64 ((rd_T36 l0 x4_1).f2.f4),.string ((rd_T36 l0 x4_1).f2.f5)] 33 (0,0)) (bs BK701) hg (Kd.R_ne HO_6.out BK701.out (by decide)));have n2_:=zMk (hb);have n3_:=zMk (ho);clear HO_3;clear BK701;clear HB;clear HO_6;have HO_3:=n0_;have BK701:=n1_;have HB:=n2_;have HO712:=n3_;clear n0_ n1_ n2_ n3_;clear ho hb hg hat) | ((first | fail_if_success go_not_at_region 11 | fail_if_success go_not_at_region 17);go_quiet (fail)));go_loopg [6,8] k2 (fun kq v6 v8 w'=>∃ (x6_3 : List Int) (x8_3 : Int),v8 = .int .i64 x8_3 ∧ Aside0 (spec_Gather.l2 kq l0 x3_1 x4_1 x6_3 x8_3 ((rd_T36 l0 x4_1).f2.f0) ((rd_T36 l0 x4_1).f2.f1) ((rd_T36 l0 x4_1).f2.f2) ((rd_T36 l0 x4_1).f2.f3) ((rd_T36 l0 x4_1).f2.f4) ((rd_T36 l0 x4_1).f2.f5) = some r) ∧ Aside0 (kq ≤ k2) ∧ Aside0 (Kd.R (Kd.int .i64) 3 w' w.heap.size (fun k_=>some k_ ≠ (v6 : Value).ownBlock) (.slice Ao21 x3_1.length co21) x3_1) ∧ Aside0 (Kd.R (Kd.int .i64) 3 w' w.heap.size (fun k_=>some k_ ≠ ((.slice Ao21 x3_1.length co21) : Value).ownBlock) v6 x6_3) ∧ Aside0 (w'.heap[gb701]? = some (.cells #[.int .i64 ((rd_T36 l0 x4_1).f2.f0),.int .i64 ((rd_T36 l0 x4_1).f2.f1),.int .i64 ((rd_T36 l0 x4_1).f2.f2),.int .i64 ((rd_T36 l0 x4_1).f2.f3),.int .i64 ((rd_T36 l0 x4_1).f2.f4),.string ((rd_T36 l0 x4_1).f2.f5)] 33 (0,0))) ∧ Aside0 (Below w.heap.size w w'));case atStart=>exact ⟨(y710),(0),(by first | rfl | (simp;done) | (simp [*];done)),H',⟨Nat.le_refl _⟩,⟨by (with_reducible repeat (first | apply Kd.R_alloc | apply Kd.R_drewN | apply Kd.R_drew));exact Kd.R_mono HO_3.out (fun _ hk=>hk.2)⟩,⟨rs HO712⟩,⟨bs BK701⟩,⟨hs1 HB GE701⟩⟩
         case round =>
          clear H'
          try clear c1
          try clear c2
          try clear p2
          try clear c4
          try clear c4b0
          try clear c5
          try clear c5b0
          try clear c6
          try clear c6b0
          try clear c6b1
          try clear p6
          try clear p7
          try clear q7
          try clear hx7
          try clear c11
          try clear c11b0
          try clear c12
          try clear c12b0
          try clear c13
          try clear c13b0
          try clear c14
          try clear c18
          try clear c20
          try clear hcz16_0
          try clear hcz16_1
          try clear hcz16_2
          try clear hcz16_3
          try clear hcz16_4
          try clear hcz16_5
          try clear hcz19_0
          try clear hcz19_1
          try clear hcz19_2
          try clear hcz19_3
          try clear hcz19_4
          try clear hcz19_5
          try clear hcz22_0
          try clear hcz22_1
          try clear hcz22_2
          try clear hcz22_3
          try clear hcz22_4
          try clear hcz22_5
          try clear hcz8_0
          try clear hcz8_1
          try clear hcz8_2
          try clear hcz8_3
          try clear hcz8_4
          try clear hcz8_5
          try clear hfz16_0
          try clear hfz16_1
          try clear hfz16_2
          try clear hfz16_3
          try clear hfz16_4
          try clear hfz16_5
          try clear hfz19_0
          try clear hfz19_1
          try clear hfz19_2
          try clear hfz19_3
          try clear hfz19_4
          try clear hfz19_5
          try clear hfz22_0
          try clear hfz22_1
          try clear hfz22_2
          try clear hfz22_3
          try clear hfz22_4
          try clear hfz22_5
          try clear hfz8_0
          try clear hfz8_1
          try clear hfz8_2
          try clear hfz8_3
          try clear hfz8_4
          try clear hfz8_5
          try clear hx700_0
          try clear hx700_1
          try clear hx700_2
          try clear hx700_3
          try clear hx700_4
          try clear hx700_5
          try clear hx700_6
          try clear hx700_7
          try clear hx705_0
          try clear hx706_0
          try clear p2
          try clear p7
          try clear p700
          try clear p705
          try clear p706
          try clear q7
          try clear q700
          try clear q705
          try clear q706
          obtain ⟨x6_3,x8_3,rfl,HA,HK3,HO_3,HO_6,BK701,HB⟩:=hrel;cases gk with
          | zero=>exact absurd HA.out (by simp [spec_Gather.l2])
          | succ k3 =>
           have H:=HA.out;clear HA;simp only [spec_Gather.l2] at H
           by_cases c24 : x8_3 < (x3_1.length : Int)
           ·rw [if_pos c24] at H;have c24b0 : decide (x8_3 < (x3_1.length : Int)) = true:=decide_eq_true c24;clear c24
            by_cases c25 : 0 ≤ x8_3
            ·rw [if_pos c25] at H;have c25b0 : decide (0 ≤ x8_3) = true:=decide_eq_true c25;clear c25
             by_cases c26 : (rd x3_1 x8_3) > ((rd_T36 l0 x4_1).f2.f2)
             ·rw [if_pos c26] at H;have c26b0 : decide (((rd_T36 l0 x4_1).f2.f2) < (rd x3_1 x8_3)) = true:=decide_eq_true c26;clear c26
              by_cases c27 : x6_3.length < 17592186044416
              ·rw [if_pos c27] at H;have LMc27:=zMk c27;clear c27;obtain ⟨y715,hy715⟩ : ∃ y_ : List Int,y_ = (x6_3 ++ [rd x3_1 x8_3]):=⟨_,rfl⟩;replace H : (spec_Gather.l2 k3 l0 x3_1 x4_1 y715 (wrap64 (x8_3 + 1)) ((rd_T36 l0 x4_1).f2.f0) ((rd_T36 l0 x4_1).f2.f1) ((rd_T36 l0 x4_1).f2.f2) ((rd_T36 l0 x4_1).f2.f3) ((rd_T36 l0 x4_1).f2.f4) ((rd_T36 l0 x4_1).f2.f5)) = some r:=by first | (rw [hy715];with_reducible exact H) | (have H2_:=(Option.bind_some _ _).symm.trans H;rw [hy715];with_reducible exact H2_) | (have H2_:=(Option.bind_some _ _).symm.trans H;with_reducible exact H2_) | with_reducible exact H | (rw [hy715];exact H) | exact H
               have Ny715:=zMk hy715;clear hy715;have H':=zMk H;clear H;have p713 : 0 ≤ (x8_3 : Int):=zDe (by first | (with_reducible assumption) | assumption);have q713 : x8_3 < (x3_1.length : Int):=zDe (by first | (with_reducible assumption) | assumption);obtain ⟨ad713,e713,hx713_0⟩:=Kd.at_int (Kd.R_reads' HO_3.out).2.2 x8_3 p713 q713;cases e713;replace p713:=eq_true p713;replace q713:=eq_true q713;have hcz28_0 : wr.cell? ⟨gb701,0,none⟩ = some (.int .i64 ((rd_T36 l0 x4_1).f2.f0)):=(zCl BK701.out 0).trans rfl;have hcz28_1 : wr.cell? ⟨gb701,1,none⟩ = some (.int .i64 ((rd_T36 l0 x4_1).f2.f1)):=(zCl BK701.out 1).trans rfl;have hcz28_2 : wr.cell? ⟨gb701,2,none⟩ = some (.int .i64 ((rd_T36 l0 x4_1).f2.f2)):=(zCl BK701.out 2).trans rfl;have hcz28_3 : wr.cell? ⟨gb701,3,none⟩ = some (.int .i64 ((rd_T36 l0 x4_1).f2.f3)):=(zCl BK701.out 3).trans rfl;have hcz28_4 : wr.cell? ⟨gb701,4,none⟩ = some (.int .i64 ((rd_T36 l0 x4_1).f2.f4)):=(zCl BK701.out 4).trans rfl;have hcz28_5 : wr.cell? ⟨gb701,5,none⟩ = some (.string ((rd_T36 l0 x4_1).f2.f5)):=(zCl BK701.out 5).trans rfl;have hfz28_0:=zFr BK701.out 0;have hfz28_1:=zFr BK701.out 1;have hfz28_2:=zFr BK701.out 2;have hfz28_3:=zFr BK701.out 3;have hfz28_4:=zFr BK701.out 4;have hfz28_5:=zFr BK701.out 5;have p714 : 0 ≤ (x8_3 : Int):=zDe (by first | (with_reducible assumption) | assumption);have q714 : x8_3 < (x3_1.length : Int):=zDe (by first | (with_reducible assumption) | assumption);obtain ⟨ad714,e714,hx714_0⟩:=Kd.at_int (Kd.R_reads' HO_3.out).2.2 x8_3 p714 q714;obtain rfl : ad713 = ad714:=(by injection e714);replace p714:=eq_true p714;replace q714:=eq_true q714;go_wp2_with (first | ((with_reducible refine gate_builtin (b:=.append) (xs:=#[.tmp 67,.tmp 72]) rfl ?_);at_builtin;refine Kd.R_append (Kd.int .i64) (w0:=w) w.heap.size rfl (.tmp 67) (.tmp 72) 26 3 (.int .i64 0) 8 rfl Try.underlying26 info3 rfl (by decide) (by omega) u6 x6_3 (rd x3_1 x8_3) [.int .i64 (rd x3_1 x8_3)] (fun k_=>some k_ ≠ (.slice (some ad713) x3_1.length co21 : Value).ownBlock) (fun _=>False) rfl rfl ?aP (fun _ hk=>hk.elim) ?aF ?aO ?aB ?aS ?aL ?_;(case aP=>exact rfl);(case aB=>exact (hs1 HB GE701));(case aF=>exact (fun k_ hk=>Kd.fresh' (Kd.R_lt (rs HO_3)) k_ hk));(case aO=>exact (rs HO_6));(case aS=>exact (below_size (hs1 HB GE701)));(case aL=>have:=LMc27.out;omega);intro v716 w29 ho hb hg hat;rw [← Ny715.out] at ho;have n0_:=zMk (Kd.R_after (ok:=(fun _=>True)) (by (with_reducible repeat (first | apply Kd.R_alloc | apply Kd.R_drewN | apply Kd.R_drew));exact Kd.R_mono HO_3.out (fun _ hk=>⟨trivial,hk⟩)) hg hat);have n1_:=zMk (blk_grown (g:=gb701) (o:=.cells #[.int .i64 ((rd_T36 l0 x4_1).f2.f0),.int .i64 ((rd_T36 l0 x4_1).f2.f1),.int .i64 ((rd_T36 l0 x4_1).f2.f2),.int .i64 ((rd_T36 l0 x4_1).f2.f3),.int .i64 ((rd_T36 l0 x4_1).f2.f4),.string ((rd_T36 l0 x4_1).f2.f5)] 33 (0,0)) (bs BK701) hg (Kd.R_ne HO_6.out BK701.out (by decide)));have n2_:=zMk (hb);have n3_:=zMk (ho);clear HO_3;clear BK701;clear HB;clear HO_6;have HO_3:=n0_;have BK701:=n1_;have HB:=n2_;have HO717:=n3_;clear n0_ n1_ n2_ n3_;clear ho hb hg hat) | ((first | fail_if_success go_not_at_region 11 | fail_if_success go_not_at_region 17);go_quiet (fail)));go_roundg k3;case measure=>have:=HK1.out;have:=HK2.out;have:=HK3.out;omega
               case rel=>exact ⟨(y715),(wrap64 (x8_3 + 1)),(by first | rfl | (simp;done) | (simp [*];done)),H',⟨by have:=HK1.out;have:=HK2.out;have:=HK3.out;omega⟩,⟨by (with_reducible repeat (first | apply Kd.R_alloc | apply Kd.R_drewN | apply Kd.R_drew));exact Kd.R_mono HO_3.out (fun _ hk=>hk.2)⟩,⟨rs HO717⟩,⟨bs BK701⟩,⟨hs1 HB GE701⟩⟩
              rw [if_neg c27] at H;exact absurd H (by simp)
             rw [if_neg c26] at H;have c26b0 : decide (((rd_T36 l0 x4_1).f2.f2) < (rd x3_1 x8_3)) = false:=decide_eq_false c26;clear c26;have H':=zMk H;clear H;have p713 : 0 ≤ (x8_3 : Int):=zDe (by first | (with_reducible assumption) | assumption);have q713 : x8_3 < (x3_1.length : Int):=zDe (by first | (with_reducible assumption) | assumption);obtain ⟨ad713,e713,hx713_0⟩:=Kd.at_int (Kd.R_reads' HO_3.out).2.2 x8_3 p713 q713;cases e713;replace p713:=eq_true p713;replace q713:=eq_true q713;have hcz30_0 : wr.cell? ⟨gb701,0,none⟩ = some (.int .i64 ((rd_T36 l0 x4_1).f2.f0)):=(zCl BK701.out 0).trans rfl;have hcz30_1 : wr.cell? ⟨gb701,1,none⟩ = some (.int .i64 ((rd_T36 l0 x4_1).f2.f1)):=(zCl BK701.out 1).trans rfl;have hcz30_2 : wr.cell? ⟨gb701,2,none⟩ = some (.int .i64 ((rd_T36 l0 x4_1).f2.f2)):=(zCl BK701.out 2).trans rfl;have hcz30_3 : wr.cell? ⟨gb701,3,none⟩ = some (.int .i64 ((rd_T36 l0 x4_1).f2.f3)):=(zCl BK701.out 3).trans rfl;have hcz30_4 : wr.cell? ⟨gb701,4,none⟩ = some (.int .i64 ((rd_T36 l0 x4_1).f2.f4)):=(zCl BK701.out 4).trans rfl;have hcz30_5 : wr.cell? ⟨gb701,5,none⟩ = some (.string ((rd_T36 l0 x4_1).f2.f5)):=(zCl BK701.out 5).trans rfl;have hfz30_0:=zFr BK701.out 0;have hfz30_1:=zFr BK701.out 1;have hfz30_2:=zFr BK701.out 2;have hfz30_3:=zFr BK701.out 3;have hfz30_4:=zFr BK701.out 4;have hfz30_5:=zFr BK701.out 5;go_wp2_with ((first | fail_if_success go_not_at_region 11 | fail_if_success go_not_at_region 17);go_quiet (fail));go_roundg k3;case measure=>have:=HK1.out;have:=HK2.out;have:=HK3.out;omega
             case rel=>exact ⟨(x6_3),(wrap64 (x8_3 + 1)),(by first | rfl | (simp;done) | (simp [*];done)),H',⟨by have:=HK1.out;have:=HK2.out;have:=HK3.out;omega⟩,⟨rs HO_3⟩,⟨rs HO_6⟩,⟨bs BK701⟩,⟨hs1 HB GE701⟩⟩
            rw [if_neg c25] at H;exact absurd H (by simp)
           rw [if_neg c24] at H;have c24b0 : decide (x8_3 < (x3_1.length : Int)) = false:=decide_eq_false c24;clear c24;have H':=zMk H;clear H;go_wp2_with ((first | fail_if_success go_not_at_region 11 | fail_if_success go_not_at_region 17);go_quiet (fail));go_roundg k3;case measure=>have:=HK1.out;have:=HK2.out;have:=HK3.out;omega
           case rel=>exact ⟨(x6_3),(wrap64 (x4_1 + 1)),(by first | rfl | (simp;done) | (simp [*];done)),H',⟨by have:=HK1.out;have:=HK2.out;have:=HK3.out;omega⟩,⟨by (with_reducible repeat (first | apply Kd.R_alloc | apply Kd.R_drewN | apply Kd.R_drew));exact Kd.R_mono HO_6.out (fun _ hk=>trivial)⟩,⟨hs1 HB GE701⟩⟩
        rw [if_neg c20] at H;exact absurd H (by simp)
     rw [if_neg c6] at H;have c6b0 : (((rd_T36 l0 x4_1).f2.f0) == 2) = false:=beq_eq_false_iff_ne.mpr c6;have c6b1 : (((rd_T36 l0 x4_1).f2.f0) != 2) = true:=bne_iff_ne.mpr c6
     (first | rw [c6b0] | rw [c6b1] | (simp only [i64_w,i32_w];rw [c6b0]) | skip)
     have H':=zMk H;clear H;go_wp2_with ((first | fail_if_success go_not_at_region 11 | fail_if_success go_not_at_region 17);go_quiet (fail));go_roundg k1;case measure=>have:=HK1.out;omega
     case rel=>exact ⟨(x3_1),(wrap64 (x4_1 + 1)),(by first | rfl | (simp;done) | (simp [*];done)),H',⟨by have:=HK1.out;omega⟩,⟨by (with_reducible repeat (first | apply Kd.R_alloc | apply Kd.R_drewN | apply Kd.R_drew));exact Kd.R_mono (Kd.R_far (p:=⟨gb701,5,none⟩) (Kd.R_far (p:=⟨gb701,4,none⟩) (Kd.R_far (p:=⟨gb701,3,none⟩) (Kd.R_far (p:=⟨gb701,2,none⟩) (Kd.R_far (p:=⟨gb701,1,none⟩) (Kd.R_far (p:=⟨gb701,0,none⟩) (Kd.R_types HO_3.out BK701.out (by decide)) (fun _ hk=>hk.2) (.int .i64 ((rd_T36 l0 x4_1).f2.f0))) (fun _ hk=>hk.2) (.int .i64 ((rd_T36 l0 x4_1).f2.f1))) (fun _ hk=>hk.2) (.int .i64 ((rd_T36 l0 x4_1).f2.f2))) (fun _ hk=>hk.2) (.int .i64 ((rd_T36 l0 x4_1).f2.f3))) (fun _ hk=>hk.2) (.int .i64 ((rd_T36 l0 x4_1).f2.f4))) (fun _ hk=>hk.2) (.string ((rd_T36 l0 x4_1).f2.f5))) (fun _ hk=>trivial)⟩,⟨hs1 HB GE701⟩⟩
    rw [if_neg c5] at H;exact absurd H (by simp)
   rw [if_neg c4] at H;have c4b0 : decide (x4_1 < (l0.length : Int)) = false:=decide_eq_false c4;clear c4;obtain ⟨y718,hy718⟩ : ∃ y_ : List (S40),y_ = (([] : List (S40))):=⟨_,rfl⟩;replace H : (spec_Gather.l3 k1 l0 x3_1 y718 0) = some r:=by first | (rw [hy718];with_reducible exact H) | (have H2_:=(Option.bind_some _ _).symm.trans H;rw [hy718];with_reducible exact H2_) | (have H2_:=(Option.bind_some _ _).symm.trans H;with_reducible exact H2_) | with_reducible exact H | (rw [hy718];exact H) | exact H
   have Ny718:=zMk hy718;clear hy718;have H':=zMk H;clear H;go_wp2_with (first | ((with_reducible refine gate_dst (N:=75) rfl ?_);refine Kd.S_lit k40 _ 40 ?hg (N:=75) ?hd (xs:=([] : List (S40))) (inner:=[]) (ok:=fun _=>True) (okp:=fun _=>True) ?hr ?hp (fun _ hk=>hk) trivial (Below.refl _ _) (Nat.le_refl _) (by simp) ?_;(case hd=>rfl);(case hg=>rfl);(case hr=>first | (go_simp;done) | (go_simp;rfl));(case hp=>exact (Reps.none _ _));intro v719 w33 ho34 hb hg_ hnew_;clear hg_ hnew_;(first | rw [← Ny718.out] at ho34 | (simp only [Int.reduceToNat] at ho34;rw [← Ny718.out] at ho34));have n0_:=zMk (Kd.R_below (rs HO_3) hb);have n1_:=zMk (Kd.S_lower ho34 (below_size (hs HB)));have n2_:=zMk (below_step (hs HB) hb);clear HO_3;clear HB;have HO_3:=n0_;have HO720:=n1_;have HB:=n2_;clear n0_ n1_ n2_;clear hb ho34) | ((first | fail_if_success go_not_at_region 11 | fail_if_success go_not_at_region 17);go_quiet (fail)));go_loopg [9,10] k1 (fun kq v9 v10 w'=>∃ (x9_2 : List (S40)) (x10_2 : Int),v10 = .int .i64 x10_2 ∧ Aside0 (spec_Gather.l3 kq l0 x3_1 x9_2 x10_2 = some r) ∧ Aside0 (kq ≤ k1) ∧ Aside0 (Kd.R (Kd.int .i64) 3 w' w.heap.size (fun _=>True) u3 x3_1) ∧ Aside0 (Kd.S k40 40 w' w.heap.size (fun _=>True) v9 x9_2) ∧ Aside0 (Below w.heap.size w w'));case atStart=>exact ⟨(y718),(0),(by first | rfl | (simp;done) | (simp [*];done)),H',⟨Nat.le_refl _⟩,⟨rs HO_3⟩,⟨ss HO720⟩,⟨hs HB⟩⟩
   case round =>
    clear H'
    try clear c1
    try clear c2
    try clear p2
    try clear c4
    try clear c4b0
    try clear c5
    try clear c5b0
    try clear c6
    try clear c6b0
    try clear c6b1
    try clear p6
    try clear p7
    try clear q7
    try clear hx7
    try clear c11
    try clear c11b0
    try clear c12
    try clear c12b0
    try clear c13
    try clear c13b0
    try clear c14
    try clear c18
    try clear c20
    try clear c24
    try clear c24b0
    try clear c25
    try clear c25b0
    try clear c26
    try clear c26b0
    try clear c27
    try clear hcz16_0
    try clear hcz16_1
    try clear hcz16_2
    try clear hcz16_3
    try clear hcz16_4
    try clear hcz16_5
    try clear hcz19_0
    try clear hcz19_1
    try clear hcz19_2
    try clear hcz19_3
    try clear hcz19_4
    try clear hcz19_5
    try clear hcz22_0
    try clear hcz22_1
    try clear hcz22_2
    try clear hcz22_3
    try clear hcz22_4
    try clear hcz22_5
    try clear hcz28_0
    try clear hcz28_1
    try clear hcz28_2
    try clear hcz28_3
    try clear hcz28_4
    try clear hcz28_5
    try clear hcz30_0
    try clear hcz30_1
    try clear hcz30_2
    try clear hcz30_3
    try clear hcz30_4
    try clear hcz30_5
    try clear hcz32_0
    try clear hcz32_1
    try clear hcz32_2
    try clear hcz32_3
    try clear hcz32_4
    try clear hcz32_5
    try clear hcz8_0
    try clear hcz8_1
    try clear hcz8_2
    try clear hcz8_3
    try clear hcz8_4
    try clear hcz8_5
    try clear hfz16_0
    try clear hfz16_1
    try clear hfz16_2
    try clear hfz16_3
    try clear hfz16_4
    try clear hfz16_5
    try clear hfz19_0
    try clear hfz19_1
    try clear hfz19_2
    try clear hfz19_3
    try clear hfz19_4
    try clear hfz19_5
    try clear hfz22_0
    try clear hfz22_1
    try clear hfz22_2
    try clear hfz22_3
    try clear hfz22_4
    try clear hfz22_5
    try clear hfz28_0
    try clear hfz28_1
    try clear hfz28_2
    try clear hfz28_3
    try clear hfz28_4
    try clear hfz28_5
    try clear hfz30_0
    try clear hfz30_1
    try clear hfz30_2
    try clear hfz30_3
    try clear hfz30_4
    try clear hfz30_5
    try clear hfz32_0
    try clear hfz32_1
    try clear hfz32_2
    try clear hfz32_3
    try clear hfz32_4
    try clear hfz32_5
    try clear hfz8_0
    try clear hfz8_1
    try clear hfz8_2
    try clear hfz8_3
    try clear hfz8_4
    try clear hfz8_5
    try clear hx700_0
    try clear hx700_1
    try clear hx700_2
    try clear hx700_3
    try clear hx700_4
    try clear hx700_5
    try clear hx700_6
    try clear hx700_7
    try clear hx705_0
    try clear hx706_0
    try clear hx713_0
    try clear hx714_0
    try clear p2
    try clear p6
    try clear p7
    try clear p700
    try clear p705
    try clear p706
    try clear p713
    try clear p714
    try clear q7
    try clear q700
    try clear q705
    try clear q706
    try clear q713
    try clear q714
    obtain ⟨x9_2,x10_2,rfl,HA,HK2,HO_3,HO_9,HB⟩:=hrel;cases gk with
    | zero=>exact absurd HA.out (by simp [spec_Gather.l3])
    | succ k2 =>
     have H:=HA.out;clear HA;simp only [spec_Gather.l3] at H
     by_cases c35 : x10_2 < (x3_1.length : Int)
     ·rw [if_pos c35] at H;have c35b0 : decide (x10_2 < (x3_1.length : Int)) = true:=decide_eq_true c35;clear c35
      by_cases c36 : 0 ≤ x10_2
      ·rw [if_pos c36] at H;have c36b0 : decide (0 ≤ x10_2) = true:=decide_eq_true c36;clear c36;replace H:=Option.bind_eq_some_iff.mp H;obtain ⟨⟨t722,t723,t724,t727⟩,A370,H⟩:=H;replace H : (if t727 = true then (if x9_2.length < 3518437208883 then (spec_Gather.l3 k2 l0 x3_1 (x9_2 ++ [(⟨t722,t723,t724⟩ : S40)]) (wrap64 (x10_2 + 1))) else (none)) else (spec_Gather.l3 k2 l0 x3_1 x9_2 (wrap64 (x10_2 + 1)))) = some r:=H;have A37:=zMk A370;clear A370
       by_cases c38 : t727 = true
       ·subst c38;have H1 : (if x9_2.length < 3518437208883 then (spec_Gather.l3 k2 l0 x3_1 (x9_2 ++ [(⟨t722,t723,t724⟩ : S40)]) (wrap64 (x10_2 + 1))) else (none)) = some r:=by rw [if_pos rfl] at H;exact H
        clear H;have H:=H1;clear H1
        by_cases c39 : x9_2.length < 3518437208883
        ·rw [if_pos c39] at H;have LMc39:=zMk c39;clear c39;obtain ⟨y729,hy729⟩ : ∃ y_ : List (S40),y_ = (x9_2 ++ [(⟨t722,t723,t724⟩ : S40)]):=⟨_,rfl⟩;replace H : (spec_Gather.l3 k2 l0 x3_1 y729 (wrap64 (x10_2 + 1))) = some r:=by first | (rw [hy729];with_reducible exact H) | (have H2_:=(Option.bind_some _ _).symm.trans H;rw [hy729];with_reducible exact H2_) | (have H2_:=(Option.bind_some _ _).symm.trans H;with_reducible exact H2_) | with_reducible exact H | (rw [hy729];exact H) | exact H
         have Ny729:=zMk hy729;clear hy729;have H':=zMk H;clear H;obtain ⟨Ao40,co40,eo40⟩:=Kd.R_slice HO_3.out;subst eo40;have p721 : 0 ≤ (x10_2 : Int):=zDe (by first | (with_reducible assumption) | assumption);have q721 : x10_2 < (x3_1.length : Int):=zDe (by first | (with_reducible assumption) | assumption);obtain ⟨ad721,e721,hx721_0⟩:=Kd.at_int (Kd.R_reads' HO_3.out).2.2 x10_2 p721 q721;cases e721;replace p721:=eq_true p721;replace q721:=eq_true q721;go_wp2_with (first | (go_at_call 40;(with_reducible refine (spec_l10Tx.calls k2 _ _ l0 (rd x3_1 x10_2) t722 t723 t724 true _ ?side1 ?side2 A37.out).mono ?_);(case side1=>repeat (first | exact (Kd.C_below HR0.out HB.out) | (with_reducible refine Kd.C_alloc ?_ _) | (with_reducible refine Kd.C_drewN ?_ _) | (with_reducible refine Kd.C_drew ?_)));(case side2=>exact HC0.out);rintro e w41 ⟨v725,rfl,ho0,hb⟩;have n0_:=zMk (Kd.R_below (rs HO_3) hb);have n1_:=zMk (Kd.S_elder' (ss HO_9) (Kd.R_base ho0) hb);have n2_:=zMk (Kd.R_lower ho0 (below_size (hs HB)));have n3_:=zMk (below_step (hs HB) hb);clear HO_3;clear HO_9;clear HB;have HO_3:=n0_;have HO_9:=n1_;have HO726:=n2_;have HB:=n3_;clear n0_ n1_ n2_ n3_;(try clear hb);(try clear hb2);(try clear hk);(try clear hi);(try clear ho0)) | ((with_reducible refine gate_dst (N:=11) rfl ?_);refine box_event ?hg (N:=11) ?hd (cs:=#[.int .i64 0,.int .i64 0,.slice none 0 0]) (t:=40) ?hr ?_;(case hd=>rfl);(case hg=>rfl);(case hr=>first | (go_simp;done) | (go_simp;rfl));intro gb728 hg w42 hbox hb;have n0_:=zMk (Kd.R_below (rs HO_3) hb);have n1_:=zMk (Kd.S_below (Kd.S_elderB (ss HO_9) gb728 (Nat.le_of_eq hg.symm)) hb);have n2_:=zMk (Kd.R_below (rs HO726) hb);have n3_:=zMk (below_step (hs HB) hb);have n4_:=zMk (hbox);have n5_:=zMk ((by rw [hg];exact (below_size (hs HB)) : w.heap.size ≤ gb728));have n6_:=zMk ((by rw [hg];exact (below_size (hs HB)) : w.heap.size ≤ gb728));clear HO_3;clear HO_9;clear HO726;clear HB;have HO_3:=n0_;have HO_9:=n1_;have HO726:=n2_;have HB:=n3_;have BK728:=n4_;have GW728:=n5_;have GE728:=n6_;clear n0_ n1_ n2_ n3_ n4_ n5_ n6_;clear hb hbox hg;have hcz43_0 : w42.cell? ⟨gb728,0,none⟩ = some (.int .i64 0):=(zCl BK728.out 0).trans rfl;have hcz43_1 : w42.cell? ⟨gb728,1,none⟩ = some (.int .i64 0):=(zCl BK728.out 1).trans rfl;have hcz43_2 : w42.cell? ⟨gb728,2,none⟩ = some (.slice none 0 0):=(zCl BK728.out 2).trans rfl;have hfz43_0:=zFr BK728.out 0;have hfz43_1:=zFr BK728.out 1;have hfz43_2:=zFr BK728.out 2;obtain ⟨Ao44,co44,eo44⟩:=Kd.R_slice HO726.out;subst eo44) | ((with_reducible refine gate_store (t:=40) (p:=11) rfl ?_);(try (rw [drewN_self w42];generalize hq_ : World.drewN w42 _ = w42;have n0_:=zMk (Kd.R_at hq_ HO_3.out);have n1_:=zMk (Kd.S_at hq_ HO_9.out);have n2_:=zMk (Kd.R_at hq_ HO726.out);have n3_:=zMk (blk_at hq_ BK728.out);have n4_:=zMk (below_at hq_ HB.out);clear hq_ HO_3 HO_9 HO726 BK728 HB;have HO_3:=n0_;have HO_9:=n1_;have HO726:=n2_;have BK728:=n3_;have HB:=n4_;clear n0_ n1_ n2_ n3_ n4_));refine store_event (t:=40) (p:=11) (v:=?vo_w45) (w1:=(((w42.setCell ⟨gb728,0,none⟩ (.int .i64 t722)).setCell ⟨gb728,1,none⟩ (.int .i64 t723)).setCell ⟨gb728,2,none⟩ (.slice Ao44 t724.length co44))) ?hg ?ho ?hn ?hr ?_;(case ho=>rfl);(case hg=>rfl);(case hn=>rfl);(case hr=>first | (go_simp;done) | (go_simp;rfl));intro w45 hw;have n0_ : Aside0 (Kd.R (Kd.int .i64) 3 w45 w.heap.size (fun _=>True) (.slice (some ad721) x3_1.length co40) x3_1):=⟨(by rw [hw];exact (by (with_reducible repeat (first | apply Kd.R_alloc | apply Kd.R_drewN | apply Kd.R_drew));exact Kd.R_mono (Kd.R_far (p:=⟨gb728,2,none⟩) (Kd.R_far (p:=⟨gb728,1,none⟩) (Kd.R_far (p:=⟨gb728,0,none⟩) (Kd.R_types HO_3.out BK728.out (by decide)) (fun _ hk=>hk.2) (.int .i64 t722)) (fun _ hk=>hk.2) (.int .i64 t723)) (fun _ hk=>hk.2) (.slice Ao44 t724.length co44)) (fun _ hk=>trivial)))⟩;have n1_ : Aside0 (Kd.S k40 40 w45 w.heap.size (fun k_=>some k_ ≠ (.slice Ao44 t724.length co44 : Value).ownBlock ∧ k_ ≠ gb728) u9 x9_2):=⟨(by rw [hw];exact (by (with_reducible repeat (first | apply Kd.S_alloc | apply Kd.S_drewN | apply Kd.S_drew));exact Kd.S_mono (Kd.S_far (p:=⟨gb728,2,none⟩) (Kd.S_far (p:=⟨gb728,1,none⟩) (Kd.S_far (p:=⟨gb728,0,none⟩) (Kd.S_mono HO_9.out (fun k_ hk=>(⟨hk,hk.2⟩ : _ ∧ k_ ≠ gb728))) (fun _ hk=>hk.2) (.int .i64 t722)) (fun _ hk=>hk.2) (.int .i64 t723)) (fun _ hk=>hk.2) (.slice Ao44 t724.length co44)) (fun _ hk=>⟨hk.1.1.2,hk.1.2⟩)))⟩;have n2_ : Aside0 (Kd.R k45 45 w45 w.heap.size (fun _=>True) (.slice Ao44 t724.length co44) t724):=⟨(by rw [hw];exact (by (with_reducible repeat (first | apply Kd.R_alloc | apply Kd.R_drewN | apply Kd.R_drew));exact Kd.R_mono (Kd.R_far (p:=⟨gb728,2,none⟩) (Kd.R_far (p:=⟨gb728,1,none⟩) (Kd.R_far (p:=⟨gb728,0,none⟩) (Kd.R_types HO726.out BK728.out (by decide)) (fun _ hk=>hk.2) (.int .i64 t722)) (fun _ hk=>hk.2) (.int .i64 t723)) (fun _ hk=>hk.2) (.slice Ao44 t724.length co44)) (fun _ hk=>trivial)))⟩;have n3_ : Aside0 (w45.heap[gb728]? = some (.cells #[.int .i64 t722,.int .i64 t723,.slice Ao44 t724.length co44] 40 (0,0))):=⟨(by rw [hw];exact (by (with_reducible repeat (first | refine blk_drewN ?_ _ | refine blk_drew ?_ | refine blk_alloc ?_ _));refine blk_put (cs:=#[.int .i64 t722,.int .i64 t723,.slice none 0 0]) ?_ 2 _ rfl;(with_reducible repeat (first | refine blk_drewN ?_ _ | refine blk_drew ?_ | refine blk_alloc ?_ _));refine blk_put (cs:=#[.int .i64 t722,.int .i64 0,.slice none 0 0]) ?_ 1 _ rfl;(with_reducible repeat (first | refine blk_drewN ?_ _ | refine blk_drew ?_ | refine blk_alloc ?_ _));refine blk_put (cs:=#[.int .i64 0,.int .i64 0,.slice none 0 0]) ?_ 0 _ rfl;(with_reducible repeat (first | refine blk_drewN ?_ _ | refine blk_drew ?_ | refine blk_alloc ?_ _));exact BK728.out))⟩;have n4_ : Aside0 (Below w.heap.size w w45):=⟨(by rw [hw];exact (hs1 HB GE728))⟩;clear hw;clear HO_3;clear HO_9;clear HO726;clear BK728;clear HB;have HO_3:=n0_;have HO_9:=n1_;have HO726:=n2_;have BK728:=n3_;have HB:=n4_;clear n0_ n1_ n2_ n3_ n4_;have hcz46_0 : w45.cell? ⟨gb728,0,none⟩ = some (.int .i64 t722):=(zCl BK728.out 0).trans rfl;have hcz46_1 : w45.cell? ⟨gb728,1,none⟩ = some (.int .i64 t723):=(zCl BK728.out 1).trans rfl;have hcz46_2 : w45.cell? ⟨gb728,2,none⟩ = some (.slice Ao44 t724.length co44):=(zCl BK728.out 2).trans rfl;have hfz46_0:=zFr BK728.out 0;have hfz46_1:=zFr BK728.out 1;have hfz46_2:=zFr BK728.out 2) | ((with_reducible refine gate_builtin (b:=.append) (xs:=#[.tmp 92,.tmp 94]) rfl ?_);at_builtin;refine Kd.S_append k40 (w0:=w) w.heap.size rfl (.tmp 92) (.tmp 94) 37 40 (.agg #[(.int .i64 0),(.int .i64 0),(.slice none 0 0)]) 40 rfl Try.underlying37 info40 rfl (by decide) (by omega) u9 x9_2 (⟨t722,t723,t724⟩ : S40) [.int .i64 t722,.int .i64 t723,.slice Ao44 t724.length co44] (fun k_=>k_ ≠ gb728) (fun k_=>some k_ = (.slice Ao44 t724.length co44 : Value).ownBlock) rfl rfl ?aP (fun k_ hk_=>((Kd.R_mono (ok':=fun k_=>((fun k_=>k_ ≠ gb728)) k_ ∧ some k_ ≠ (u9 : Value).ownBlock) (Kd.R_types (Kd.R_apart' (HO726.out) (Kd.S_typed HO_9.out) (by decide)) BK728.out (by decide)) (fun k_ hk=>⟨hk.2,hk.1.2⟩))).1 k_ hk_.symm) ?aF ?aO ?aB ?aS ?aL ?_;(case aP=>exact k40_mkM _ _ _ (⟨t722,t723,t724⟩ : S40) (Kd.R_mono (Kd.R_tight rfl (Kd.R_mono (ok':=fun k_=>((fun k_=>k_ ≠ gb728)) k_ ∧ some k_ ≠ (u9 : Value).ownBlock) (Kd.R_types (Kd.R_apart' (HO726.out) (Kd.S_typed HO_9.out) (by decide)) BK728.out (by decide)) (fun k_ hk=>⟨hk.2,hk.1.2⟩))) (fun _ h_=>h_)));(case aB=>exact (hs1 HB GE728));(case aF=>exact (fun k_ hk=>Kd.freshB (g:=gb728) (o:=.cells #[.int .i64 t722,.int .i64 t723,.slice Ao44 t724.length co44] 40 (0,0)) (bs BK728) k_ hk));(case aO=>exact (by (with_reducible repeat (first | apply Kd.S_alloc | apply Kd.S_drewN | apply Kd.S_drew));exact Kd.S_mono HO_9.out (fun k_ hk=>⟨hk.2,fun e_=>hk.1 e_⟩)));(case aS=>exact (below_size (hs1 HB GE728)));(case aL=>have:=LMc39.out;omega);intro v730 w47 ho hb hg hat;rw [← Ny729.out] at ho;have n0_:=zMk (Kd.R_over' (rs HO_3) (Kd.S_typed (ss HO_9)) (by decide) hg);have n1_:=zMk (blk_grown (g:=gb728) (o:=.cells #[.int .i64 t722,.int .i64 t723,.slice Ao44 t724.length co44] 40 (0,0)) (bs BK728) hg (Kd.S_away HO_9.out (fun _ hk=>hk.2)));have n2_:=zMk (hb);have n3_:=zMk (ho);clear HO_3;clear BK728;clear HB;clear HO_9;clear HO726;have HO_3:=n0_;have BK728:=n1_;have HB:=n2_;have HO731:=n3_;clear n0_ n1_ n2_ n3_;clear ho hb hg hat) | ((first | fail_if_success go_not_at_region 11 | fail_if_success go_not_at_region 17);go_quiet (fail)));go_roundg k2;case measure=>have:=HK1.out;have:=HK2.out;omega
         case rel=>exact ⟨(y729),(wrap64 (x10_2 + 1)),(by first | rfl | (simp;done) | (simp [*];done)),H',⟨by have:=HK1.out;have:=HK2.out;omega⟩,⟨rs HO_3⟩,⟨by (with_reducible repeat (first | apply Kd.S_alloc | apply Kd.S_drewN | apply Kd.S_drew));exact Kd.S_mono HO731.out (fun _ hk=>trivial)⟩,⟨hs1 HB GE728⟩⟩
        rw [if_neg c39] at H;exact absurd H (by simp)
       replace c38:=Bool.eq_false_iff.mpr c38;subst c38;have H1 : (spec_Gather.l3 k2 l0 x3_1 x9_2 (wrap64 (x10_2 + 1))) = some r:=by rw [if_neg (show ¬ (false = true) by decide)] at H;exact H
       clear H;have H:=H1;clear H1;have H':=zMk H;clear H;obtain ⟨Ao48,co48,eo48⟩:=Kd.R_slice HO_3.out;subst eo48;have p721 : 0 ≤ (x10_2 : Int):=zDe (by first | (with_reducible assumption) | assumption);have q721 : x10_2 < (x3_1.length : Int):=zDe (by first | (with_reducible assumption) | assumption);obtain ⟨ad721,e721,hx721_0⟩:=Kd.at_int (Kd.R_reads' HO_3.out).2.2 x10_2 p721 q721;cases e721;replace p721:=eq_true p721;replace q721:=eq_true q721;go_wp2_with (first | (go_at_call 40;(with_reducible refine (spec_l10Tx.calls k2 _ _ l0 (rd x3_1 x10_2) t722 t723 t724 false _ ?side1 ?side2 A37.out).mono ?_);(case side1=>repeat (first | exact (Kd.C_below HR0.out HB.out) | (with_reducible refine Kd.C_alloc ?_ _) | (with_reducible refine Kd.C_drewN ?_ _) | (with_reducible refine Kd.C_drew ?_)));(case side2=>exact HC0.out);rintro e w49 ⟨v725,rfl,ho0,hb⟩;have n0_:=zMk (Kd.R_below (rs HO_3) hb);have n1_:=zMk (Kd.S_elder' (ss HO_9) (Kd.R_base ho0) hb);have n2_:=zMk (Kd.R_lower ho0 (below_size (hs HB)));have n3_:=zMk (below_step (hs HB) hb);clear HO_3;clear HO_9;clear HB;have HO_3:=n0_;have HO_9:=n1_;have HO726:=n2_;have HB:=n3_;clear n0_ n1_ n2_ n3_;(try clear hb);(try clear hb2);(try clear hk);(try clear hi);(try clear ho0)) | ((with_reducible refine gate_dst (N:=11) rfl ?_);refine box_event ?hg (N:=11) ?hd (cs:=#[.int .i64 0,.int .i64 0,.slice none 0 0]) (t:=40) ?hr ?_;(case hd=>rfl);(case hg=>rfl);(case hr=>first | (go_simp;done) | (go_simp;rfl));intro gb728 hg w50 hbox hb;have n0_:=zMk (Kd.R_below (rs HO_3) hb);have n1_:=zMk (Kd.S_below (Kd.S_elderB (ss HO_9) gb728 (Nat.le_of_eq hg.symm)) hb);have n2_:=zMk (Kd.R_below (rs HO726) hb);have n3_:=zMk (below_step (hs HB) hb);have n4_:=zMk (hbox);have n5_:=zMk ((by rw [hg];exact (below_size (hs HB)) : w.heap.size ≤ gb728));have n6_:=zMk ((by rw [hg];exact (below_size (hs HB)) : w.heap.size ≤ gb728));clear HO_3;clear HO_9;clear HO726;clear HB;have HO_3:=n0_;have HO_9:=n1_;have HO726:=n2_;have HB:=n3_;have BK728:=n4_;have GW728:=n5_;have GE728:=n6_;clear n0_ n1_ n2_ n3_ n4_ n5_ n6_;clear hb hbox hg;have hcz51_0 : w50.cell? ⟨gb728,0,none⟩ = some (.int .i64 0):=(zCl BK728.out 0).trans rfl;have hcz51_1 : w50.cell? ⟨gb728,1,none⟩ = some (.int .i64 0):=(zCl BK728.out 1).trans rfl;have hcz51_2 : w50.cell? ⟨gb728,2,none⟩ = some (.slice none 0 0):=(zCl BK728.out 2).trans rfl;have hfz51_0:=zFr BK728.out 0;have hfz51_1:=zFr BK728.out 1;have hfz51_2:=zFr BK728.out 2;obtain ⟨Ao52,co52,eo52⟩:=Kd.R_slice HO726.out;subst eo52) | ((first | fail_if_success go_not_at_region 11 | fail_if_success go_not_at_region 17);go_quiet (fail)));go_roundg k2;case measure=>have:=HK1.out;have:=HK2.out;omega
       case rel=>exact ⟨(x9_2),(wrap64 (x10_2 + 1)),(by first | rfl | (simp;done) | (simp [*];done)),H',⟨by have:=HK1.out;have:=HK2.out;omega⟩,⟨by (with_reducible repeat (first | apply Kd.R_alloc | apply Kd.R_drewN | apply Kd.R_drew));exact Kd.R_mono (Kd.R_far (p:=⟨gb728,2,none⟩) (Kd.R_far (p:=⟨gb728,1,none⟩) (Kd.R_far (p:=⟨gb728,0,none⟩) (Kd.R_types HO_3.out BK728.out (by decide)) (fun _ hk=>hk.2) (.int .i64 t722)) (fun _ hk=>hk.2) (.int .i64 t723)) (fun _ hk=>hk.2) (.slice Ao52 t724.length co52)) (fun _ hk=>trivial)⟩,⟨by (with_reducible repeat (first | apply Kd.S_alloc | apply Kd.S_drewN | apply Kd.S_drew));exact Kd.S_mono (Kd.S_far (p:=⟨gb728,2,none⟩) (Kd.S_far (p:=⟨gb728,1,none⟩) (Kd.S_far (p:=⟨gb728,0,none⟩) (Kd.S_mono HO_9.out (fun k_ hk=>(⟨hk,hk.2⟩ : _ ∧ k_ ≠ gb728))) (fun _ hk=>hk.2) (.int .i64 t722)) (fun _ hk=>hk.2) (.int .i64 t723)) (fun _ hk=>hk.2) (.slice Ao52 t724.length co52)) (fun _ hk=>trivial)⟩,⟨hs1 HB GE728⟩⟩
      rw [if_neg c36] at H;exact absurd H (by simp)
     rw [if_neg c35] at H;have c35b0 : decide (x10_2 < (x3_1.length : Int)) = false:=decide_eq_false c35;clear c35;obtain rfl:=Option.some.inj H;obtain ⟨Ao53,co53,eo53⟩:=Kd.R_slice HO_3.out;subst eo53;go_wp2_with ((first | fail_if_success go_not_at_region 11 | fail_if_success go_not_at_region 17);go_quiet (fail))
     go_ret
     exact ⟨_,by first | rfl | (simp [errW_none,errW_some] <;> rfl) | (simp [*,errW_none,errW_some] <;> rfl),ss HO_9,hs HB⟩
mutual
def laws_FnGathers.j0 : Nat → List (S40) → List (S40) → List (S40) → Bool → Option (Bool)
 | 0,_,_,_,_=>none
 | k + 1,x4,x5,x6,x31=>if x31 = true then (some false) else (laws_FnGathers.l0 k x4 x5 x6 0)
def laws_FnGathers.l0 : Nat → List (S40) → List (S40) → List (S40) → Int → Option (Bool)
 | 0,_,_,_,_=>none
 | k + 1,x4,x5,x6,x7=>if x7 < (x4.length : Int) then (if 0 ≤ x7 then (if x7 < (x5.length : Int) then (if ((rd_T40 x4 x7).f0) = ((rd_T40 x5 x7).f0) then ((laws_sameRecs.f k ((rd_T40 x4 x7).f2) ((rd_T40 x5 x7).f2)).bind fun t749=>(if t749 = true then (if x7 > 0 then (if 0 ≤ (wrap64 (x7 - 1)) then (if (wrap64 (x7 - 1)) < (x4.length : Int) then (if ((rd_T40 x4 (wrap64 (x7 - 1))).f0) ≥ ((rd_T40 x4 x7).f0) then (some false) else (laws_FnGathers.l0 k x4 x5 x6 (wrap64 (x7 + 1)))) else (none)) else (none)) else (laws_FnGathers.l0 k x4 x5 x6 (wrap64 (x7 + 1)))) else (some false))) else (some false)) else (none)) else (none)) else (laws_FnGathers.l1 k x4 x6 0)
def laws_FnGathers.l1 : Nat → List (S40) → List (S40) → Int → Option (Bool)
 | 0,_,_,_=>none
 | k + 1,x4,x6,x8=>if x8 < (x6.length : Int) then (if 0 ≤ (wrap64 ((wrap64 ((x4.length : Int) - (x6.length : Int))) + x8)) then (if (wrap64 ((wrap64 ((x4.length : Int) - (x6.length : Int))) + x8)) < (x4.length : Int) then (if 0 ≤ x8 then (if ((rd_T40 x6 x8).f0) = ((rd_T40 x4 (wrap64 ((wrap64 ((x4.length : Int) - (x6.length : Int))) + x8))).f0) then ((laws_sameRecs.f k ((rd_T40 x6 x8).f2) ((rd_T40 x4 (wrap64 ((wrap64 ((x4.length : Int) - (x6.length : Int))) + x8))).f2)).bind fun t756=>(if t756 = true then (if x8 > 0 then (if (((rd_T40 x4 (wrap64 ((wrap64 ((x4.length : Int) - (x6.length : Int))) + x8))).f2).length : Int) > 0 then (if 0 < (((rd_T40 x4 (wrap64 ((wrap64 ((x4.length : Int) - (x6.length : Int))) + x8))).f2).length : Int) then (if ((rd_T45 ((rd_T40 x4 (wrap64 ((wrap64 ((x4.length : Int) - (x6.length : Int))) + x8))).f2) 0).f0) = 1 then (some false) else (laws_FnGathers.l1 k x4 x6 (wrap64 (x8 + 1)))) else (none)) else (laws_FnGathers.l1 k x4 x6 (wrap64 (x8 + 1)))) else (laws_FnGathers.l1 k x4 x6 (wrap64 (x8 + 1)))) else (some false))) else (some false)) else (none)) else (none)) else (none)) else (if (x6.length : Int) = (x4.length : Int) then (some true) else (if 0 < (x6.length : Int) then (if 0 < (((rd_T40 x6 0).f2).length : Int) then (some (((rd_T45 ((rd_T40 x6 0).f2) 0).f0) == 1)) else (none)) else (none)))
end
def laws_FnGathers.f (k : Nat) (l0 : List Int) : Option (Bool):=(laws_big.f l0).bind fun t732=>(if t732 = true then (some true) else ((spec_DrawGather.f k l0).bind fun t733=>((impl_Gather.f k t733).bind fun t736=>((spec_Gather.f k t733).bind fun t739=>((impl_SinceBase.f k t736).bind fun t742=>(if (t736.length : Int) = (t739.length : Int) then (laws_FnGathers.j0 k t736 t739 t742 (decide ((t742.length : Int) > (t736.length : Int)))) else (laws_FnGathers.j0 k t736 t739 t742 true)))))))
theorem laws_FnGathers.mono_l : ∀ k,(∀ y0 y1 y2 y3,LeO (laws_FnGathers.j0 k y0 y1 y2 y3) (laws_FnGathers.j0 (k + 1) y0 y1 y2 y3)) ∧ (∀ y0 y1 y2 y3,LeO (laws_FnGathers.l0 k y0 y1 y2 y3) (laws_FnGathers.l0 (k + 1) y0 y1 y2 y3)) ∧ (∀ y0 y1 y2,LeO (laws_FnGathers.l1 k y0 y1 y2) (laws_FnGathers.l1 (k + 1) y0 y1 y2))
 | 0=>⟨fun _ _ _ _ r h=>by simp [laws_FnGathers.j0] at h,fun _ _ _ _ r h=>by simp [laws_FnGathers.l0] at h,fun _ _ _ r h=>by simp [laws_FnGathers.l1] at h⟩
 | k + 1=>by
  obtain ⟨ih0,ih1,ih2⟩:=laws_FnGathers.mono_l k;refine ⟨?_,?_,?_⟩
  ·intro y0 y1 y2 y3;unfold laws_FnGathers.j0
   repeat' first
   | (with_reducible exact ih0 _ _ _ _)
   | (with_reducible exact ih1 _ _ _ _)
   | (with_reducible exact ih2 _ _ _)
   | (with_reducible exact impl_Gather.mono _ _)
   | (with_reducible exact impl_SinceBase.mono _ _)
   | (with_reducible exact laws_sameRecs.mono _ _ _)
   | (with_reducible exact spec_DrawGather.mono _ _)
   | (with_reducible exact spec_Gather.mono _ _)
   | (with_reducible exact LeO.refl _)
   | (with_reducible exact LeO.none _)
   | (with_reducible refine LeO.ite ?_ ?_)
   | (with_reducible refine LeO.bind ?_ (fun _=>?_))
   | exact ih0 _ _ _ _
   | exact ih1 _ _ _ _
   | exact ih2 _ _ _
   | exact impl_Gather.mono _ _
   | exact impl_SinceBase.mono _ _
   | exact laws_sameRecs.mono _ _ _
   | exact spec_DrawGather.mono _ _
   | exact spec_Gather.mono _ _
   | exact LeO.none _
   | refine LeO.ite ?_ ?_
   | refine LeO.bind ?_ (fun _=>?_)
  ·intro y0 y1 y2 y3;unfold laws_FnGathers.l0
   repeat' first
   | (with_reducible exact ih0 _ _ _ _)
   | (with_reducible exact ih1 _ _ _ _)
   | (with_reducible exact ih2 _ _ _)
   | (with_reducible exact impl_Gather.mono _ _)
   | (with_reducible exact impl_SinceBase.mono _ _)
   | (with_reducible exact laws_sameRecs.mono _ _ _)
   | (with_reducible exact spec_DrawGather.mono _ _)
   | (with_reducible exact spec_Gather.mono _ _)
   | (with_reducible exact LeO.refl _)
   | (with_reducible exact LeO.none _)
   | (with_reducible refine LeO.ite ?_ ?_)
   | (with_reducible refine LeO.bind ?_ (fun _=>?_))
   | exact ih0 _ _ _ _
   | exact ih1 _ _ _ _
   | exact ih2 _ _ _
   | exact impl_Gather.mono _ _
   | exact impl_SinceBase.mono _ _
   | exact laws_sameRecs.mono _ _ _
   | exact spec_DrawGather.mono _ _
   | exact spec_Gather.mono _ _
   | exact LeO.none _
   | refine LeO.ite ?_ ?_
   | refine LeO.bind ?_ (fun _=>?_)
  intro y0 y1 y2;unfold laws_FnGathers.l1
  repeat' first
  | (with_reducible exact ih0 _ _ _ _)
  | (with_reducible exact ih1 _ _ _ _)
  | (with_reducible exact ih2 _ _ _)
  | (with_reducible exact impl_Gather.mono _ _)
  | (with_reducible exact impl_SinceBase.mono _ _)
  | (with_reducible exact laws_sameRecs.mono _ _ _)
  | (with_reducible exact spec_DrawGather.mono _ _)
  | (with_reducible exact spec_Gather.mono _ _)
  | (with_reducible exact LeO.refl _)
  | (with_reducible exact LeO.none _)
  | (with_reducible refine LeO.ite ?_ ?_)
  | (with_reducible refine LeO.bind ?_ (fun _=>?_))
  | exact ih0 _ _ _ _
  | exact ih1 _ _ _ _
  | exact ih2 _ _ _
  | exact impl_Gather.mono _ _
  | exact impl_SinceBase.mono _ _
  | exact laws_sameRecs.mono _ _ _
  | exact spec_DrawGather.mono _ _
  | exact spec_Gather.mono _ _
  | exact LeO.none _
  | refine LeO.ite ?_ ?_
  | refine LeO.bind ?_ (fun _=>?_)
theorem laws_FnGathers.mono : ∀ a0 k,LeO (laws_FnGathers.f k a0) (laws_FnGathers.f (k + 1) a0):=by
 intro a0 k;obtain ⟨ih0,ih1,ih2⟩:=laws_FnGathers.mono_l k;unfold laws_FnGathers.f
 repeat' first
   | (with_reducible exact ih0 _ _ _ _)
   | (with_reducible exact ih1 _ _ _ _)
   | (with_reducible exact ih2 _ _ _)
   | (with_reducible exact impl_Gather.mono _ _)
   | (with_reducible exact impl_SinceBase.mono _ _)
   | (with_reducible exact laws_sameRecs.mono _ _ _)
   | (with_reducible exact spec_DrawGather.mono _ _)
   | (with_reducible exact spec_Gather.mono _ _)
   | (with_reducible exact LeO.refl _)
   | (with_reducible exact LeO.none _)
   | (with_reducible refine LeO.ite ?_ ?_)
   | (with_reducible refine LeO.bind ?_ (fun _=>?_))
   | exact ih0 _ _ _ _
   | exact ih1 _ _ _ _
   | exact ih2 _ _ _
   | exact impl_Gather.mono _ _
   | exact impl_SinceBase.mono _ _
   | exact laws_sameRecs.mono _ _ _
   | exact spec_DrawGather.mono _ _
   | exact spec_Gather.mono _ _
   | exact LeO.none _
   | refine LeO.ite ?_ ?_
   | refine LeO.bind ?_ (fun _=>?_)
def laws_FnGathers.T12 : Bool × List (List Nat × List Nat):=(true,[([],[]),([],[]),([0,1],[0,1]),([2],[2]),([3],[3]),([],[]),([],[]),([5,6],[5,6]),([7],[7]),([8],[8]),([4,9],[4,9]),([10],[10]),([11],[11]),([11],[11]),([12,13,11],[11,12,13]),([14,11],[11,14]),([15,11],[11,15]),([11],[11]),([11],[11]),([17,18,11],[11,17,18]),([19,11],[11,19]),([20,11],[11,20]),([16,21,11,11],[11,16,21]),([22,11],[11,22]),([11,23],[11,23]),([24,22],[24]),([25],[25]),([26,25],[25,26]),([27,25,25],[25,27]),([28],[28]),([28],[28]),([30,28],[28,30]),([29,31,28],[28,29,31]),([32,28],[28,32]),([33,28],[28,33]),([28],[28]),([28],[28]),([35,36,28],[28,35,36]),([37,28],[28,37]),([38,28],[28,38]),([34,39,28],[28,34,39]),([28,40,25],[25,28,40]),([25,41],[25,41])])
def laws_FnGathers.B12 : List Nat:=[0,0,3,7,15,0,0,96,224,480,1023,2047,4095,4095,16383,32767,65535,4095,4095,397311,921599,1970175,4194303,8388607,16777215,33554431,67108863,134217727,268435455,536870911,536870911,1610612735,4294967295,8589934591,17179869183,536870911,536870911,103616086015,241055039487,515932946431,1099511627775,2199023255551,4398046511103]
theorem laws_FnGathers.tab12 : rtab .any (opsOf Try.f5 12) = laws_FnGathers.T12:=by kernel_rfl
theorem laws_FnGathers.bits12 : waitsOk laws_FnGathers.T12.2 laws_FnGathers.B12 = true:=by kernel_rfl
def laws_FnGathers.T18 : Bool × List (List Nat × List Nat):=(true,[([],[]),([],[]),([0,1],[0,1]),([2],[2]),([3],[3]),([],[]),([5],[5]),([4,6],[4,6]),([7],[7]),([8],[8]),([8],[8]),([9,10,8],[8,9,10]),([11,8],[8,11]),([12,8],[8,12]),([8],[8]),([14,8],[8,14]),([13,15,8,8],[8,13,15]),([16,8],[8,16]),([8,17],[8,17]),([18,16],[18]),([19],[19]),([20,19],[19,20]),([21,19,19],[19,21]),([22],[22]),([23,22],[22,23]),([24,22],[22,24]),([25,22],[22,25]),([22,26,19],[19,22,26]),([27,22,19],[19,27]),([28],[28]),([29,28],[28,29]),([30,28],[28,30]),([31,28],[28,31]),([32,28],[28,32]),([33,28],[28,33]),([28,34,19],[19,28,34]),([19,35],[19,35])])
def laws_FnGathers.B18 : List Nat:=[0,0,3,7,15,0,32,127,255,511,511,2047,4095,8191,511,16895,65535,131071,262143,524287,1048575,2097151,4194303,8388607,16777215,33554431,67108863,134217727,268435455,536870911,1073741823,2147483647,4294967295,8589934591,17179869183,34359738367,68719476735]
theorem laws_FnGathers.tab18 : rtab .any (opsOf Try.f5 18) = laws_FnGathers.T18:=by kernel_rfl
theorem laws_FnGathers.bits18 : waitsOk laws_FnGathers.T18.2 laws_FnGathers.B18 = true:=by kernel_rfl
set_option maxHeartbeats 8000000 in
set_option maxRecDepth 100000 in
theorem laws_FnGathers.calls (k : Nat) (A0 : Option Addr) (c0 : Nat) (l0 : List Int) (r : Bool) (hT : Aside0 (r = true)) (w : World) (hr0 : Kd.C (Kd.int .u8) w A0 l0.length l0) (hc0 : l0.length ≤ c0) (h : laws_FnGathers.f k l0 = some r) :
  Calls Try.prog 5 #[.slice A0 l0.length c0] w fun e w'=>e = .returned (.bool r) ∧ Below w.heap.size w w':=by
 have hu40:=Try.underlying40;have HR0:=zMk hr0;have HC0:=zMk hc0;clear hr0 hc0;have HB:=zMk (Below.refl w.heap.size w);have H : ((laws_big.f l0).bind fun t732=>(if t732 = true then (some true) else ((spec_DrawGather.f k l0).bind fun t733=>((impl_Gather.f k t733).bind fun t736=>((spec_Gather.f k t733).bind fun t739=>((impl_SinceBase.f k t736).bind fun t742=>(if (t736.length : Int) = (t739.length : Int) then (laws_FnGathers.j0 k t736 t739 t742 (decide ((t742.length : Int) > (t736.length : Int)))) else (laws_FnGathers.j0 k t736 t739 t742 true)))))))) = some r:=h;clear h;replace H:=Option.bind_eq_some_iff.mp H;obtain ⟨t732,A20,H⟩:=H;replace H : (if t732 = true then (some true) else ((spec_DrawGather.f k l0).bind fun t733=>((impl_Gather.f k t733).bind fun t736=>((spec_Gather.f k t733).bind fun t739=>((impl_SinceBase.f k t736).bind fun t742=>(if (t736.length : Int) = (t739.length : Int) then (laws_FnGathers.j0 k t736 t739 t742 (decide ((t742.length : Int) > (t736.length : Int)))) else (laws_FnGathers.j0 k t736 t739 t742 true))))))) = some r:=H;have A2:=zMk A20;clear A20
 go_enter Try.func5,Try.ntmps5
 go_upto_if 11 with (first | ((with_reducible refine gate_callee (f:=7) rfl ?_);refine goesL_ (some 11) rfl rfl Try.func7 (by kernel_rfl) rfl #[.slice A0 l0.length c0] rfl (by (try simp only [List.map_toArray,List.map_cons,List.map_nil]);first | done | rfl | (simp only [List.length_drop,List.length_take];rfl)) ?_;(with_reducible refine (laws_big.calls _ _ l0 t732 _ ?side1 ?side2 A2.out).mono ?_);(case side1=>repeat (first | exact HR0.out | (with_reducible refine Kd.C_alloc ?_ _) | (with_reducible refine Kd.C_drewN ?_ _) | (with_reducible refine Kd.C_drew ?_)));(case side2=>exact HC0.out);rintro e w' ⟨rfl,⟨nd,rfl⟩⟩;refine ⟨_,rfl,?_⟩))
 (try simp only [Act.put,zS1,zS2,zS3])
 by_cases c3 : t732 = true
 ·subst c3;have H1 : (some true) = some r:=by rw [if_pos rfl] at H;exact H
  clear H;have H:=H1;clear H1;obtain rfl:=Option.some.inj H
  go_wp2
  go_ret
  exact ⟨by first | rfl | (simp [errW_none,errW_some] <;> rfl) | (simp [*,errW_none,errW_some] <;> rfl),hs HB⟩
 replace c3:=Bool.eq_false_iff.mpr c3;subst c3;have H1 : ((spec_DrawGather.f k l0).bind fun t733=>((impl_Gather.f k t733).bind fun t736=>((spec_Gather.f k t733).bind fun t739=>((impl_SinceBase.f k t736).bind fun t742=>(if (t736.length : Int) = (t739.length : Int) then (laws_FnGathers.j0 k t736 t739 t742 (decide ((t742.length : Int) > (t736.length : Int)))) else (laws_FnGathers.j0 k t736 t739 t742 true)))))) = some r:=by rw [if_neg (show ¬ (false = true) by decide)] at H;exact H
 clear H;have H:=H1;clear H1;replace H:=Option.bind_eq_some_iff.mp H;obtain ⟨t733,A40,H⟩:=H;replace H : ((impl_Gather.f k t733).bind fun t736=>((spec_Gather.f k t733).bind fun t739=>((impl_SinceBase.f k t736).bind fun t742=>(if (t736.length : Int) = (t739.length : Int) then (laws_FnGathers.j0 k t736 t739 t742 (decide ((t742.length : Int) > (t736.length : Int)))) else (laws_FnGathers.j0 k t736 t739 t742 true))))) = some r:=H;have A4:=zMk A40;clear A40;replace H:=Option.bind_eq_some_iff.mp H;obtain ⟨t736,A50,H⟩:=H;replace H : ((spec_Gather.f k t733).bind fun t739=>((impl_SinceBase.f k t736).bind fun t742=>(if (t736.length : Int) = (t739.length : Int) then (laws_FnGathers.j0 k t736 t739 t742 (decide ((t742.length : Int) > (t736.length : Int)))) else (laws_FnGathers.j0 k t736 t739 t742 true)))) = some r:=H;have A5:=zMk A50;clear A50;replace H:=Option.bind_eq_some_iff.mp H;obtain ⟨t739,A60,H⟩:=H;replace H : ((impl_SinceBase.f k t736).bind fun t742=>(if (t736.length : Int) = (t739.length : Int) then (laws_FnGathers.j0 k t736 t739 t742 (decide ((t742.length : Int) > (t736.length : Int)))) else (laws_FnGathers.j0 k t736 t739 t742 true))) = some r:=H;have A6:=zMk A60;clear A60;replace H:=Option.bind_eq_some_iff.mp H;obtain ⟨t742,A70,H⟩:=H;replace H : (if (t736.length : Int) = (t739.length : Int) then (laws_FnGathers.j0 k t736 t739 t742 (decide ((t742.length : Int) > (t736.length : Int)))) else (laws_FnGathers.j0 k t736 t739 t742 true)) = some r:=H;have A7:=zMk A70;clear A70;have HC8:=zMk H;clear H;go_upto_region 7 with (first | ((with_reducible refine gate_callee (f:=17) rfl ?_);refine goesL_ (some 13) rfl rfl Try.func17 (by kernel_rfl) rfl #[.slice A0 l0.length c0] rfl (by (try simp only [List.map_toArray,List.map_cons,List.map_nil]);first | done | rfl | (simp only [List.length_drop,List.length_take];rfl)) ?_;(with_reducible refine (spec_DrawGather.calls k _ _ l0 t733 _ ?side1 ?side2 A4.out).mono ?_);(case side1=>repeat (first | exact HR0.out | (with_reducible refine Kd.C_alloc ?_ _) | (with_reducible refine Kd.C_drewN ?_ _) | (with_reducible refine Kd.C_drew ?_)));(case side2=>exact HC0.out);rintro e w9 ⟨v734,rfl,ho0,hb⟩;refine ⟨_,rfl,?_⟩;have n0_:=zMk (Kd.R_lower ho0 (below_size (hs HB)));have n1_:=zMk (below_step (hs HB) hb);clear HB;have HO735:=n0_;have HB:=n1_;clear n0_ n1_;(try clear hb);(try clear hb2);(try clear hk);(try clear hi);(try clear ho0);obtain ⟨Ao10,co10,eo10⟩:=Kd.R_slice HO735.out;subst eo10) | ((with_reducible refine gate_callee (f:=13) rfl ?_);refine goesL_ (some 15) rfl rfl Try.func13 (by kernel_rfl) rfl #[.slice Ao10 t733.length co10] rfl (by (try simp only [List.map_toArray,List.map_cons,List.map_nil]);first | done | rfl | (simp only [List.length_drop,List.length_take];rfl)) ?_;(with_reducible refine (impl_Gather.calls k _ _ t733 t736 _ ?side1 ?side2 A5.out).mono ?_);(case side1=>repeat (first | exact (Kd.R_reads' HO735.out).2.2 | (with_reducible refine Kd.C_alloc ?_ _) | (with_reducible refine Kd.C_drewN ?_ _) | (with_reducible refine Kd.C_drew ?_)));(case side2=>exact (Kd.R_reads' HO735.out).2.1);rintro e w11 ⟨v737,rfl,ho0,hb⟩;refine ⟨_,rfl,?_⟩;have n0_:=zMk (Kd.R_below (rs HO735) hb);have n1_:=zMk (Kd.S_lower ho0 (below_size (hs HB)));have n2_:=zMk (below_step (hs HB) hb);clear HO735;clear HB;have HO735:=n0_;have HO738:=n1_;have HB:=n2_;clear n0_ n1_ n2_;(try clear hb);(try clear hb2);(try clear hk);(try clear hi);(try clear ho0)) | ((with_reducible refine gate_callee (f:=18) rfl ?_);refine goesL_ (some 17) rfl rfl Try.func18 (by kernel_rfl) rfl #[.slice Ao10 t733.length co10] rfl (by (try simp only [List.map_toArray,List.map_cons,List.map_nil]);first | done | rfl | (simp only [List.length_drop,List.length_take];rfl)) ?_;(with_reducible refine (spec_Gather.calls k _ _ t733 t739 _ ?side1 ?side2 A6.out).mono ?_);(case side1=>repeat (first | exact (Kd.R_reads' HO735.out).2.2 | (with_reducible refine Kd.C_alloc ?_ _) | (with_reducible refine Kd.C_drewN ?_ _) | (with_reducible refine Kd.C_drew ?_)));(case side2=>exact (Kd.R_reads' HO735.out).2.1);rintro e w12 ⟨v740,rfl,ho0,hb⟩;refine ⟨_,rfl,?_⟩;have n0_:=zMk (Kd.R_below (rs HO735) hb);have n1_:=zMk (Kd.S_elder' (ss HO738) (Kd.S_base ho0) hb);have n2_:=zMk (Kd.S_lower (Kd.S_new' ho0 (Kd.S_lt (ss HO738))) (below_size (hs HB)));have n3_:=zMk (below_step (hs HB) hb);clear HO735;clear HO738;clear HB;have HO735:=n0_;have HO738:=n1_;have HO741:=n2_;have HB:=n3_;clear n0_ n1_ n2_ n3_;(try clear hb);(try clear hb2);(try clear hk);(try clear hi);(try clear ho0);obtain ⟨Ao13,co13,eo13⟩:=Kd.S_slice HO738.out;subst eo13) | ((with_reducible refine gate_callee (f:=16) rfl ?_);refine goesL_ (some 19) rfl rfl Try.func16 (by kernel_rfl) rfl #[.slice Ao13 t736.length co13] rfl (by (try simp only [List.map_toArray,List.map_cons,List.map_nil]);first | done | rfl | (simp only [List.length_drop,List.length_take];rfl)) ?_;(with_reducible refine (impl_SinceBase.calls k _ _ t736 t742 _ ?side1 ?side2 A7.out).mono ?_);(case side1=>repeat (first | exact (Kd.S_reads' HO738.out).2.2 | (with_reducible refine Kd.C_alloc ?_ _) | (with_reducible refine Kd.C_drewN ?_ _) | (with_reducible refine Kd.C_drew ?_)));(case side2=>exact (Kd.S_reads' HO738.out).2.1);rintro e w14 ⟨v743,rfl,ho0,hb⟩;refine ⟨_,rfl,?_⟩;have n0_:=zMk (Kd.R_below (rs HO735) hb);have n1_:=zMk (Kd.S_elder' (ss HO738) (Kd.S_base ho0) hb);have n2_:=zMk (Kd.S_elder' (ss HO741) (Kd.S_base ho0) hb);have n3_:=zMk (Kd.S_lower (Kd.S_new' (Kd.S_new' ho0 (Kd.S_lt (ss HO738))) (Kd.S_lt (ss HO741))) (below_size (hs HB)));have n4_:=zMk (below_step (hs HB) hb);clear HO735;clear HO738;clear HO741;clear HB;have HO735:=n0_;have HO738:=n1_;have HO741:=n2_;have HO744:=n3_;have HB:=n4_;clear n0_ n1_ n2_ n3_ n4_;(try clear hb);(try clear hb2);(try clear hk);(try clear hi);(try clear ho0)))
 (try simp only [Act.put,zS1,zS2,zS3])
 go_cut [31] (fun v31 wc=>∃ (kq : Nat) (x31_7 : Bool),v31 = .bool x31_7 ∧ Aside0 (laws_FnGathers.j0 kq t736 t739 t742 x31_7 = some r) ∧ Aside0 (kq ≤ k) ∧ Aside0 (Kd.S k40 40 wc w.heap.size (fun k_=>some k_ ≠ (v740 : Value).ownBlock ∧ some k_ ≠ (v743 : Value).ownBlock) (.slice Ao13 t736.length co13) t736) ∧ Aside0 (Kd.S k40 40 wc w.heap.size (fun k_=>some k_ ≠ ((.slice Ao13 t736.length co13) : Value).ownBlock ∧ some k_ ≠ (v743 : Value).ownBlock) v740 t739) ∧ Aside0 (Kd.S k40 40 wc w.heap.size (fun k_=>some k_ ≠ ((.slice Ao13 t736.length co13) : Value).ownBlock ∧ some k_ ≠ (v740 : Value).ownBlock) v743 t742) ∧ Aside0 (Below w.heap.size w wc))
 case first =>
  have H:=HC8.out;clear HC8
  by_cases c15 : (t736.length : Int) = (t739.length : Int)
  ·rw [if_pos c15] at H;have c15b0 : ((t736.length : Int) == (t739.length : Int)) = true:=beq_iff_eq.mpr c15;have c15b1 : ((t736.length : Int) != (t739.length : Int)) = false:=bne_eq_false_iff_eq.mpr c15;have c15b2 : (t736.length == t739.length) = true:=by first | simpa using c15 | (simp at c15 ⊢;omega)
   clear c15
   (first | rw [c15b0] | (simp only [i64_w,i32_w];rw [c15b0]) | skip)
   have H':=zMk H;clear H;obtain ⟨Ao16,co16,eo16⟩:=Kd.S_slice HO741.out;subst eo16;obtain ⟨Ao17,co17,eo17⟩:=Kd.S_slice HO744.out;subst eo17
   go_wp2
   go_meet
   case rel=>exact ⟨_,(decide ((t742.length : Int) > (t736.length : Int))),(by first | rfl | (simp;done) | (simp [*];done)),H',⟨by first | omega | exact Nat.le_refl _⟩,⟨by (with_reducible repeat (first | apply Kd.S_alloc | apply Kd.S_drewN | apply Kd.S_drew));exact Kd.S_mono HO738.out (fun _ hk=>⟨hk.1.2,hk.2⟩)⟩,⟨by (with_reducible repeat (first | apply Kd.S_alloc | apply Kd.S_drewN | apply Kd.S_drew));exact Kd.S_mono HO741.out (fun _ hk=>⟨hk.1.2,hk.2⟩)⟩,⟨by (with_reducible repeat (first | apply Kd.S_alloc | apply Kd.S_drewN | apply Kd.S_drew));exact Kd.S_mono HO744.out (fun _ hk=>⟨hk.1.2,hk.2⟩)⟩,⟨hs HB⟩⟩
  rw [if_neg c15] at H;have c15b0 : ((t736.length : Int) == (t739.length : Int)) = false:=beq_eq_false_iff_ne.mpr c15;have c15b1 : ((t736.length : Int) != (t739.length : Int)) = true:=bne_iff_ne.mpr c15;have c15b2 : (t736.length == t739.length) = false:=by first | simpa using c15 | (simp at c15 ⊢;omega)
  (first | rw [c15b0] | (simp only [i64_w,i32_w];rw [c15b0]) | skip)
  have H':=zMk H;clear H;obtain ⟨Ao18,co18,eo18⟩:=Kd.S_slice HO741.out;subst eo18
  go_wp2
  go_meet
  case rel=>exact ⟨_,(true),(by first | rfl | (simp;done) | (simp [*];done)),H',⟨by first | omega | exact Nat.le_refl _⟩,⟨by (with_reducible repeat (first | apply Kd.S_alloc | apply Kd.S_drewN | apply Kd.S_drew));exact Kd.S_mono HO738.out (fun _ hk=>⟨hk.1.2,hk.2⟩)⟩,⟨by (with_reducible repeat (first | apply Kd.S_alloc | apply Kd.S_drewN | apply Kd.S_drew));exact Kd.S_mono HO741.out (fun _ hk=>⟨hk.1.2,hk.2⟩)⟩,⟨by (with_reducible repeat (first | apply Kd.S_alloc | apply Kd.S_drewN | apply Kd.S_drew));exact Kd.S_mono HO744.out (fun _ hk=>⟨hk.1.2,hk.2⟩)⟩,⟨hs HB⟩⟩
 case rest =>
  clear HC8
  try clear c1
  try clear p2
  try clear c3
  try clear c5
  try clear c7
  try clear c13
  try clear c15
  try clear c15b0
  try clear c15b1
  try clear c15b2
  try clear c16
  try clear c17
  try clear c18
  obtain ⟨kq,x31_7,rfl,HA,HJ7,HO_4,HO_5,HO_6,HB⟩:=hcut;cases kq with
  | zero=>exact absurd HA.out (by simp [laws_FnGathers.j0])
  | succ kj7 =>
   have H:=HA.out;clear HA;simp only [laws_FnGathers.j0] at H
   by_cases c19 : x31_7 = true
   ·subst c19;have H1 : (some false) = some r:=by rw [if_pos rfl] at H;exact H
    clear H;have H:=H1;clear H1;exact absurd ((Option.some.inj H).trans hT.out) (by decide)
   replace c19:=Bool.eq_false_iff.mpr c19;subst c19;have H1 : (laws_FnGathers.l0 kj7 t736 t739 t742 0) = some r:=by rw [if_neg (show ¬ (false = true) by decide)] at H;exact H
   clear H;have H:=H1;clear H1;have H':=zMk H;clear H
   go_wp2
   go_loopg [7] kj7 (fun kq v7 w'=>∃ (x7_2 : Int),v7 = .int .i64 x7_2 ∧ Aside0 (laws_FnGathers.l0 kq t736 t739 t742 x7_2 = some r) ∧ Aside0 (kq ≤ kj7) ∧ Aside0 (Kd.S k40 40 w' w.heap.size (fun k_=>some k_ ≠ (v740 : Value).ownBlock ∧ some k_ ≠ (v743 : Value).ownBlock) (.slice Ao13 t736.length co13) t736) ∧ Aside0 (Kd.S k40 40 w' w.heap.size (fun k_=>some k_ ≠ ((.slice Ao13 t736.length co13) : Value).ownBlock ∧ some k_ ≠ (v743 : Value).ownBlock) v740 t739) ∧ Aside0 (Kd.S k40 40 w' w.heap.size (fun k_=>some k_ ≠ ((.slice Ao13 t736.length co13) : Value).ownBlock ∧ some k_ ≠ (v740 : Value).ownBlock) v743 t742) ∧ Aside0 (Below w.heap.size w w'));case atStart=>exact ⟨(0),(by first | rfl | (simp;done) | (simp [*];done)),H',⟨Nat.le_refl _⟩,⟨ss HO_4⟩,⟨ss HO_5⟩,⟨ss HO_6⟩,⟨hs HB⟩⟩
   case round =>
    clear H'
    try clear c1
    try clear p2
    try clear c3
    try clear c5
    try clear c7
    try clear c13
    try clear c15
    try clear c15b0
    try clear c15b1
    try clear c15b2
    try clear c16
    try clear c17
    try clear c18
    try clear c19
    try clear p2
    obtain ⟨x7_2,rfl,HA,HK2,HO_4,HO_5,HO_6,HB⟩:=hrel;cases gk with
    | zero=>exact absurd HA.out (by simp [laws_FnGathers.l0])
    | succ k2 =>
     have H:=HA.out;clear HA;simp only [laws_FnGathers.l0] at H
     by_cases c20 : x7_2 < (t736.length : Int)
     ·rw [if_pos c20] at H;have c20b0 : decide (x7_2 < (t736.length : Int)) = true:=decide_eq_true c20;clear c20
      by_cases c21 : 0 ≤ x7_2
      ·rw [if_pos c21] at H;have c21b0 : decide (0 ≤ x7_2) = true:=decide_eq_true c21;clear c21
       by_cases c22 : x7_2 < (t739.length : Int)
       ·rw [if_pos c22] at H;have c22b0 : decide (x7_2 < (t739.length : Int)) = true:=decide_eq_true c22;clear c22
        by_cases c23 : ((rd_T40 t736 x7_2).f0) = ((rd_T40 t739 x7_2).f0)
        ·rw [if_pos c23] at H;have c23b0 : (((rd_T40 t736 x7_2).f0) == ((rd_T40 t739 x7_2).f0)) = true:=beq_iff_eq.mpr c23;have c23b1 : (((rd_T40 t736 x7_2).f0) != ((rd_T40 t739 x7_2).f0)) = false:=bne_eq_false_iff_eq.mpr c23;clear c23;replace H:=Option.bind_eq_some_iff.mp H;obtain ⟨t749,A240,H⟩:=H;replace H : (if t749 = true then (if x7_2 > 0 then (if 0 ≤ (wrap64 (x7_2 - 1)) then (if (wrap64 (x7_2 - 1)) < (t736.length : Int) then (if ((rd_T40 t736 (wrap64 (x7_2 - 1))).f0) ≥ ((rd_T40 t736 x7_2).f0) then (some false) else (laws_FnGathers.l0 k2 t736 t739 t742 (wrap64 (x7_2 + 1)))) else (none)) else (none)) else (laws_FnGathers.l0 k2 t736 t739 t742 (wrap64 (x7_2 + 1)))) else (some false)) = some r:=H;have A24:=zMk A240;clear A240
         by_cases c25 : t749 = true
         ·subst c25;have H1 : (if x7_2 > 0 then (if 0 ≤ (wrap64 (x7_2 - 1)) then (if (wrap64 (x7_2 - 1)) < (t736.length : Int) then (if ((rd_T40 t736 (wrap64 (x7_2 - 1))).f0) ≥ ((rd_T40 t736 x7_2).f0) then (some false) else (laws_FnGathers.l0 k2 t736 t739 t742 (wrap64 (x7_2 + 1)))) else (none)) else (none)) else (laws_FnGathers.l0 k2 t736 t739 t742 (wrap64 (x7_2 + 1)))) = some r:=by rw [if_pos rfl] at H;exact H
          clear H;have H:=H1;clear H1
          by_cases c26 : x7_2 > 0
          ·rw [if_pos c26] at H;have c26b0 : decide (0 < x7_2) = true:=decide_eq_true c26;clear c26;obtain ⟨ji27,hji27⟩ : ∃ j_ : Int,(wrap64 (x7_2 - 1)) = j_:=⟨_,rfl⟩;replace H : (if 0 ≤ (ji27) then (if (ji27) < (t736.length : Int) then (if ((rd_T40 t736 (ji27)).f0) ≥ ((rd_T40 t736 x7_2).f0) then (some false) else (laws_FnGathers.l0 k2 t736 t739 t742 (wrap64 (x7_2 + 1)))) else (none)) else (none)) = some r:=by first | (rw [hji27] at H;exact H) | (simp only [hji27] at H ⊢;exact H)
           (try rw [hji27] at A24)
           have hji27w : (IntKind.i64.wrap (x7_2 - 1)) = ji27:=(i64_w _).trans hji27
           by_cases c28 : 0 ≤ (ji27)
           ·rw [if_pos c28] at H;have c28b0 : decide (0 ≤ (ji27)) = true:=decide_eq_true c28;clear c28
            by_cases c29 : (ji27) < (t736.length : Int)
            ·rw [if_pos c29] at H;have c29b0 : decide ((ji27) < (t736.length : Int)) = true:=decide_eq_true c29;clear c29
             by_cases c30 : ((rd_T40 t736 (ji27)).f0) ≥ ((rd_T40 t736 x7_2).f0)
             ·rw [if_pos c30] at H;have c30b0 : decide (((rd_T40 t736 x7_2).f0) ≤ ((rd_T40 t736 (ji27)).f0)) = true:=decide_eq_true c30;clear c30;exact absurd ((Option.some.inj H).trans hT.out) (by decide)
             rw [if_neg c30] at H;have c30b0 : decide (((rd_T40 t736 x7_2).f0) ≤ ((rd_T40 t736 (ji27)).f0)) = false:=decide_eq_false c30;clear c30;have H':=zMk H;clear H
             try go_wp2
             have n0_:=zMk (Kd.S_drew HO_4.out);have n1_:=zMk (Kd.S_drew HO_5.out);have n2_:=zMk (Kd.S_drew HO_6.out);have n3_:=zMk (below_drew1 HB.out);clear HO_4;clear HO_5;clear HO_6;clear HB;have HO_4:=n0_;have HO_5:=n1_;have HO_6:=n2_;have HB:=n3_;clear n0_ n1_ n2_ n3_;have p745 : 0 ≤ (x7_2 : Int):=zDe (by first | (with_reducible assumption) | assumption);have q745 : x7_2 < (t736.length : Int):=zDe (by first | (with_reducible assumption) | assumption);obtain ⟨ad745,A745_2,c745_2,e745,hx745_0,hx745_1,hx745_2,hl745_2,hi745_2⟩:=at_T40 (Kd.S_reads' HO_4.out).2.2 x7_2 p745 q745;cases e745;obtain ⟨ce745,hce745,hMe745,hcc745⟩:=Kd.S_get HO_4.out z40 x7_2 p745 (by first | exact q745 | exact zDe (by first | (with_reducible assumption) | assumption) | (have e_:=(Kd.S_reads' HO_4.out).1;omega));obtain ⟨ve745_2,rfl,ge745_2⟩:=k40_openM hMe745;have hv745_2:=hcc745 2 _ rfl;rw [add_field _ _ 2 (by omega)] at hv745_2;replace hv745_2:=Option.some.inj (hv745_2.symm.trans hx745_2);rw [hv745_2] at ge745_2;have HL745_2:=zMk (show Kd.R k45 45 _ _ _ _ ((rd_T40 t736 x7_2).f2) from ge745_2);clear hv745_2 ge745_2;clear hcc745 hce745;have HR745_2:=zMk hi745_2;have HC745_2:=zMk hl745_2;clear hi745_2 hl745_2;replace p745:=eq_true p745;replace q745:=eq_true q745;obtain ⟨Ao32,co32,eo32⟩:=Kd.S_slice HO_5.out
             (first | subst eo32 | (injection eo32 with f1_ f2_ f3_;have f4_:=f1_.symm;have f5_:=f3_.symm;clear f1_ f2_ f3_;subst f4_;subst f5_))
             have p746 : 0 ≤ (x7_2 : Int):=zDe (by first | (with_reducible assumption) | assumption);have q746 : x7_2 < (t739.length : Int):=zDe (by first | (with_reducible assumption) | assumption);obtain ⟨ad746,A746_2,c746_2,e746,hx746_0,hx746_1,hx746_2,hl746_2,hi746_2⟩:=at_T40 (Kd.S_reads' HO_5.out).2.2 x7_2 p746 q746;cases e746;obtain ⟨ce746,hce746,hMe746,hcc746⟩:=Kd.S_get HO_5.out z40 x7_2 p746 (by first | exact q746 | exact zDe (by first | (with_reducible assumption) | assumption) | (have e_:=(Kd.S_reads' HO_5.out).1;omega));obtain ⟨ve746_2,rfl,ge746_2⟩:=k40_openM hMe746;have hv746_2:=hcc746 2 _ rfl;rw [add_field _ _ 2 (by omega)] at hv746_2;replace hv746_2:=Option.some.inj (hv746_2.symm.trans hx746_2);rw [hv746_2] at ge746_2;have HL746_2:=zMk (show Kd.R k45 45 _ _ _ _ ((rd_T40 t739 x7_2).f2) from ge746_2);clear hv746_2 ge746_2;clear hcc746 hce746;have HR746_2:=zMk hi746_2;have HC746_2:=zMk hl746_2;clear hi746_2 hl746_2;replace p746:=eq_true p746;replace q746:=eq_true q746;have p747 : 0 ≤ (x7_2 : Int):=zDe (by first | (with_reducible assumption) | assumption);have q747 : x7_2 < (t736.length : Int):=zDe (by first | (with_reducible assumption) | assumption);obtain ⟨ad747,A747_2,c747_2,e747,hx747_0,hx747_1,hx747_2,hl747_2,hi747_2⟩:=at_T40 (Kd.S_reads' HO_4.out).2.2 x7_2 p747 q747;obtain rfl : ad745 = ad747:=(by injection e747);obtain ⟨ce747,hce747,hMe747,hcc747⟩:=Kd.S_get HO_4.out z40 x7_2 p747 (by first | exact q747 | exact zDe (by first | (with_reducible assumption) | assumption) | (have e_:=(Kd.S_reads' HO_4.out).1;omega));obtain ⟨ve747_2,rfl,ge747_2⟩:=k40_openM hMe747;have hv747_2:=hcc747 2 _ rfl;rw [add_field _ _ 2 (by omega)] at hv747_2;replace hv747_2:=Option.some.inj (hv747_2.symm.trans hx747_2);rw [hv747_2] at ge747_2;have HL747_2:=zMk (show Kd.R k45 45 _ _ _ _ ((rd_T40 t736 x7_2).f2) from ge747_2);clear hv747_2 ge747_2;clear hcc747 hce747;have HR747_2:=zMk hi747_2;have HC747_2:=zMk hl747_2;clear hi747_2 hl747_2;replace p747:=eq_true p747;replace q747:=eq_true q747;have ea_:=Option.some.inj (hx745_2.symm.trans hx747_2);injection ea_ with ea_ en_ ec_;subst ea_;subst ec_;clear en_;have p748 : 0 ≤ (x7_2 : Int):=zDe (by first | (with_reducible assumption) | assumption);have q748 : x7_2 < (t739.length : Int):=zDe (by first | (with_reducible assumption) | assumption);obtain ⟨ad748,A748_2,c748_2,e748,hx748_0,hx748_1,hx748_2,hl748_2,hi748_2⟩:=at_T40 (Kd.S_reads' HO_5.out).2.2 x7_2 p748 q748;obtain rfl : ad746 = ad748:=(by injection e748);obtain ⟨ce748,hce748,hMe748,hcc748⟩:=Kd.S_get HO_5.out z40 x7_2 p748 (by first | exact q748 | exact zDe (by first | (with_reducible assumption) | assumption) | (have e_:=(Kd.S_reads' HO_5.out).1;omega));obtain ⟨ve748_2,rfl,ge748_2⟩:=k40_openM hMe748;have hv748_2:=hcc748 2 _ rfl;rw [add_field _ _ 2 (by omega)] at hv748_2;replace hv748_2:=Option.some.inj (hv748_2.symm.trans hx748_2);rw [hv748_2] at ge748_2;have HL748_2:=zMk (show Kd.R k45 45 _ _ _ _ ((rd_T40 t739 x7_2).f2) from ge748_2);clear hv748_2 ge748_2;clear hcc748 hce748;have HR748_2:=zMk hi748_2;have HC748_2:=zMk hl748_2;clear hi748_2 hl748_2;replace p748:=eq_true p748;replace q748:=eq_true q748;have ea_:=Option.some.inj (hx746_2.symm.trans hx748_2);injection ea_ with ea_ en_ ec_;subst ea_;subst ec_;clear en_;have p750 : 0 ≤ ((ji27) : Int):=zDe (by first | (with_reducible assumption) | assumption);have q750 : (ji27) < (t736.length : Int):=zDe (by first | (with_reducible assumption) | assumption);obtain ⟨ad750,A750_2,c750_2,e750,hx750_0,hx750_1,hx750_2,hl750_2,hi750_2⟩:=at_T40 (Kd.S_reads' HO_4.out).2.2 (ji27) p750 q750;obtain rfl : ad745 = ad750:=(by injection e750);obtain ⟨ce750,hce750,hMe750,hcc750⟩:=Kd.S_get HO_4.out z40 (ji27) p750 (by first | exact q750 | exact zDe (by first | (with_reducible assumption) | assumption) | (have e_:=(Kd.S_reads' HO_4.out).1;omega));obtain ⟨ve750_2,rfl,ge750_2⟩:=k40_openM hMe750;have hv750_2:=hcc750 2 _ rfl;rw [add_field _ _ 2 (by omega)] at hv750_2;replace hv750_2:=Option.some.inj (hv750_2.symm.trans hx750_2);rw [hv750_2] at ge750_2;have HL750_2:=zMk (show Kd.R k45 45 _ _ _ _ ((rd_T40 t736 (ji27)).f2) from ge750_2);clear hv750_2 ge750_2;clear hcc750 hce750;have HR750_2:=zMk hi750_2;have HC750_2:=zMk hl750_2;clear hi750_2 hl750_2;replace p750:=eq_true p750;replace q750:=eq_true q750;have p751 : 0 ≤ (x7_2 : Int):=zDe (by first | (with_reducible assumption) | assumption);have q751 : x7_2 < (t736.length : Int):=zDe (by first | (with_reducible assumption) | assumption);obtain ⟨ad751,A751_2,c751_2,e751,hx751_0,hx751_1,hx751_2,hl751_2,hi751_2⟩:=at_T40 (Kd.S_reads' HO_4.out).2.2 x7_2 p751 q751;obtain rfl : ad745 = ad751:=(by injection e751);obtain ⟨ce751,hce751,hMe751,hcc751⟩:=Kd.S_get HO_4.out z40 x7_2 p751 (by first | exact q751 | exact zDe (by first | (with_reducible assumption) | assumption) | (have e_:=(Kd.S_reads' HO_4.out).1;omega));obtain ⟨ve751_2,rfl,ge751_2⟩:=k40_openM hMe751;have hv751_2:=hcc751 2 _ rfl;rw [add_field _ _ 2 (by omega)] at hv751_2;replace hv751_2:=Option.some.inj (hv751_2.symm.trans hx751_2);rw [hv751_2] at ge751_2;have HL751_2:=zMk (show Kd.R k45 45 _ _ _ _ ((rd_T40 t736 x7_2).f2) from ge751_2);clear hv751_2 ge751_2;clear hcc751 hce751;have HR751_2:=zMk hi751_2;have HC751_2:=zMk hl751_2;clear hi751_2 hl751_2;replace p751:=eq_true p751;replace q751:=eq_true q751;have ea_:=Option.some.inj (hx745_2.symm.trans hx751_2);injection ea_ with ea_ en_ ec_;subst ea_;subst ec_;clear en_;refine start_ (n:=43) (S:=fun w'=>w'.cell? (ad745.add ((x7_2).toNat * 3)) = some (.int .i64 ((rd_T40 t736 x7_2).f0)) ∧ w'.cell? ⟨(ad745.add ((x7_2).toNat * 3)).block,(ad745.add ((x7_2).toNat * 3)).off + 1,none⟩ = some (.int .i64 ((rd_T40 t736 x7_2).f1)) ∧ w'.cell? ⟨(ad745.add ((x7_2).toNat * 3)).block,(ad745.add ((x7_2).toNat * 3)).off + 2,none⟩ = some (.slice A745_2 ((rd_T40 t736 x7_2).f2).length c745_2) ∧ w'.cell? (ad746.add ((x7_2).toNat * 3)) = some (.int .i64 ((rd_T40 t739 x7_2).f0)) ∧ w'.cell? ⟨(ad746.add ((x7_2).toNat * 3)).block,(ad746.add ((x7_2).toNat * 3)).off + 1,none⟩ = some (.int .i64 ((rd_T40 t739 x7_2).f1)) ∧ w'.cell? ⟨(ad746.add ((x7_2).toNat * 3)).block,(ad746.add ((x7_2).toNat * 3)).off + 2,none⟩ = some (.slice A746_2 ((rd_T40 t739 x7_2).f2).length c746_2) ∧ w'.cell? (ad745.add ((x7_2).toNat * 3)) = some (.int .i64 ((rd_T40 t736 x7_2).f0)) ∧ w'.cell? ⟨(ad745.add ((x7_2).toNat * 3)).block,(ad745.add ((x7_2).toNat * 3)).off + 1,none⟩ = some (.int .i64 ((rd_T40 t736 x7_2).f1)) ∧ w'.cell? ⟨(ad745.add ((x7_2).toNat * 3)).block,(ad745.add ((x7_2).toNat * 3)).off + 2,none⟩ = some (.slice A745_2 ((rd_T40 t736 x7_2).f2).length c745_2) ∧ w'.cell? (ad746.add ((x7_2).toNat * 3)) = some (.int .i64 ((rd_T40 t739 x7_2).f0)) ∧ w'.cell? ⟨(ad746.add ((x7_2).toNat * 3)).block,(ad746.add ((x7_2).toNat * 3)).off + 1,none⟩ = some (.int .i64 ((rd_T40 t739 x7_2).f1)) ∧ w'.cell? ⟨(ad746.add ((x7_2).toNat * 3)).block,(ad746.add ((x7_2).toNat * 3)).off + 2,none⟩ = some (.slice A746_2 ((rd_T40 t739 x7_2).f2).length c746_2) ∧ w'.cell? (ad745.add (((ji27)).toNat * 3)) = some (.int .i64 ((rd_T40 t736 (ji27)).f0)) ∧ w'.cell? ⟨(ad745.add (((ji27)).toNat * 3)).block,(ad745.add (((ji27)).toNat * 3)).off + 1,none⟩ = some (.int .i64 ((rd_T40 t736 (ji27)).f1)) ∧ w'.cell? ⟨(ad745.add (((ji27)).toNat * 3)).block,(ad745.add (((ji27)).toNat * 3)).off + 2,none⟩ = some (.slice A750_2 ((rd_T40 t736 (ji27)).f2).length c750_2) ∧ w'.cell? (ad745.add ((x7_2).toNat * 3)) = some (.int .i64 ((rd_T40 t736 x7_2).f0)) ∧ w'.cell? ⟨(ad745.add ((x7_2).toNat * 3)).block,(ad745.add ((x7_2).toNat * 3)).off + 1,none⟩ = some (.int .i64 ((rd_T40 t736 x7_2).f1)) ∧ w'.cell? ⟨(ad745.add ((x7_2).toNat * 3)).block,(ad745.add ((x7_2).toNat * 3)).off + 2,none⟩ = some (.slice A745_2 ((rd_T40 t736 x7_2).f2).length c745_2)) (ds:=[]) (zA 43 0) (by kernel_rfl) rfl rfl ⟨hx745_0,hx745_1,hx745_2,hx746_0,hx746_1,hx746_2,hx747_0,hx747_1,hx747_2,hx748_0,hx748_1,hx748_2,hx750_0,hx750_1,hx750_2,hx751_0,hx751_1,hx751_2⟩ (fun hHeld=>?_);refine with_tabW laws_FnGathers.tab12 laws_FnGathers.bits12 (fun HT_ HW_=>?_);generalize wr.drew = w31 at HO_4 HO_5 HO_6 HB HL745_2 HL746_2 HL747_2 HL748_2 HL750_2 HL751_2 HR745_2 HR746_2 HR747_2 HR748_2 HR750_2 HR751_2 hx745_0 hx745_1 hx745_2 hx746_0 hx746_1 hx746_2 hx747_0 hx747_1 hx747_2 hx748_0 hx748_1 hx748_2 hx750_0 hx750_1 hx750_2 hx751_0 hx751_1 hx751_2 hHeld ⊢;refine zP 0 38 (zA 43 1) (any_of HT_.out (by kernel_rfl)) ?_;refine zP 1 39 (zA 43 3) (any_of HT_.out (by kernel_rfl)) ?_;refine zP 2 40 (zA 43 7) (any_of HT_.out (by kernel_rfl)) ?_;refine zP 3 41 (zA 43 15) (any_of HT_.out (by kernel_rfl)) ?_;refine zP 5 43 (zA 43 47) (any_of HT_.out (by kernel_rfl)) ?_;refine zP 6 44 (zA 43 111) (any_of HT_.out (by kernel_rfl)) ?_;refine zP 7 45 (zA 43 239) (any_of HT_.out (by kernel_rfl)) ?_;refine zP 8 46 (zA 43 495) (any_of HT_.out (by kernel_rfl)) ?_;refine zT 4 42 (zA 43 511) (take_ofW HT_.out HW_.out (by kernel_rfl)) hHeld ?_;refine zT 9 47 (zA 43 1023) (take_ofW HT_.out HW_.out (by kernel_rfl)) hHeld ?_;refine zP 10 48 (zA 43 2047) (any_of HT_.out (by kernel_rfl)) ?_;refine zP 11 49 (zA 43 4095) (any_of HT_.out (by kernel_rfl)) ?_;refine zP 12 50 (zA 43 8191) (any_of HT_.out (by kernel_rfl)) ?_;refine zP 13 51 (zA 43 16383) (any_of HT_.out (by kernel_rfl)) ?_;refine zP 14 52 (zA 43 32767) (any_of HT_.out (by kernel_rfl)) ?_;refine zP 15 53 (zA 43 65535) (any_of HT_.out (by kernel_rfl)) ?_;refine zP 17 55 (zA 43 196607) (any_of HT_.out (by kernel_rfl)) ?_;refine zP 18 56 (zA 43 458751) (any_of HT_.out (by kernel_rfl)) ?_;refine zP 19 57 (zA 43 983039) (any_of HT_.out (by kernel_rfl)) ?_;refine zP 20 58 (zA 43 2031615) (any_of HT_.out (by kernel_rfl)) ?_;refine zT 16 54 (zA 43 2097151) (take_ofW HT_.out HW_.out (by kernel_rfl)) hHeld ?_;refine zT 21 59 (zA 43 4194303) (take_ofW HT_.out HW_.out (by kernel_rfl)) hHeld ?_;refine one_ (i:=22) (N:=some 60) (zA 43 8388607) rfl rfl (one_of HT_.out (by kernel_rfl)) (by decide) (fun K hK=>?_);refine goes_ Try.func14 (by kernel_rfl) rfl #[.slice A745_2 ((rd_T40 t736 x7_2).f2).length c745_2,.slice A746_2 ((rd_T40 t739 x7_2).f2).length c746_2] (by rfl) rfl rfl (by (try simp only [List.map_toArray,List.map_cons,List.map_nil]);first | done | rfl | (simp only [List.length_drop,List.length_take];rfl)) ?_;with_reducible refine (laws_sameRecs.calls k2 _ _ ((rd_T40 t736 x7_2).f2) _ _ ((rd_T40 t739 x7_2).f2) true _ ?side1 ?side2 ?side3 ?side4 A24.out).mono ?_
             (case side1=>repeat (first | exact (by repeat (first | (with_reducible exact HR747_2.out) | (with_reducible refine Kd.C_alloc ?_ _) | (with_reducible refine Kd.C_drewN ?_ _) | (with_reducible refine Kd.C_drew ?_) | exact HR747_2.out)) | (with_reducible refine Kd.C_alloc ?_ _) | (with_reducible refine Kd.C_drewN ?_ _) | (with_reducible refine Kd.C_drew ?_)))
             (case side2=>exact HC747_2.out)
             (case side3=>repeat (first | exact (by repeat (first | (with_reducible exact HR748_2.out) | (with_reducible refine Kd.C_alloc ?_ _) | (with_reducible refine Kd.C_drewN ?_ _) | (with_reducible refine Kd.C_drew ?_) | exact HR748_2.out)) | (with_reducible refine Kd.C_alloc ?_ _) | (with_reducible refine Kd.C_drewN ?_ _) | (with_reducible refine Kd.C_drew ?_)))
             (case side4=>exact HC748_2.out)
             rintro e w' ⟨rfl,⟨nd,rfl⟩⟩;refine ⟨_,rfl,?_⟩;refine hK.out _ _ ⟨hHeld.1,hHeld.2.1,hHeld.2.2.1,hHeld.2.2.2.1,hHeld.2.2.2.2.1,hHeld.2.2.2.2.2.1,hHeld.2.2.2.2.2.2.1,hHeld.2.2.2.2.2.2.2.1,hHeld.2.2.2.2.2.2.2.2.1,hHeld.2.2.2.2.2.2.2.2.2.1,hHeld.2.2.2.2.2.2.2.2.2.2.1,hHeld.2.2.2.2.2.2.2.2.2.2.2.1,hHeld.2.2.2.2.2.2.2.2.2.2.2.2.1,hHeld.2.2.2.2.2.2.2.2.2.2.2.2.2.1,hHeld.2.2.2.2.2.2.2.2.2.2.2.2.2.2.1,hHeld.2.2.2.2.2.2.2.2.2.2.2.2.2.2.2.1,hHeld.2.2.2.2.2.2.2.2.2.2.2.2.2.2.2.2.1,hHeld.2.2.2.2.2.2.2.2.2.2.2.2.2.2.2.2.2⟩ (fun hHeld=>?_);clear hK K;refine norm_ (a':=?_) ?_ ?_;rotate_left
             ·show Act.put _ (some 60) _ = _;simp only [Act.put,zS1,zS2,zS3,i64_w,i32_w];rfl
             refine zP 23 61 (zA 43 16777215) (any_of HT_.out (by kernel_rfl)) ?_;refine zP 24 62 (zA 43 33554431) (any_of HT_.out (by kernel_rfl)) ?_;refine zP 25 63 (zA 43 67108863) (any_of HT_.out (by kernel_rfl)) ?_;refine zP 26 64 (zA 43 134217727) (any_of HT_.out (by kernel_rfl)) ?_;refine zP 27 65 (zA 43 268435455) (any_of HT_.out (by kernel_rfl)) ?_;refine zP 28 66 (zA 43 536870911) (any_of HT_.out (by kernel_rfl)) ?_;refine zP 29 67 (zA 43 1073741823) (any_of HT_.out (by kernel_rfl)) ?_;refine zP 30 68 (zA 43 2147483647) (any_of HT_.out (by kernel_rfl)) ?_;refine zP 31 69 (zA 43 4294967295) (any_of HT_.out (by kernel_rfl)) ?_;refine zP 32 70 (zA 43 8589934591) (any_of HT_.out (by kernel_rfl)) ?_;refine zP 33 71 (zA 43 17179869183) (any_of HT_.out (by kernel_rfl)) ?_;refine zP 35 73 (zA 43 51539607551) (any_of HT_.out (by kernel_rfl)) ?_;refine zP 36 74 (zA 43 120259084287) (any_of HT_.out (by kernel_rfl)) ?_;refine zP 37 75 (zA 43 257698037759) (any_of HT_.out (by kernel_rfl)) ?_;refine zP 38 76 (zA 43 532575944703) (any_of HT_.out (by kernel_rfl)) ?_;refine zT 34 72 (zA 43 549755813887) (take_ofW HT_.out HW_.out (by kernel_rfl)) hHeld ?_;refine zT 39 77 (zA 43 1099511627775) (take_ofW HT_.out HW_.out (by kernel_rfl)) hHeld ?_;refine zP 40 78 (zA 43 2199023255551) (any_of HT_.out (by kernel_rfl)) ?_;refine zP 41 79 (zA 43 4398046511103) (any_of HT_.out (by kernel_rfl)) ?_;refine zP 42 80 (zA 43 8796093022207) (any_of HT_.out (by kernel_rfl)) ?_;refine done_ (done_of HT_.out (by kernel_rfl)) ?_
             try go_wp2
             go_roundg k2;case measure=>have:=HJ7.out;have:=HK2.out;omega
             case rel=>exact ⟨(wrap64 (x7_2 + 1)),(by first | rfl | (simp;done) | (simp [*];done)),H',⟨by have:=HJ7.out;have:=HK2.out;omega⟩,⟨ss HO_4⟩,⟨ss HO_5⟩,⟨ss HO_6⟩,⟨hs HB⟩⟩
            rw [if_neg c29] at H;exact absurd H (by simp)
           rw [if_neg c28] at H;exact absurd H (by simp)
          rw [if_neg c26] at H;have c26b0 : decide (0 < x7_2) = false:=decide_eq_false c26;clear c26;have H':=zMk H;clear H
          try go_wp2
          have n0_:=zMk (Kd.S_drew HO_4.out);have n1_:=zMk (Kd.S_drew HO_5.out);have n2_:=zMk (Kd.S_drew HO_6.out);have n3_:=zMk (below_drew1 HB.out);clear HO_4;clear HO_5;clear HO_6;clear HB;have HO_4:=n0_;have HO_5:=n1_;have HO_6:=n2_;have HB:=n3_;clear n0_ n1_ n2_ n3_;have p745 : 0 ≤ (x7_2 : Int):=zDe (by first | (with_reducible assumption) | assumption);have q745 : x7_2 < (t736.length : Int):=zDe (by first | (with_reducible assumption) | assumption);obtain ⟨ad745,A745_2,c745_2,e745,hx745_0,hx745_1,hx745_2,hl745_2,hi745_2⟩:=at_T40 (Kd.S_reads' HO_4.out).2.2 x7_2 p745 q745;cases e745;obtain ⟨ce745,hce745,hMe745,hcc745⟩:=Kd.S_get HO_4.out z40 x7_2 p745 (by first | exact q745 | exact zDe (by first | (with_reducible assumption) | assumption) | (have e_:=(Kd.S_reads' HO_4.out).1;omega));obtain ⟨ve745_2,rfl,ge745_2⟩:=k40_openM hMe745;have hv745_2:=hcc745 2 _ rfl;rw [add_field _ _ 2 (by omega)] at hv745_2;replace hv745_2:=Option.some.inj (hv745_2.symm.trans hx745_2);rw [hv745_2] at ge745_2;have HL745_2:=zMk (show Kd.R k45 45 _ _ _ _ ((rd_T40 t736 x7_2).f2) from ge745_2);clear hv745_2 ge745_2;clear hcc745 hce745;have HR745_2:=zMk hi745_2;have HC745_2:=zMk hl745_2;clear hi745_2 hl745_2;replace p745:=eq_true p745;replace q745:=eq_true q745;obtain ⟨Ao34,co34,eo34⟩:=Kd.S_slice HO_5.out
          (first | subst eo34 | (injection eo34 with f1_ f2_ f3_;have f4_:=f1_.symm;have f5_:=f3_.symm;clear f1_ f2_ f3_;subst f4_;subst f5_))
          have p746 : 0 ≤ (x7_2 : Int):=zDe (by first | (with_reducible assumption) | assumption);have q746 : x7_2 < (t739.length : Int):=zDe (by first | (with_reducible assumption) | assumption);obtain ⟨ad746,A746_2,c746_2,e746,hx746_0,hx746_1,hx746_2,hl746_2,hi746_2⟩:=at_T40 (Kd.S_reads' HO_5.out).2.2 x7_2 p746 q746;cases e746;obtain ⟨ce746,hce746,hMe746,hcc746⟩:=Kd.S_get HO_5.out z40 x7_2 p746 (by first | exact q746 | exact zDe (by first | (with_reducible assumption) | assumption) | (have e_:=(Kd.S_reads' HO_5.out).1;omega));obtain ⟨ve746_2,rfl,ge746_2⟩:=k40_openM hMe746;have hv746_2:=hcc746 2 _ rfl;rw [add_field _ _ 2 (by omega)] at hv746_2;replace hv746_2:=Option.some.inj (hv746_2.symm.trans hx746_2);rw [hv746_2] at ge746_2;have HL746_2:=zMk (show Kd.R k45 45 _ _ _ _ ((rd_T40 t739 x7_2).f2) from ge746_2);clear hv746_2 ge746_2;clear hcc746 hce746;have HR746_2:=zMk hi746_2;have HC746_2:=zMk hl746_2;clear hi746_2 hl746_2;replace p746:=eq_true p746;replace q746:=eq_true q746;have p747 : 0 ≤ (x7_2 : Int):=zDe (by first | (with_reducible assumption) | assumption);have q747 : x7_2 < (t736.length : Int):=zDe (by first | (with_reducible assumption) | assumption);obtain ⟨ad747,A747_2,c747_2,e747,hx747_0,hx747_1,hx747_2,hl747_2,hi747_2⟩:=at_T40 (Kd.S_reads' HO_4.out).2.2 x7_2 p747 q747;obtain rfl : ad745 = ad747:=(by injection e747);obtain ⟨ce747,hce747,hMe747,hcc747⟩:=Kd.S_get HO_4.out z40 x7_2 p747 (by first | exact q747 | exact zDe (by first | (with_reducible assumption) | assumption) | (have e_:=(Kd.S_reads' HO_4.out).1;omega));obtain ⟨ve747_2,rfl,ge747_2⟩:=k40_openM hMe747;have hv747_2:=hcc747 2 _ rfl;rw [add_field _ _ 2 (by omega)] at hv747_2;replace hv747_2:=Option.some.inj (hv747_2.symm.trans hx747_2);rw [hv747_2] at ge747_2;have HL747_2:=zMk (show Kd.R k45 45 _ _ _ _ ((rd_T40 t736 x7_2).f2) from ge747_2);clear hv747_2 ge747_2;clear hcc747 hce747;have HR747_2:=zMk hi747_2;have HC747_2:=zMk hl747_2;clear hi747_2 hl747_2;replace p747:=eq_true p747;replace q747:=eq_true q747;have ea_:=Option.some.inj (hx745_2.symm.trans hx747_2);injection ea_ with ea_ en_ ec_;subst ea_;subst ec_;clear en_;have p748 : 0 ≤ (x7_2 : Int):=zDe (by first | (with_reducible assumption) | assumption);have q748 : x7_2 < (t739.length : Int):=zDe (by first | (with_reducible assumption) | assumption);obtain ⟨ad748,A748_2,c748_2,e748,hx748_0,hx748_1,hx748_2,hl748_2,hi748_2⟩:=at_T40 (Kd.S_reads' HO_5.out).2.2 x7_2 p748 q748;obtain rfl : ad746 = ad748:=(by injection e748);obtain ⟨ce748,hce748,hMe748,hcc748⟩:=Kd.S_get HO_5.out z40 x7_2 p748 (by first | exact q748 | exact zDe (by first | (with_reducible assumption) | assumption) | (have e_:=(Kd.S_reads' HO_5.out).1;omega));obtain ⟨ve748_2,rfl,ge748_2⟩:=k40_openM hMe748;have hv748_2:=hcc748 2 _ rfl;rw [add_field _ _ 2 (by omega)] at hv748_2;replace hv748_2:=Option.some.inj (hv748_2.symm.trans hx748_2);rw [hv748_2] at ge748_2;have HL748_2:=zMk (show Kd.R k45 45 _ _ _ _ ((rd_T40 t739 x7_2).f2) from ge748_2);clear hv748_2 ge748_2;clear hcc748 hce748;have HR748_2:=zMk hi748_2;have HC748_2:=zMk hl748_2;clear hi748_2 hl748_2;replace p748:=eq_true p748;replace q748:=eq_true q748;have ea_:=Option.some.inj (hx746_2.symm.trans hx748_2);injection ea_ with ea_ en_ ec_;subst ea_;subst ec_;clear en_;refine start_ (n:=43) (S:=fun w'=>w'.cell? (ad745.add ((x7_2).toNat * 3)) = some (.int .i64 ((rd_T40 t736 x7_2).f0)) ∧ w'.cell? ⟨(ad745.add ((x7_2).toNat * 3)).block,(ad745.add ((x7_2).toNat * 3)).off + 1,none⟩ = some (.int .i64 ((rd_T40 t736 x7_2).f1)) ∧ w'.cell? ⟨(ad745.add ((x7_2).toNat * 3)).block,(ad745.add ((x7_2).toNat * 3)).off + 2,none⟩ = some (.slice A745_2 ((rd_T40 t736 x7_2).f2).length c745_2) ∧ w'.cell? (ad746.add ((x7_2).toNat * 3)) = some (.int .i64 ((rd_T40 t739 x7_2).f0)) ∧ w'.cell? ⟨(ad746.add ((x7_2).toNat * 3)).block,(ad746.add ((x7_2).toNat * 3)).off + 1,none⟩ = some (.int .i64 ((rd_T40 t739 x7_2).f1)) ∧ w'.cell? ⟨(ad746.add ((x7_2).toNat * 3)).block,(ad746.add ((x7_2).toNat * 3)).off + 2,none⟩ = some (.slice A746_2 ((rd_T40 t739 x7_2).f2).length c746_2) ∧ w'.cell? (ad745.add ((x7_2).toNat * 3)) = some (.int .i64 ((rd_T40 t736 x7_2).f0)) ∧ w'.cell? ⟨(ad745.add ((x7_2).toNat * 3)).block,(ad745.add ((x7_2).toNat * 3)).off + 1,none⟩ = some (.int .i64 ((rd_T40 t736 x7_2).f1)) ∧ w'.cell? ⟨(ad745.add ((x7_2).toNat * 3)).block,(ad745.add ((x7_2).toNat * 3)).off + 2,none⟩ = some (.slice A745_2 ((rd_T40 t736 x7_2).f2).length c745_2) ∧ w'.cell? (ad746.add ((x7_2).toNat * 3)) = some (.int .i64 ((rd_T40 t739 x7_2).f0)) ∧ w'.cell? ⟨(ad746.add ((x7_2).toNat * 3)).block,(ad746.add ((x7_2).toNat * 3)).off + 1,none⟩ = some (.int .i64 ((rd_T40 t739 x7_2).f1)) ∧ w'.cell? ⟨(ad746.add ((x7_2).toNat * 3)).block,(ad746.add ((x7_2).toNat * 3)).off + 2,none⟩ = some (.slice A746_2 ((rd_T40 t739 x7_2).f2).length c746_2)) (ds:=[]) (zA 43 0) (by kernel_rfl) rfl rfl ⟨hx745_0,hx745_1,hx745_2,hx746_0,hx746_1,hx746_2,hx747_0,hx747_1,hx747_2,hx748_0,hx748_1,hx748_2⟩ (fun hHeld=>?_);refine with_tabW laws_FnGathers.tab12 laws_FnGathers.bits12 (fun HT_ HW_=>?_);generalize wr.drew = w33 at HO_4 HO_5 HO_6 HB HL745_2 HL746_2 HL747_2 HL748_2 HR745_2 HR746_2 HR747_2 HR748_2 hx745_0 hx745_1 hx745_2 hx746_0 hx746_1 hx746_2 hx747_0 hx747_1 hx747_2 hx748_0 hx748_1 hx748_2 hHeld ⊢;refine zP 0 38 (zA 43 1) (any_of HT_.out (by kernel_rfl)) ?_;refine zP 1 39 (zA 43 3) (any_of HT_.out (by kernel_rfl)) ?_;refine zP 2 40 (zA 43 7) (any_of HT_.out (by kernel_rfl)) ?_;refine zP 3 41 (zA 43 15) (any_of HT_.out (by kernel_rfl)) ?_;refine zP 5 43 (zA 43 47) (any_of HT_.out (by kernel_rfl)) ?_;refine zP 6 44 (zA 43 111) (any_of HT_.out (by kernel_rfl)) ?_;refine zP 7 45 (zA 43 239) (any_of HT_.out (by kernel_rfl)) ?_;refine zP 8 46 (zA 43 495) (any_of HT_.out (by kernel_rfl)) ?_;refine zT 4 42 (zA 43 511) (take_ofW HT_.out HW_.out (by kernel_rfl)) hHeld ?_;refine zT 9 47 (zA 43 1023) (take_ofW HT_.out HW_.out (by kernel_rfl)) hHeld ?_;refine zP 10 48 (zA 43 2047) (any_of HT_.out (by kernel_rfl)) ?_;refine zP 11 49 (zA 43 4095) (any_of HT_.out (by kernel_rfl)) ?_;refine zP 12 50 (zA 43 8191) (any_of HT_.out (by kernel_rfl)) ?_;refine zP 13 51 (zA 43 16383) (any_of HT_.out (by kernel_rfl)) ?_;refine zP 14 52 (zA 43 32767) (any_of HT_.out (by kernel_rfl)) ?_;refine zP 15 53 (zA 43 65535) (any_of HT_.out (by kernel_rfl)) ?_;refine zP 17 55 (zA 43 196607) (any_of HT_.out (by kernel_rfl)) ?_;refine zP 18 56 (zA 43 458751) (any_of HT_.out (by kernel_rfl)) ?_;refine zP 19 57 (zA 43 983039) (any_of HT_.out (by kernel_rfl)) ?_;refine zP 20 58 (zA 43 2031615) (any_of HT_.out (by kernel_rfl)) ?_;refine zT 16 54 (zA 43 2097151) (take_ofW HT_.out HW_.out (by kernel_rfl)) hHeld ?_;refine zT 21 59 (zA 43 4194303) (take_ofW HT_.out HW_.out (by kernel_rfl)) hHeld ?_;refine one_ (i:=22) (N:=some 60) (zA 43 8388607) rfl rfl (one_of HT_.out (by kernel_rfl)) (by decide) (fun K hK=>?_);refine goes_ Try.func14 (by kernel_rfl) rfl #[.slice A745_2 ((rd_T40 t736 x7_2).f2).length c745_2,.slice A746_2 ((rd_T40 t739 x7_2).f2).length c746_2] (by rfl) rfl rfl (by (try simp only [List.map_toArray,List.map_cons,List.map_nil]);first | done | rfl | (simp only [List.length_drop,List.length_take];rfl)) ?_;with_reducible refine (laws_sameRecs.calls k2 _ _ ((rd_T40 t736 x7_2).f2) _ _ ((rd_T40 t739 x7_2).f2) true _ ?side1 ?side2 ?side3 ?side4 A24.out).mono ?_
          (case side1=>repeat (first | exact (by repeat (first | (with_reducible exact HR747_2.out) | (with_reducible refine Kd.C_alloc ?_ _) | (with_reducible refine Kd.C_drewN ?_ _) | (with_reducible refine Kd.C_drew ?_) | exact HR747_2.out)) | (with_reducible refine Kd.C_alloc ?_ _) | (with_reducible refine Kd.C_drewN ?_ _) | (with_reducible refine Kd.C_drew ?_)))
          (case side2=>exact HC747_2.out)
          (case side3=>repeat (first | exact (by repeat (first | (with_reducible exact HR748_2.out) | (with_reducible refine Kd.C_alloc ?_ _) | (with_reducible refine Kd.C_drewN ?_ _) | (with_reducible refine Kd.C_drew ?_) | exact HR748_2.out)) | (with_reducible refine Kd.C_alloc ?_ _) | (with_reducible refine Kd.C_drewN ?_ _) | (with_reducible refine Kd.C_drew ?_)))
          (case side4=>exact HC748_2.out)
          rintro e w' ⟨rfl,⟨nd,rfl⟩⟩;refine ⟨_,rfl,?_⟩;refine hK.out _ _ ⟨hHeld.1,hHeld.2.1,hHeld.2.2.1,hHeld.2.2.2.1,hHeld.2.2.2.2.1,hHeld.2.2.2.2.2.1,hHeld.2.2.2.2.2.2.1,hHeld.2.2.2.2.2.2.2.1,hHeld.2.2.2.2.2.2.2.2.1,hHeld.2.2.2.2.2.2.2.2.2.1,hHeld.2.2.2.2.2.2.2.2.2.2.1,hHeld.2.2.2.2.2.2.2.2.2.2.2⟩ (fun hHeld=>?_);clear hK K;refine norm_ (a':=?_) ?_ ?_;rotate_left
          ·show Act.put _ (some 60) _ = _;simp only [Act.put,zS1,zS2,zS3,i64_w,i32_w];rfl
          refine zP 23 61 (zA 43 16777215) (any_of HT_.out (by kernel_rfl)) ?_;refine zP 24 62 (zA 43 33554431) (any_of HT_.out (by kernel_rfl)) ?_;refine zP 25 63 (zA 43 67108863) (any_of HT_.out (by kernel_rfl)) ?_;refine zP 26 64 (zA 43 134217727) (any_of HT_.out (by kernel_rfl)) ?_;refine zP 27 65 (zA 43 268435455) (any_of HT_.out (by kernel_rfl)) ?_;refine zP 28 66 (zA 43 536870911) (any_of HT_.out (by kernel_rfl)) ?_;refine pure_ (i:=29) (N:=some 67) (v:=undef) (a':=?_) #[true,true,true,true,true,true,true,true,true,true,true,true,true,true,true,true,true,true,true,true,true,true,true,true,true,true,true,true,true,true,false,false,false,false,false,false,false,false,false,false,false,false,false] rfl rfl (any_of HT_.out (by kernel_rfl)) (fun _ _ _ h=>h) (Or.inr ⟨by rfl,rfl⟩) ?_ ?_;rotate_left
          ·simp only [Act.put,zS1,zS2,zS3,i64_w,i32_w];rfl
          refine pure_ (i:=30) (N:=some 68) (v:=undef) (a':=?_) #[true,true,true,true,true,true,true,true,true,true,true,true,true,true,true,true,true,true,true,true,true,true,true,true,true,true,true,true,true,true,true,false,false,false,false,false,false,false,false,false,false,false,false] rfl rfl (any_of HT_.out (by kernel_rfl)) (fun _ _ _ h=>h) (Or.inr ⟨by rfl,rfl⟩) ?_ ?_;rotate_left
          ·simp only [Act.put,zS1,zS2,zS3,i64_w,i32_w];rfl
          refine pure_ (i:=31) (N:=some 69) (v:=undef) (a':=?_) #[true,true,true,true,true,true,true,true,true,true,true,true,true,true,true,true,true,true,true,true,true,true,true,true,true,true,true,true,true,true,true,true,false,false,false,false,false,false,false,false,false,false,false] rfl rfl (any_of HT_.out (by kernel_rfl)) (fun _ _ _ h=>h) (Or.inr ⟨by rfl,rfl⟩) ?_ ?_;rotate_left
          ·simp only [Act.put,zS1,zS2,zS3,i64_w,i32_w];rfl
          refine pure_ (i:=32) (N:=some 70) (v:=undef) (a':=?_) #[true,true,true,true,true,true,true,true,true,true,true,true,true,true,true,true,true,true,true,true,true,true,true,true,true,true,true,true,true,true,true,true,true,false,false,false,false,false,false,false,false,false,false] rfl rfl (any_of HT_.out (by kernel_rfl)) (fun _ _ _ h=>h) (Or.inr ⟨by rfl,rfl⟩) ?_ ?_;rotate_left
          ·simp only [Act.put,zS1,zS2,zS3,i64_w,i32_w];rfl
          refine pure_ (i:=33) (N:=some 71) (v:=undef) (a':=?_) #[true,true,true,true,true,true,true,true,true,true,true,true,true,true,true,true,true,true,true,true,true,true,true,true,true,true,true,true,true,true,true,true,true,true,false,false,false,false,false,false,false,false,false] rfl rfl (any_of HT_.out (by kernel_rfl)) (fun _ _ _ h=>h) (Or.inr ⟨by rfl,rfl⟩) ?_ ?_;rotate_left
          ·simp only [Act.put,zS1,zS2,zS3,i64_w,i32_w];rfl
          refine pure_ (i:=34) (N:=some 72) (v:=undef) (a':=?_) #[true,true,true,true,true,true,true,true,true,true,true,true,true,true,true,true,true,true,true,true,true,true,true,true,true,true,true,true,true,true,true,true,true,true,true,false,false,false,false,false,false,false,false] rfl rfl (any_of HT_.out (by kernel_rfl)) (fun _ _ _ h=>h) (Or.inr ⟨by rfl,rfl⟩) ?_ ?_;rotate_left
          ·simp only [Act.put,zS1,zS2,zS3,i64_w,i32_w];rfl
          refine pure_ (i:=35) (N:=some 73) (v:=undef) (a':=?_) #[true,true,true,true,true,true,true,true,true,true,true,true,true,true,true,true,true,true,true,true,true,true,true,true,true,true,true,true,true,true,true,true,true,true,true,true,false,false,false,false,false,false,false] rfl rfl (any_of HT_.out (by kernel_rfl)) (fun _ _ _ h=>h) (Or.inr ⟨by rfl,rfl⟩) ?_ ?_;rotate_left
          ·simp only [Act.put,zS1,zS2,zS3,i64_w,i32_w];rfl
          refine pure_ (i:=36) (N:=some 74) (v:=undef) (a':=?_) #[true,true,true,true,true,true,true,true,true,true,true,true,true,true,true,true,true,true,true,true,true,true,true,true,true,true,true,true,true,true,true,true,true,true,true,true,true,false,false,false,false,false,false] rfl rfl (any_of HT_.out (by kernel_rfl)) (fun _ _ _ h=>h) (Or.inr ⟨by rfl,rfl⟩) ?_ ?_;rotate_left
          ·simp only [Act.put,zS1,zS2,zS3,i64_w,i32_w];rfl
          refine pure_ (i:=37) (N:=some 75) (v:=undef) (a':=?_) #[true,true,true,true,true,true,true,true,true,true,true,true,true,true,true,true,true,true,true,true,true,true,true,true,true,true,true,true,true,true,true,true,true,true,true,true,true,true,false,false,false,false,false] rfl rfl (any_of HT_.out (by kernel_rfl)) (fun _ _ _ h=>h) (Or.inr ⟨by rfl,rfl⟩) ?_ ?_;rotate_left
          ·simp only [Act.put,zS1,zS2,zS3,i64_w,i32_w];rfl
          refine pure_ (i:=38) (N:=some 76) (v:=undef) (a':=?_) #[true,true,true,true,true,true,true,true,true,true,true,true,true,true,true,true,true,true,true,true,true,true,true,true,true,true,true,true,true,true,true,true,true,true,true,true,true,true,true,false,false,false,false] rfl rfl (any_of HT_.out (by kernel_rfl)) (fun _ _ _ h=>h) (Or.inr ⟨by rfl,rfl⟩) ?_ ?_;rotate_left
          ·simp only [Act.put,zS1,zS2,zS3,i64_w,i32_w];rfl
          refine pure_ (i:=39) (N:=some 77) (v:=undef) (a':=?_) #[true,true,true,true,true,true,true,true,true,true,true,true,true,true,true,true,true,true,true,true,true,true,true,true,true,true,true,true,true,true,true,true,true,true,true,true,true,true,true,true,false,false,false] rfl rfl (any_of HT_.out (by kernel_rfl)) (fun _ _ _ h=>h) (Or.inr ⟨by rfl,rfl⟩) ?_ ?_;rotate_left
          ·simp only [Act.put,zS1,zS2,zS3,i64_w,i32_w];rfl
          refine pure_ (i:=40) (N:=some 78) (v:=undef) (a':=?_) #[true,true,true,true,true,true,true,true,true,true,true,true,true,true,true,true,true,true,true,true,true,true,true,true,true,true,true,true,true,true,true,true,true,true,true,true,true,true,true,true,true,false,false] rfl rfl (any_of HT_.out (by kernel_rfl)) (fun _ _ _ h=>h) (Or.inr ⟨by rfl,rfl⟩) ?_ ?_;rotate_left
          ·simp only [Act.put,zS1,zS2,zS3,i64_w,i32_w];rfl
          refine zP 41 79 (zA 43 4398046511103) (any_of HT_.out (by kernel_rfl)) ?_;refine zP 42 80 (zA 43 8796093022207) (any_of HT_.out (by kernel_rfl)) ?_;refine done_ (done_of HT_.out (by kernel_rfl)) ?_
          try go_wp2
          go_roundg k2;case measure=>have:=HJ7.out;have:=HK2.out;omega
          case rel=>exact ⟨(wrap64 (x7_2 + 1)),(by first | rfl | (simp;done) | (simp [*];done)),H',⟨by have:=HJ7.out;have:=HK2.out;omega⟩,⟨ss HO_4⟩,⟨ss HO_5⟩,⟨ss HO_6⟩,⟨hs HB⟩⟩
         replace c25:=Bool.eq_false_iff.mpr c25;subst c25;have H1 : (some false) = some r:=by rw [if_neg (show ¬ (false = true) by decide)] at H;exact H
         clear H;have H:=H1;clear H1;exact absurd ((Option.some.inj H).trans hT.out) (by decide)
        rw [if_neg c23] at H;have c23b0 : (((rd_T40 t736 x7_2).f0) == ((rd_T40 t739 x7_2).f0)) = false:=beq_eq_false_iff_ne.mpr c23;have c23b1 : (((rd_T40 t736 x7_2).f0) != ((rd_T40 t739 x7_2).f0)) = true:=bne_iff_ne.mpr c23;exact absurd ((Option.some.inj H).trans hT.out) (by decide)
       rw [if_neg c22] at H;exact absurd H (by simp)
      rw [if_neg c21] at H;exact absurd H (by simp)
     rw [if_neg c20] at H;have c20b0 : decide (x7_2 < (t736.length : Int)) = false:=decide_eq_false c20;clear c20;have H':=zMk H;clear H
     go_wp2
     go_loopg [8] k2 (fun kq v8 w'=>∃ (x8_3 : Int),v8 = .int .i64 x8_3 ∧ Aside0 (laws_FnGathers.l1 kq t736 t742 x8_3 = some r) ∧ Aside0 (kq ≤ k2) ∧ Aside0 (Kd.S k40 40 w' w.heap.size (fun k_=>some k_ ≠ (v743 : Value).ownBlock) (.slice Ao13 t736.length co13) t736) ∧ Aside0 (Kd.S k40 40 w' w.heap.size (fun k_=>some k_ ≠ ((.slice Ao13 t736.length co13) : Value).ownBlock) v743 t742) ∧ Aside0 (Below w.heap.size w w'));case atStart=>exact ⟨(0),(by first | rfl | (simp;done) | (simp [*];done)),H',⟨Nat.le_refl _⟩,⟨by (with_reducible repeat (first | apply Kd.S_alloc | apply Kd.S_drewN | apply Kd.S_drew));exact Kd.S_mono HO_4.out (fun _ hk=>hk.2)⟩,⟨by (with_reducible repeat (first | apply Kd.S_alloc | apply Kd.S_drewN | apply Kd.S_drew));exact Kd.S_mono HO_6.out (fun _ hk=>hk.1)⟩,⟨hs HB⟩⟩
     case round =>
      clear H'
      try clear c1
      try clear c2
      try clear p2
      try clear p6
      try clear c7
      try clear p7
      try clear q7
      try clear hx7
      try clear c14
      try clear c20
      try clear c20b0
      try clear c21
      try clear c22
      try clear c23
      try clear c23b0
      try clear c23b1
      try clear c25
      try clear c26
      try clear c26b0
      try clear c28
      try clear c29
      try clear hx745_0
      try clear hx745_1
      try clear hx745_2
      try clear hx746_0
      try clear hx746_1
      try clear hx746_2
      try clear hx747_0
      try clear hx747_1
      try clear hx747_2
      try clear hx748_0
      try clear hx748_1
      try clear hx748_2
      try clear p745
      try clear p746
      try clear p747
      try clear p748
      try clear q745
      try clear q746
      try clear q747
      try clear q748
      obtain ⟨x8_3,rfl,HA,HK3,HO_4,HO_6,HB⟩:=hrel;cases gk with
      | zero=>exact absurd HA.out (by simp [laws_FnGathers.l1])
      | succ k3 =>
       have H:=HA.out;clear HA;simp only [laws_FnGathers.l1] at H
       by_cases c35 : x8_3 < (t742.length : Int)
       ·rw [if_pos c35] at H;have c35b0 : decide (x8_3 < (t742.length : Int)) = true:=decide_eq_true c35;clear c35;obtain ⟨ji36,hji36⟩ : ∃ j_ : Int,(wrap64 ((wrap64 ((t736.length : Int) - (t742.length : Int))) + x8_3)) = j_:=⟨_,rfl⟩;replace H : (if 0 ≤ (ji36) then (if (ji36) < (t736.length : Int) then (if 0 ≤ x8_3 then (if ((rd_T40 t742 x8_3).f0) = ((rd_T40 t736 (ji36)).f0) then ((laws_sameRecs.f k3 ((rd_T40 t742 x8_3).f2) ((rd_T40 t736 (ji36)).f2)).bind fun t756=>(if t756 = true then (if x8_3 > 0 then (if (((rd_T40 t736 (ji36)).f2).length : Int) > 0 then (if 0 < (((rd_T40 t736 (ji36)).f2).length : Int) then (if ((rd_T45 ((rd_T40 t736 (ji36)).f2) 0).f0) = 1 then (some false) else (laws_FnGathers.l1 k3 t736 t742 (wrap64 (x8_3 + 1)))) else (none)) else (laws_FnGathers.l1 k3 t736 t742 (wrap64 (x8_3 + 1)))) else (laws_FnGathers.l1 k3 t736 t742 (wrap64 (x8_3 + 1)))) else (some false))) else (some false)) else (none)) else (none)) else (none)) = some r:=by first | (rw [hji36] at H;exact H) | (simp only [hji36] at H ⊢;exact H)
        have hji36w : (IntKind.i64.wrap ((wrap64 ((t736.length : Int) - (t742.length : Int))) + x8_3)) = ji36:=(i64_w _).trans hji36
        by_cases c37 : 0 ≤ (ji36)
        ·rw [if_pos c37] at H;have c37b0 : decide (0 ≤ (ji36)) = true:=decide_eq_true c37;clear c37
         by_cases c38 : (ji36) < (t736.length : Int)
         ·rw [if_pos c38] at H;have c38b0 : decide ((ji36) < (t736.length : Int)) = true:=decide_eq_true c38;clear c38
          by_cases c39 : 0 ≤ x8_3
          ·rw [if_pos c39] at H;have c39b0 : decide (0 ≤ x8_3) = true:=decide_eq_true c39;clear c39;obtain ⟨Ao47,co47,eo47⟩:=Kd.S_slice HO_6.out;subst eo47;have p752 : 0 ≤ ((ji36) : Int):=zDe (by first | (with_reducible assumption) | assumption);have q752 : (ji36) < (t736.length : Int):=zDe (by first | (with_reducible assumption) | assumption);obtain ⟨ad752,A752_2,c752_2,e752,hx752_0,hx752_1,hx752_2,hl752_2,hi752_2⟩:=at_T40 (Kd.S_reads' HO_4.out).2.2 (ji36) p752 q752;cases e752;obtain ⟨ce752,hce752,hMe752,hcc752⟩:=Kd.S_get HO_4.out z40 (ji36) p752 (by first | exact q752 | exact zDe (by first | (with_reducible assumption) | assumption) | (have e_:=(Kd.S_reads' HO_4.out).1;omega));obtain ⟨ve752_2,rfl,ge752_2⟩:=k40_openM hMe752;have hv752_2:=hcc752 2 _ rfl;rw [add_field _ _ 2 (by omega)] at hv752_2;replace hv752_2:=Option.some.inj (hv752_2.symm.trans hx752_2);rw [hv752_2] at ge752_2;have HL752_2:=zMk (show Kd.R k45 45 _ _ _ _ ((rd_T40 t736 (ji36)).f2) from ge752_2);clear hv752_2 ge752_2;clear hcc752 hce752;have HR752_2:=zMk hi752_2;have HC752_2:=zMk hl752_2;clear hi752_2 hl752_2;replace p752:=eq_true p752;replace q752:=eq_true q752;go_upto_region 18 with (first | ((with_reducible refine gate_dst (N:=9) rfl ?_);(try (refine gate_guard (by rfl) ?_;dsimp only));refine box_event ?hg (N:=9) ?hd (cs:=#[.int .i64 0,.int .i64 0,.slice none 0 0]) (t:=40) ?hr ?_;(case hd=>rfl);(case hg=>rfl);(case hr=>first | (go_simp;done) | (go_simp;rfl));intro gb753 hg w48 hbox hb;have n0_:=zMk (Kd.S_below (Kd.S_elderB (ss HO_4) gb753 (Nat.le_of_eq hg.symm)) hb);have n1_:=zMk (Kd.S_below (Kd.S_elderB (ss HO_6) gb753 (Nat.le_of_eq hg.symm)) hb);have n2_:=zMk (Kd.R_below (rs HL752_2) hb);have n3_:=zMk (Kd.C_below (by repeat (first | (with_reducible exact HR752_2.out) | (with_reducible refine Kd.C_alloc ?_ _) | (with_reducible refine Kd.C_drewN ?_ _) | (with_reducible refine Kd.C_drew ?_) | exact HR752_2.out)) hb);have n4_:=zMk (below_step (hs HB) hb);have n5_:=zMk (hbox);have n6_:=zMk ((by rw [hg];exact (below_size (hs HB)) : w.heap.size ≤ gb753));have n7_:=zMk ((by rw [hg];exact (below_size (hs HB)) : w.heap.size ≤ gb753));clear HO_4;clear HO_6;clear HL752_2;clear HR752_2;clear HB;have HO_4:=n0_;have HO_6:=n1_;have HL752_2:=n2_;have HR752_2:=n3_;have HB:=n4_;have BK753:=n5_;have GW753:=n6_;have GE753:=n7_;clear n0_ n1_ n2_ n3_ n4_ n5_ n6_ n7_;clear hb hbox hg;have hcz49_0 : w48.cell? ⟨gb753,0,none⟩ = some (.int .i64 0):=(zCl BK753.out 0).trans rfl;have hcz49_1 : w48.cell? ⟨gb753,1,none⟩ = some (.int .i64 0):=(zCl BK753.out 1).trans rfl;have hcz49_2 : w48.cell? ⟨gb753,2,none⟩ = some (.slice none 0 0):=(zCl BK753.out 2).trans rfl;have hfz49_0:=zFr BK753.out 0;have hfz49_1:=zFr BK753.out 1;have hfz49_2:=zFr BK753.out 2))
           (try simp only [Act.put,zS1,zS2,zS3])
           by_cases c40 : ((rd_T40 t742 x8_3).f0) = ((rd_T40 t736 (ji36)).f0)
           ·rw [if_pos c40] at H;have c40b0 : (((rd_T40 t742 x8_3).f0) == ((rd_T40 t736 (ji36)).f0)) = true:=beq_iff_eq.mpr c40;have c40b1 : (((rd_T40 t742 x8_3).f0) != ((rd_T40 t736 (ji36)).f0)) = false:=bne_eq_false_iff_eq.mpr c40;clear c40;replace H:=Option.bind_eq_some_iff.mp H;obtain ⟨t756,A410,H⟩:=H;replace H : (if t756 = true then (if x8_3 > 0 then (if (((rd_T40 t736 (ji36)).f2).length : Int) > 0 then (if 0 < (((rd_T40 t736 (ji36)).f2).length : Int) then (if ((rd_T45 ((rd_T40 t736 (ji36)).f2) 0).f0) = 1 then (some false) else (laws_FnGathers.l1 k3 t736 t742 (wrap64 (x8_3 + 1)))) else (none)) else (laws_FnGathers.l1 k3 t736 t742 (wrap64 (x8_3 + 1)))) else (laws_FnGathers.l1 k3 t736 t742 (wrap64 (x8_3 + 1)))) else (some false)) = some r:=H;have A41:=zMk A410;clear A410
            by_cases c42 : t756 = true
            ·subst c42;have H1 : (if x8_3 > 0 then (if (((rd_T40 t736 (ji36)).f2).length : Int) > 0 then (if 0 < (((rd_T40 t736 (ji36)).f2).length : Int) then (if ((rd_T45 ((rd_T40 t736 (ji36)).f2) 0).f0) = 1 then (some false) else (laws_FnGathers.l1 k3 t736 t742 (wrap64 (x8_3 + 1)))) else (none)) else (laws_FnGathers.l1 k3 t736 t742 (wrap64 (x8_3 + 1)))) else (laws_FnGathers.l1 k3 t736 t742 (wrap64 (x8_3 + 1)))) = some r:=by rw [if_pos rfl] at H;exact H
             clear H;have H:=H1;clear H1
             by_cases c43 : x8_3 > 0
             ·rw [if_pos c43] at H;have c43b0 : decide (0 < x8_3) = true:=decide_eq_true c43;clear c43
              by_cases c44 : (((rd_T40 t736 (ji36)).f2).length : Int) > 0
              ·rw [if_pos c44] at H;have c44b0 : decide (0 < (((rd_T40 t736 (ji36)).f2).length : Int)) = true:=decide_eq_true c44;have c44b1 : decide (0 < ((rd_T40 t736 (ji36)).f2).length) = true:=decide_eq_true (by omega);clear c44
               by_cases c45 : 0 < (((rd_T40 t736 (ji36)).f2).length : Int)
               ·rw [if_pos c45] at H;have c45b0 : decide (0 < (((rd_T40 t736 (ji36)).f2).length : Int)) = true:=decide_eq_true c45;have c45b1 : decide (0 < ((rd_T40 t736 (ji36)).f2).length) = true:=decide_eq_true (by omega);clear c45
                by_cases c46 : ((rd_T45 ((rd_T40 t736 (ji36)).f2) 0).f0) = 1
                ·rw [if_pos c46] at H;have c46b0 : (((rd_T45 ((rd_T40 t736 (ji36)).f2) 0).f0) == 1) = true:=beq_iff_eq.mpr c46;have c46b1 : (((rd_T45 ((rd_T40 t736 (ji36)).f2) 0).f0) != 1) = false:=bne_eq_false_iff_eq.mpr c46;clear c46;exact absurd ((Option.some.inj H).trans hT.out) (by decide)
                rw [if_neg c46] at H;have c46b0 : (((rd_T45 ((rd_T40 t736 (ji36)).f2) 0).f0) == 1) = false:=beq_eq_false_iff_ne.mpr c46;have c46b1 : (((rd_T45 ((rd_T40 t736 (ji36)).f2) 0).f0) != 1) = true:=bne_iff_ne.mpr c46;have H':=zMk H;clear H
                try go_wp2
                have n0_ : Aside0 (Kd.S k40 40 (((w48.setCell ⟨gb753,0,none⟩ (.int .i64 ((rd_T40 t736 (ji36)).f0))).setCell ⟨gb753,1,none⟩ (.int .i64 ((rd_T40 t736 (ji36)).f1))).setCell ⟨gb753,2,none⟩ (.slice A752_2 ((rd_T40 t736 (ji36)).f2).length c752_2)) w.heap.size (fun k_=>some k_ ≠ (.slice Ao47 t742.length co47 : Value).ownBlock ∧ k_ ≠ gb753) (.slice (some ad752) t736.length co13) t736):=⟨by (with_reducible repeat (first | apply Kd.S_alloc | apply Kd.S_drewN | apply Kd.S_drew));exact Kd.S_mono (Kd.S_far (p:=⟨gb753,2,none⟩) (Kd.S_far (p:=⟨gb753,1,none⟩) (Kd.S_far (p:=⟨gb753,0,none⟩) (Kd.S_mono HO_4.out (fun k_ hk=>(⟨hk,hk.2⟩ : _ ∧ k_ ≠ gb753))) (fun _ hk=>hk.2) (.int .i64 ((rd_T40 t736 (ji36)).f0))) (fun _ hk=>hk.2) (.int .i64 ((rd_T40 t736 (ji36)).f1))) (fun _ hk=>hk.2) (.slice A752_2 ((rd_T40 t736 (ji36)).f2).length c752_2)) (fun _ hk=>⟨hk.1.1,hk.1.2⟩)⟩;have n1_ : Aside0 (Kd.S k40 40 (((w48.setCell ⟨gb753,0,none⟩ (.int .i64 ((rd_T40 t736 (ji36)).f0))).setCell ⟨gb753,1,none⟩ (.int .i64 ((rd_T40 t736 (ji36)).f1))).setCell ⟨gb753,2,none⟩ (.slice A752_2 ((rd_T40 t736 (ji36)).f2).length c752_2)) w.heap.size (fun k_=>some k_ ≠ (.slice (some ad752) t736.length co13 : Value).ownBlock ∧ k_ ≠ gb753) (.slice Ao47 t742.length co47) t742):=⟨by (with_reducible repeat (first | apply Kd.S_alloc | apply Kd.S_drewN | apply Kd.S_drew));exact Kd.S_mono (Kd.S_far (p:=⟨gb753,2,none⟩) (Kd.S_far (p:=⟨gb753,1,none⟩) (Kd.S_far (p:=⟨gb753,0,none⟩) (Kd.S_mono HO_6.out (fun k_ hk=>(⟨hk,hk.2⟩ : _ ∧ k_ ≠ gb753))) (fun _ hk=>hk.2) (.int .i64 ((rd_T40 t736 (ji36)).f0))) (fun _ hk=>hk.2) (.int .i64 ((rd_T40 t736 (ji36)).f1))) (fun _ hk=>hk.2) (.slice A752_2 ((rd_T40 t736 (ji36)).f2).length c752_2)) (fun _ hk=>⟨hk.1.1,hk.1.2⟩)⟩;have n2_ : Aside0 (Kd.R k45 45 (((w48.setCell ⟨gb753,0,none⟩ (.int .i64 ((rd_T40 t736 (ji36)).f0))).setCell ⟨gb753,1,none⟩ (.int .i64 ((rd_T40 t736 (ji36)).f1))).setCell ⟨gb753,2,none⟩ (.slice A752_2 ((rd_T40 t736 (ji36)).f2).length c752_2)) w.heap.size (fun k_=>some k_ ≠ (.slice (some ad752) t736.length co13 : Value).ownBlock ∧ some k_ ≠ (.slice Ao47 t742.length co47 : Value).ownBlock) (.slice A752_2 ((rd_T40 t736 (ji36)).f2).length c752_2) ((rd_T40 t736 (ji36)).f2)):=⟨by (with_reducible repeat (first | apply Kd.R_alloc | apply Kd.R_drewN | apply Kd.R_drew));exact Kd.R_mono (Kd.R_far (p:=⟨gb753,2,none⟩) (Kd.R_far (p:=⟨gb753,1,none⟩) (Kd.R_far (p:=⟨gb753,0,none⟩) (Kd.R_types HL752_2.out BK753.out (by decide)) (fun _ hk=>hk.2) (.int .i64 ((rd_T40 t736 (ji36)).f0))) (fun _ hk=>hk.2) (.int .i64 ((rd_T40 t736 (ji36)).f1))) (fun _ hk=>hk.2) (.slice A752_2 ((rd_T40 t736 (ji36)).f2).length c752_2)) (fun _ hk=>⟨hk.1.2,hk.1.1⟩)⟩;have n3_ : Aside0 ((((w48.setCell ⟨gb753,0,none⟩ (.int .i64 ((rd_T40 t736 (ji36)).f0))).setCell ⟨gb753,1,none⟩ (.int .i64 ((rd_T40 t736 (ji36)).f1))).setCell ⟨gb753,2,none⟩ (.slice A752_2 ((rd_T40 t736 (ji36)).f2).length c752_2)).heap[gb753]? = some (.cells #[.int .i64 ((rd_T40 t736 (ji36)).f0),.int .i64 ((rd_T40 t736 (ji36)).f1),.slice A752_2 ((rd_T40 t736 (ji36)).f2).length c752_2] 40 (0,0))):=⟨by (with_reducible repeat (first | refine blk_drewN ?_ _ | refine blk_drew ?_ | refine blk_alloc ?_ _));refine blk_put (cs:=#[.int .i64 ((rd_T40 t736 (ji36)).f0),.int .i64 ((rd_T40 t736 (ji36)).f1),.slice none 0 0]) ?_ 2 _ rfl;(with_reducible repeat (first | refine blk_drewN ?_ _ | refine blk_drew ?_ | refine blk_alloc ?_ _));refine blk_put (cs:=#[.int .i64 ((rd_T40 t736 (ji36)).f0),.int .i64 0,.slice none 0 0]) ?_ 1 _ rfl;(with_reducible repeat (first | refine blk_drewN ?_ _ | refine blk_drew ?_ | refine blk_alloc ?_ _));refine blk_put (cs:=#[.int .i64 0,.int .i64 0,.slice none 0 0]) ?_ 0 _ rfl;(with_reducible repeat (first | refine blk_drewN ?_ _ | refine blk_drew ?_ | refine blk_alloc ?_ _));exact BK753.out⟩;have n4_ : Aside0 (Below w.heap.size w (((w48.setCell ⟨gb753,0,none⟩ (.int .i64 ((rd_T40 t736 (ji36)).f0))).setCell ⟨gb753,1,none⟩ (.int .i64 ((rd_T40 t736 (ji36)).f1))).setCell ⟨gb753,2,none⟩ (.slice A752_2 ((rd_T40 t736 (ji36)).f2).length c752_2))):=⟨hs1 HB GE753⟩
                (try clear HO_4)
                (try clear HO_6)
                (try clear HL752_2)
                (try clear BK753)
                (try clear HB)
                generalize (((w48.setCell ⟨gb753,0,none⟩ (.int .i64 ((rd_T40 t736 (ji36)).f0))).setCell ⟨gb753,1,none⟩ (.int .i64 ((rd_T40 t736 (ji36)).f1))).setCell ⟨gb753,2,none⟩ (.slice A752_2 ((rd_T40 t736 (ji36)).f2).length c752_2)) = w50 at n0_ n1_ n2_ n3_ n4_ ⊢;have HO_4:=n0_;have HO_6:=n1_;have HL752_2:=n2_;have BK753:=n3_;have HB:=n4_;clear n0_ n1_ n2_ n3_ n4_;have n0_:=zMk (Kd.S_drew HO_4.out);have n1_:=zMk (Kd.S_drew HO_6.out);have n2_:=zMk (Kd.R_drew HL752_2.out);have n3_:=zMk (blk_drew BK753.out);have n4_:=zMk (below_drew1 HB.out);clear HO_4;clear HO_6;clear HL752_2;clear BK753;clear HB;have HO_4:=n0_;have HO_6:=n1_;have HL752_2:=n2_;have BK753:=n3_;have HB:=n4_;clear n0_ n1_ n2_ n3_ n4_;have p754 : 0 ≤ (x8_3 : Int):=zDe (by first | (with_reducible assumption) | assumption);have q754 : x8_3 < (t742.length : Int):=zDe (by first | (with_reducible assumption) | assumption);obtain ⟨ad754,A754_2,c754_2,e754,hx754_0,hx754_1,hx754_2,hl754_2,hi754_2⟩:=at_T40 (Kd.S_reads' HO_6.out).2.2 x8_3 p754 q754;cases e754;obtain ⟨ce754,hce754,hMe754,hcc754⟩:=Kd.S_get HO_6.out z40 x8_3 p754 (by first | exact q754 | exact zDe (by first | (with_reducible assumption) | assumption) | (have e_:=(Kd.S_reads' HO_6.out).1;omega));obtain ⟨ve754_2,rfl,ge754_2⟩:=k40_openM hMe754;have hv754_2:=hcc754 2 _ rfl;rw [add_field _ _ 2 (by omega)] at hv754_2;replace hv754_2:=Option.some.inj (hv754_2.symm.trans hx754_2);rw [hv754_2] at ge754_2;have HL754_2:=zMk (show Kd.R k45 45 _ _ _ _ ((rd_T40 t742 x8_3).f2) from ge754_2);clear hv754_2 ge754_2;clear hcc754 hce754;have HR754_2:=zMk hi754_2;have HC754_2:=zMk hl754_2;clear hi754_2 hl754_2;replace p754:=eq_true p754;replace q754:=eq_true q754;have p755 : 0 ≤ (x8_3 : Int):=zDe (by first | (with_reducible assumption) | assumption);have q755 : x8_3 < (t742.length : Int):=zDe (by first | (with_reducible assumption) | assumption);obtain ⟨ad755,A755_2,c755_2,e755,hx755_0,hx755_1,hx755_2,hl755_2,hi755_2⟩:=at_T40 (Kd.S_reads' HO_6.out).2.2 x8_3 p755 q755;obtain rfl : ad754 = ad755:=(by injection e755);obtain ⟨ce755,hce755,hMe755,hcc755⟩:=Kd.S_get HO_6.out z40 x8_3 p755 (by first | exact q755 | exact zDe (by first | (with_reducible assumption) | assumption) | (have e_:=(Kd.S_reads' HO_6.out).1;omega));obtain ⟨ve755_2,rfl,ge755_2⟩:=k40_openM hMe755;have hv755_2:=hcc755 2 _ rfl;rw [add_field _ _ 2 (by omega)] at hv755_2;replace hv755_2:=Option.some.inj (hv755_2.symm.trans hx755_2);rw [hv755_2] at ge755_2;have HL755_2:=zMk (show Kd.R k45 45 _ _ _ _ ((rd_T40 t742 x8_3).f2) from ge755_2);clear hv755_2 ge755_2;clear hcc755 hce755;have HR755_2:=zMk hi755_2;have HC755_2:=zMk hl755_2;clear hi755_2 hl755_2;replace p755:=eq_true p755;replace q755:=eq_true q755;have ea_:=Option.some.inj (hx754_2.symm.trans hx755_2);injection ea_ with ea_ en_ ec_;subst ea_;subst ec_;clear en_;have p757 : 0 ≤ (0 : Int):=(by omega);have q757 : 0 < (((rd_T40 t736 (ji36)).f2).length : Int):=zDe (by first | (with_reducible assumption) | assumption);obtain ⟨ad757,e757,hx757_0,hx757_1,hx757_2,hx757_3⟩:=at_T45 ((Kd.R_reads' HL752_2.out).2.2) 0 p757 q757;cases e757;have qi757 : (0 < ((rd_T40 t736 (ji36)).f2).length) = True:=eq_true (by omega)
                (try rw [show ((0 : Int)).toNat = 0 from rfl] at hx757_0)
                (try rw [show 0 * 4 = 0 from rfl] at hx757_0)
                (try rw [Addr.add_zero'] at hx757_0)
                (try rw [show ((0 : Int)).toNat = 0 from rfl] at hx757_1)
                (try rw [show 0 * 4 = 0 from rfl] at hx757_1)
                (try rw [Addr.add_zero'] at hx757_1)
                (try rw [show ((0 : Int)).toNat = 0 from rfl] at hx757_2)
                (try rw [show 0 * 4 = 0 from rfl] at hx757_2)
                (try rw [Addr.add_zero'] at hx757_2)
                (try rw [show ((0 : Int)).toNat = 0 from rfl] at hx757_3)
                (try rw [show 0 * 4 = 0 from rfl] at hx757_3)
                (try rw [Addr.add_zero'] at hx757_3)
                replace p757:=eq_true p757;replace q757:=eq_true q757;refine start_ (n:=37) (S:=fun w'=>w'.cell? ⟨gb753,0,none⟩ = some (.int .i64 ((rd_T40 t736 (ji36)).f0)) ∧ w'.cell? ⟨gb753,1,none⟩ = some (.int .i64 ((rd_T40 t736 (ji36)).f1)) ∧ w'.cell? ⟨gb753,2,none⟩ = some (.slice (some ad757) ((rd_T40 t736 (ji36)).f2).length c752_2) ∧ w'.cell? (ad754.add ((x8_3).toNat * 3)) = some (.int .i64 ((rd_T40 t742 x8_3).f0)) ∧ w'.cell? ⟨(ad754.add ((x8_3).toNat * 3)).block,(ad754.add ((x8_3).toNat * 3)).off + 1,none⟩ = some (.int .i64 ((rd_T40 t742 x8_3).f1)) ∧ w'.cell? ⟨(ad754.add ((x8_3).toNat * 3)).block,(ad754.add ((x8_3).toNat * 3)).off + 2,none⟩ = some (.slice A754_2 ((rd_T40 t742 x8_3).f2).length c754_2) ∧ w'.cell? (ad754.add ((x8_3).toNat * 3)) = some (.int .i64 ((rd_T40 t742 x8_3).f0)) ∧ w'.cell? ⟨(ad754.add ((x8_3).toNat * 3)).block,(ad754.add ((x8_3).toNat * 3)).off + 1,none⟩ = some (.int .i64 ((rd_T40 t742 x8_3).f1)) ∧ w'.cell? ⟨(ad754.add ((x8_3).toNat * 3)).block,(ad754.add ((x8_3).toNat * 3)).off + 2,none⟩ = some (.slice A754_2 ((rd_T40 t742 x8_3).f2).length c754_2) ∧ w'.cell? ad757 = some (.int .i64 ((rd_T45 ((rd_T40 t736 (ji36)).f2) 0).f0)) ∧ w'.cell? ⟨ad757.block,ad757.off + 1,none⟩ = some (.int .i64 ((rd_T45 ((rd_T40 t736 (ji36)).f2) 0).f1)) ∧ w'.cell? ⟨ad757.block,ad757.off + 2,none⟩ = some (.int .i64 ((rd_T45 ((rd_T40 t736 (ji36)).f2) 0).f2)) ∧ w'.cell? ⟨ad757.block,ad757.off + 3,none⟩ = some (.int .i64 ((rd_T45 ((rd_T40 t736 (ji36)).f2) 0).f3))) (ds:=[]) (zA 37 0) (by kernel_rfl) rfl rfl ⟨(zCl BK753.out 0).trans rfl,(zCl BK753.out 1).trans rfl,(zCl BK753.out 2).trans rfl,hx754_0,hx754_1,hx754_2,hx755_0,hx755_1,hx755_2,hx757_0,hx757_1,hx757_2,hx757_3⟩ (fun hHeld=>?_);refine with_tabW laws_FnGathers.tab18 laws_FnGathers.bits18 (fun HT_ HW_=>?_);generalize w50.drew = w51 at HO_4 HO_6 HL752_2 BK753 HB HL754_2 HL755_2 HR754_2 HR755_2 hx754_0 hx754_1 hx754_2 hx755_0 hx755_1 hx755_2 hHeld ⊢;refine zP 0 97 (zA 37 1) (any_of HT_.out (by kernel_rfl)) ?_;refine zP 1 98 (zA 37 3) (any_of HT_.out (by kernel_rfl)) ?_;refine zP 2 99 (zA 37 7) (any_of HT_.out (by kernel_rfl)) ?_;refine zP 3 100 (zA 37 15) (any_of HT_.out (by kernel_rfl)) ?_;refine zP 5 102 (zA 37 47) (any_of HT_.out (by kernel_rfl)) ?_;refine zT 4 101 (zA 37 63) (take_ofW HT_.out HW_.out (by kernel_rfl)) hHeld ?_;refine zT 6 103 (zA 37 127) (take_ofW HT_.out HW_.out (by kernel_rfl)) hHeld ?_;refine zP 7 104 (zA 37 255) (any_of HT_.out (by kernel_rfl)) ?_;refine zP 8 105 (zA 37 511) (any_of HT_.out (by kernel_rfl)) ?_;refine zP 9 106 (zA 37 1023) (any_of HT_.out (by kernel_rfl)) ?_;refine zP 10 107 (zA 37 2047) (any_of HT_.out (by kernel_rfl)) ?_;refine zP 11 108 (zA 37 4095) (any_of HT_.out (by kernel_rfl)) ?_;refine zP 12 109 (zA 37 8191) (any_of HT_.out (by kernel_rfl)) ?_;refine zP 14 111 (zA 37 24575) (any_of HT_.out (by kernel_rfl)) ?_;refine zT 13 110 (zA 37 32767) (take_ofW HT_.out HW_.out (by kernel_rfl)) hHeld ?_;refine zT 15 112 (zA 37 65535) (take_ofW HT_.out HW_.out (by kernel_rfl)) hHeld ?_;refine one_ (i:=16) (N:=some 113) (zA 37 131071) rfl rfl (one_of HT_.out (by kernel_rfl)) (by decide) (fun K hK=>?_);refine goes_ Try.func14 (by kernel_rfl) rfl #[.slice A754_2 ((rd_T40 t742 x8_3).f2).length c754_2,.slice (some ad757) ((rd_T40 t736 (ji36)).f2).length c752_2] (by rfl) rfl rfl (by (try simp only [List.map_toArray,List.map_cons,List.map_nil]);first | done | (simp only [hji36];rfl) | rfl | (simp only [List.length_drop,List.length_take];rfl)) ?_;with_reducible refine (laws_sameRecs.calls k3 _ _ ((rd_T40 t742 x8_3).f2) _ _ ((rd_T40 t736 (ji36)).f2) true _ ?side1 ?side2 ?side3 ?side4 A41.out).mono ?_
                (case side1=>repeat (first | exact (by repeat (first | (with_reducible exact HR755_2.out) | (with_reducible refine Kd.C_alloc ?_ _) | (with_reducible refine Kd.C_drewN ?_ _) | (with_reducible refine Kd.C_drew ?_) | exact HR755_2.out)) | (with_reducible refine Kd.C_alloc ?_ _) | (with_reducible refine Kd.C_drewN ?_ _) | (with_reducible refine Kd.C_drew ?_)))
                (case side2=>exact HC755_2.out)
                (case side3=>repeat (first | exact ((Kd.R_reads' (rs HL752_2)).2.2) | (with_reducible refine Kd.C_alloc ?_ _) | (with_reducible refine Kd.C_drewN ?_ _) | (with_reducible refine Kd.C_drew ?_)))
                (case side4=>exact HC752_2.out)
                rintro e w' ⟨rfl,⟨nd,rfl⟩⟩;refine ⟨_,rfl,?_⟩;refine hK.out _ _ ⟨(zCl BK753.out 0).trans rfl,(zCl BK753.out 1).trans rfl,(zCl BK753.out 2).trans rfl,hHeld.2.2.2.1,hHeld.2.2.2.2.1,hHeld.2.2.2.2.2.1,hHeld.2.2.2.2.2.2.1,hHeld.2.2.2.2.2.2.2.1,hHeld.2.2.2.2.2.2.2.2.1,hHeld.2.2.2.2.2.2.2.2.2.1,hHeld.2.2.2.2.2.2.2.2.2.2.1,hHeld.2.2.2.2.2.2.2.2.2.2.2.1,hHeld.2.2.2.2.2.2.2.2.2.2.2.2⟩ (fun hHeld=>?_);clear hK K;refine norm_ (a':=?_) ?_ ?_;rotate_left
                ·show Act.put _ (some 113) _ = _;simp only [Act.put,zS1,zS2,zS3,i64_w,i32_w];rfl
                refine zP 17 114 (zA 37 262143) (any_of HT_.out (by kernel_rfl)) ?_;refine zP 18 115 (zA 37 524287) (any_of HT_.out (by kernel_rfl)) ?_;refine zP 19 116 (zA 37 1048575) (any_of HT_.out (by kernel_rfl)) ?_;refine zP 20 117 (zA 37 2097151) (any_of HT_.out (by kernel_rfl)) ?_;refine zP 21 118 (zA 37 4194303) (any_of HT_.out (by kernel_rfl)) ?_;refine zP 22 119 (zA 37 8388607) (any_of HT_.out (by kernel_rfl)) ?_;refine zP 23 120 (zA 37 16777215) (any_of HT_.out (by kernel_rfl)) ?_;refine zT 24 121 (zA 37 33554431) (take_ofW HT_.out HW_.out (by kernel_rfl)) hHeld ?_;refine zP 25 122 (zA 37 67108863) (any_of HT_.out (by kernel_rfl)) ?_;refine zP 26 123 (zA 37 134217727) (any_of HT_.out (by kernel_rfl)) ?_;refine zP 27 124 (zA 37 268435455) (any_of HT_.out (by kernel_rfl)) ?_;refine zP 28 125 (zA 37 536870911) (any_of HT_.out (by kernel_rfl)) ?_;refine zP 29 126 (zA 37 1073741823) (any_of HT_.out (by kernel_rfl)) ?_;refine zT 30 127 (zA 37 2147483647) (take_ofW HT_.out HW_.out (by kernel_rfl)) hHeld ?_;refine zP 31 128 (zA 37 4294967295) (any_of HT_.out (by kernel_rfl)) ?_;refine zP 32 129 (zA 37 8589934591) (any_of HT_.out (by kernel_rfl)) ?_;refine zT 33 130 (zA 37 17179869183) (take_ofW HT_.out HW_.out (by kernel_rfl)) hHeld ?_;refine zP 34 131 (zA 37 34359738367) (any_of HT_.out (by kernel_rfl)) ?_;refine zP 35 132 (zA 37 68719476735) (any_of HT_.out (by kernel_rfl)) ?_;refine zP 36 133 (zA 37 137438953471) (any_of HT_.out (by kernel_rfl)) ?_;refine done_ (done_of HT_.out (by kernel_rfl)) ?_
                try go_wp2
                go_roundg k3;case measure=>have:=HJ7.out;have:=HK2.out;have:=HK3.out;omega
                case rel=>exact ⟨(wrap64 (x8_3 + 1)),(by first | rfl | (simp;done) | (simp [*];done)),H',⟨by have:=HJ7.out;have:=HK2.out;have:=HK3.out;omega⟩,⟨by (with_reducible repeat (first | apply Kd.S_alloc | apply Kd.S_drewN | apply Kd.S_drew));exact Kd.S_mono HO_4.out (fun _ hk=>hk.1)⟩,⟨by (with_reducible repeat (first | apply Kd.S_alloc | apply Kd.S_drewN | apply Kd.S_drew));exact Kd.S_mono HO_6.out (fun _ hk=>hk.1)⟩,⟨hs1 HB GE753⟩⟩
               rw [if_neg c45] at H;exact absurd H (by simp)
              rw [if_neg c44] at H;have c44b0 : decide (0 < (((rd_T40 t736 (ji36)).f2).length : Int)) = false:=decide_eq_false c44;have c44b1 : decide (0 < ((rd_T40 t736 (ji36)).f2).length) = false:=decide_eq_false (by omega);clear c44;have H':=zMk H;clear H
              try go_wp2
              have n0_ : Aside0 (Kd.S k40 40 (((w48.setCell ⟨gb753,0,none⟩ (.int .i64 ((rd_T40 t736 (ji36)).f0))).setCell ⟨gb753,1,none⟩ (.int .i64 ((rd_T40 t736 (ji36)).f1))).setCell ⟨gb753,2,none⟩ (.slice A752_2 ((rd_T40 t736 (ji36)).f2).length c752_2)) w.heap.size (fun k_=>some k_ ≠ (.slice Ao47 t742.length co47 : Value).ownBlock ∧ k_ ≠ gb753) (.slice (some ad752) t736.length co13) t736):=⟨by (with_reducible repeat (first | apply Kd.S_alloc | apply Kd.S_drewN | apply Kd.S_drew));exact Kd.S_mono (Kd.S_far (p:=⟨gb753,2,none⟩) (Kd.S_far (p:=⟨gb753,1,none⟩) (Kd.S_far (p:=⟨gb753,0,none⟩) (Kd.S_mono HO_4.out (fun k_ hk=>(⟨hk,hk.2⟩ : _ ∧ k_ ≠ gb753))) (fun _ hk=>hk.2) (.int .i64 ((rd_T40 t736 (ji36)).f0))) (fun _ hk=>hk.2) (.int .i64 ((rd_T40 t736 (ji36)).f1))) (fun _ hk=>hk.2) (.slice A752_2 ((rd_T40 t736 (ji36)).f2).length c752_2)) (fun _ hk=>⟨hk.1.1,hk.1.2⟩)⟩;have n1_ : Aside0 (Kd.S k40 40 (((w48.setCell ⟨gb753,0,none⟩ (.int .i64 ((rd_T40 t736 (ji36)).f0))).setCell ⟨gb753,1,none⟩ (.int .i64 ((rd_T40 t736 (ji36)).f1))).setCell ⟨gb753,2,none⟩ (.slice A752_2 ((rd_T40 t736 (ji36)).f2).length c752_2)) w.heap.size (fun k_=>some k_ ≠ (.slice (some ad752) t736.length co13 : Value).ownBlock ∧ k_ ≠ gb753) (.slice Ao47 t742.length co47) t742):=⟨by (with_reducible repeat (first | apply Kd.S_alloc | apply Kd.S_drewN | apply Kd.S_drew));exact Kd.S_mono (Kd.S_far (p:=⟨gb753,2,none⟩) (Kd.S_far (p:=⟨gb753,1,none⟩) (Kd.S_far (p:=⟨gb753,0,none⟩) (Kd.S_mono HO_6.out (fun k_ hk=>(⟨hk,hk.2⟩ : _ ∧ k_ ≠ gb753))) (fun _ hk=>hk.2) (.int .i64 ((rd_T40 t736 (ji36)).f0))) (fun _ hk=>hk.2) (.int .i64 ((rd_T40 t736 (ji36)).f1))) (fun _ hk=>hk.2) (.slice A752_2 ((rd_T40 t736 (ji36)).f2).length c752_2)) (fun _ hk=>⟨hk.1.1,hk.1.2⟩)⟩;have n2_ : Aside0 (Kd.R k45 45 (((w48.setCell ⟨gb753,0,none⟩ (.int .i64 ((rd_T40 t736 (ji36)).f0))).setCell ⟨gb753,1,none⟩ (.int .i64 ((rd_T40 t736 (ji36)).f1))).setCell ⟨gb753,2,none⟩ (.slice A752_2 ((rd_T40 t736 (ji36)).f2).length c752_2)) w.heap.size (fun k_=>some k_ ≠ (.slice (some ad752) t736.length co13 : Value).ownBlock ∧ some k_ ≠ (.slice Ao47 t742.length co47 : Value).ownBlock) (.slice A752_2 ((rd_T40 t736 (ji36)).f2).length c752_2) ((rd_T40 t736 (ji36)).f2)):=⟨by (with_reducible repeat (first | apply Kd.R_alloc | apply Kd.R_drewN | apply Kd.R_drew));exact Kd.R_mono (Kd.R_far (p:=⟨gb753,2,none⟩) (Kd.R_far (p:=⟨gb753,1,none⟩) (Kd.R_far (p:=⟨gb753,0,none⟩) (Kd.R_types HL752_2.out BK753.out (by decide)) (fun _ hk=>hk.2) (.int .i64 ((rd_T40 t736 (ji36)).f0))) (fun _ hk=>hk.2) (.int .i64 ((rd_T40 t736 (ji36)).f1))) (fun _ hk=>hk.2) (.slice A752_2 ((rd_T40 t736 (ji36)).f2).length c752_2)) (fun _ hk=>⟨hk.1.2,hk.1.1⟩)⟩;have n3_ : Aside0 ((((w48.setCell ⟨gb753,0,none⟩ (.int .i64 ((rd_T40 t736 (ji36)).f0))).setCell ⟨gb753,1,none⟩ (.int .i64 ((rd_T40 t736 (ji36)).f1))).setCell ⟨gb753,2,none⟩ (.slice A752_2 ((rd_T40 t736 (ji36)).f2).length c752_2)).heap[gb753]? = some (.cells #[.int .i64 ((rd_T40 t736 (ji36)).f0),.int .i64 ((rd_T40 t736 (ji36)).f1),.slice A752_2 ((rd_T40 t736 (ji36)).f2).length c752_2] 40 (0,0))):=⟨by (with_reducible repeat (first | refine blk_drewN ?_ _ | refine blk_drew ?_ | refine blk_alloc ?_ _));refine blk_put (cs:=#[.int .i64 ((rd_T40 t736 (ji36)).f0),.int .i64 ((rd_T40 t736 (ji36)).f1),.slice none 0 0]) ?_ 2 _ rfl;(with_reducible repeat (first | refine blk_drewN ?_ _ | refine blk_drew ?_ | refine blk_alloc ?_ _));refine blk_put (cs:=#[.int .i64 ((rd_T40 t736 (ji36)).f0),.int .i64 0,.slice none 0 0]) ?_ 1 _ rfl;(with_reducible repeat (first | refine blk_drewN ?_ _ | refine blk_drew ?_ | refine blk_alloc ?_ _));refine blk_put (cs:=#[.int .i64 0,.int .i64 0,.slice none 0 0]) ?_ 0 _ rfl;(with_reducible repeat (first | refine blk_drewN ?_ _ | refine blk_drew ?_ | refine blk_alloc ?_ _));exact BK753.out⟩;have n4_ : Aside0 (Below w.heap.size w (((w48.setCell ⟨gb753,0,none⟩ (.int .i64 ((rd_T40 t736 (ji36)).f0))).setCell ⟨gb753,1,none⟩ (.int .i64 ((rd_T40 t736 (ji36)).f1))).setCell ⟨gb753,2,none⟩ (.slice A752_2 ((rd_T40 t736 (ji36)).f2).length c752_2))):=⟨hs1 HB GE753⟩
              (try clear HO_4)
              (try clear HO_6)
              (try clear HL752_2)
              (try clear BK753)
              (try clear HB)
              generalize (((w48.setCell ⟨gb753,0,none⟩ (.int .i64 ((rd_T40 t736 (ji36)).f0))).setCell ⟨gb753,1,none⟩ (.int .i64 ((rd_T40 t736 (ji36)).f1))).setCell ⟨gb753,2,none⟩ (.slice A752_2 ((rd_T40 t736 (ji36)).f2).length c752_2)) = w55 at n0_ n1_ n2_ n3_ n4_ ⊢;have HO_4:=n0_;have HO_6:=n1_;have HL752_2:=n2_;have BK753:=n3_;have HB:=n4_;clear n0_ n1_ n2_ n3_ n4_;have n0_:=zMk (Kd.S_drew HO_4.out);have n1_:=zMk (Kd.S_drew HO_6.out);have n2_:=zMk (Kd.R_drew HL752_2.out);have n3_:=zMk (blk_drew BK753.out);have n4_:=zMk (below_drew1 HB.out);clear HO_4;clear HO_6;clear HL752_2;clear BK753;clear HB;have HO_4:=n0_;have HO_6:=n1_;have HL752_2:=n2_;have BK753:=n3_;have HB:=n4_;clear n0_ n1_ n2_ n3_ n4_;have p754 : 0 ≤ (x8_3 : Int):=zDe (by first | (with_reducible assumption) | assumption);have q754 : x8_3 < (t742.length : Int):=zDe (by first | (with_reducible assumption) | assumption);obtain ⟨ad754,A754_2,c754_2,e754,hx754_0,hx754_1,hx754_2,hl754_2,hi754_2⟩:=at_T40 (Kd.S_reads' HO_6.out).2.2 x8_3 p754 q754;cases e754;obtain ⟨ce754,hce754,hMe754,hcc754⟩:=Kd.S_get HO_6.out z40 x8_3 p754 (by first | exact q754 | exact zDe (by first | (with_reducible assumption) | assumption) | (have e_:=(Kd.S_reads' HO_6.out).1;omega));obtain ⟨ve754_2,rfl,ge754_2⟩:=k40_openM hMe754;have hv754_2:=hcc754 2 _ rfl;rw [add_field _ _ 2 (by omega)] at hv754_2;replace hv754_2:=Option.some.inj (hv754_2.symm.trans hx754_2);rw [hv754_2] at ge754_2;have HL754_2:=zMk (show Kd.R k45 45 _ _ _ _ ((rd_T40 t742 x8_3).f2) from ge754_2);clear hv754_2 ge754_2;clear hcc754 hce754;have HR754_2:=zMk hi754_2;have HC754_2:=zMk hl754_2;clear hi754_2 hl754_2;replace p754:=eq_true p754;replace q754:=eq_true q754;have p755 : 0 ≤ (x8_3 : Int):=zDe (by first | (with_reducible assumption) | assumption);have q755 : x8_3 < (t742.length : Int):=zDe (by first | (with_reducible assumption) | assumption);obtain ⟨ad755,A755_2,c755_2,e755,hx755_0,hx755_1,hx755_2,hl755_2,hi755_2⟩:=at_T40 (Kd.S_reads' HO_6.out).2.2 x8_3 p755 q755;obtain rfl : ad754 = ad755:=(by injection e755);obtain ⟨ce755,hce755,hMe755,hcc755⟩:=Kd.S_get HO_6.out z40 x8_3 p755 (by first | exact q755 | exact zDe (by first | (with_reducible assumption) | assumption) | (have e_:=(Kd.S_reads' HO_6.out).1;omega));obtain ⟨ve755_2,rfl,ge755_2⟩:=k40_openM hMe755;have hv755_2:=hcc755 2 _ rfl;rw [add_field _ _ 2 (by omega)] at hv755_2;replace hv755_2:=Option.some.inj (hv755_2.symm.trans hx755_2);rw [hv755_2] at ge755_2;have HL755_2:=zMk (show Kd.R k45 45 _ _ _ _ ((rd_T40 t742 x8_3).f2) from ge755_2);clear hv755_2 ge755_2;clear hcc755 hce755;have HR755_2:=zMk hi755_2;have HC755_2:=zMk hl755_2;clear hi755_2 hl755_2;replace p755:=eq_true p755;replace q755:=eq_true q755;have ea_:=Option.some.inj (hx754_2.symm.trans hx755_2);injection ea_ with ea_ en_ ec_;subst ea_;subst ec_;clear en_;refine start_ (n:=37) (S:=fun w'=>w'.cell? ⟨gb753,0,none⟩ = some (.int .i64 ((rd_T40 t736 (ji36)).f0)) ∧ w'.cell? ⟨gb753,1,none⟩ = some (.int .i64 ((rd_T40 t736 (ji36)).f1)) ∧ w'.cell? ⟨gb753,2,none⟩ = some (.slice A752_2 ((rd_T40 t736 (ji36)).f2).length c752_2) ∧ w'.cell? (ad754.add ((x8_3).toNat * 3)) = some (.int .i64 ((rd_T40 t742 x8_3).f0)) ∧ w'.cell? ⟨(ad754.add ((x8_3).toNat * 3)).block,(ad754.add ((x8_3).toNat * 3)).off + 1,none⟩ = some (.int .i64 ((rd_T40 t742 x8_3).f1)) ∧ w'.cell? ⟨(ad754.add ((x8_3).toNat * 3)).block,(ad754.add ((x8_3).toNat * 3)).off + 2,none⟩ = some (.slice A754_2 ((rd_T40 t742 x8_3).f2).length c754_2) ∧ w'.cell? (ad754.add ((x8_3).toNat * 3)) = some (.int .i64 ((rd_T40 t742 x8_3).f0)) ∧ w'.cell? ⟨(ad754.add ((x8_3).toNat * 3)).block,(ad754.add ((x8_3).toNat * 3)).off + 1,none⟩ = some (.int .i64 ((rd_T40 t742 x8_3).f1)) ∧ w'.cell? ⟨(ad754.add ((x8_3).toNat * 3)).block,(ad754.add ((x8_3).toNat * 3)).off + 2,none⟩ = some (.slice A754_2 ((rd_T40 t742 x8_3).f2).length c754_2)) (ds:=[]) (zA 37 0) (by kernel_rfl) rfl rfl ⟨(zCl BK753.out 0).trans rfl,(zCl BK753.out 1).trans rfl,(zCl BK753.out 2).trans rfl,hx754_0,hx754_1,hx754_2,hx755_0,hx755_1,hx755_2⟩ (fun hHeld=>?_);refine with_tabW laws_FnGathers.tab18 laws_FnGathers.bits18 (fun HT_ HW_=>?_);generalize w55.drew = w56 at HO_4 HO_6 HL752_2 BK753 HB HL754_2 HL755_2 HR754_2 HR755_2 hx754_0 hx754_1 hx754_2 hx755_0 hx755_1 hx755_2 hHeld ⊢;refine zP 0 97 (zA 37 1) (any_of HT_.out (by kernel_rfl)) ?_;refine zP 1 98 (zA 37 3) (any_of HT_.out (by kernel_rfl)) ?_;refine zP 2 99 (zA 37 7) (any_of HT_.out (by kernel_rfl)) ?_;refine zP 3 100 (zA 37 15) (any_of HT_.out (by kernel_rfl)) ?_;refine zP 5 102 (zA 37 47) (any_of HT_.out (by kernel_rfl)) ?_;refine zT 4 101 (zA 37 63) (take_ofW HT_.out HW_.out (by kernel_rfl)) hHeld ?_;refine zT 6 103 (zA 37 127) (take_ofW HT_.out HW_.out (by kernel_rfl)) hHeld ?_;refine zP 7 104 (zA 37 255) (any_of HT_.out (by kernel_rfl)) ?_;refine zP 8 105 (zA 37 511) (any_of HT_.out (by kernel_rfl)) ?_;refine zP 9 106 (zA 37 1023) (any_of HT_.out (by kernel_rfl)) ?_;refine zP 10 107 (zA 37 2047) (any_of HT_.out (by kernel_rfl)) ?_;refine zP 11 108 (zA 37 4095) (any_of HT_.out (by kernel_rfl)) ?_;refine zP 12 109 (zA 37 8191) (any_of HT_.out (by kernel_rfl)) ?_;refine zP 14 111 (zA 37 24575) (any_of HT_.out (by kernel_rfl)) ?_;refine zT 13 110 (zA 37 32767) (take_ofW HT_.out HW_.out (by kernel_rfl)) hHeld ?_;refine zT 15 112 (zA 37 65535) (take_ofW HT_.out HW_.out (by kernel_rfl)) hHeld ?_;refine one_ (i:=16) (N:=some 113) (zA 37 131071) rfl rfl (one_of HT_.out (by kernel_rfl)) (by decide) (fun K hK=>?_);refine goes_ Try.func14 (by kernel_rfl) rfl #[.slice A754_2 ((rd_T40 t742 x8_3).f2).length c754_2,.slice A752_2 ((rd_T40 t736 (ji36)).f2).length c752_2] (by rfl) rfl rfl (by (try simp only [List.map_toArray,List.map_cons,List.map_nil]);first | done | (simp only [hji36];rfl) | rfl | (simp only [List.length_drop,List.length_take];rfl)) ?_;with_reducible refine (laws_sameRecs.calls k3 _ _ ((rd_T40 t742 x8_3).f2) _ _ ((rd_T40 t736 (ji36)).f2) true _ ?side1 ?side2 ?side3 ?side4 A41.out).mono ?_
              (case side1=>repeat (first | exact (by repeat (first | (with_reducible exact HR755_2.out) | (with_reducible refine Kd.C_alloc ?_ _) | (with_reducible refine Kd.C_drewN ?_ _) | (with_reducible refine Kd.C_drew ?_) | exact HR755_2.out)) | (with_reducible refine Kd.C_alloc ?_ _) | (with_reducible refine Kd.C_drewN ?_ _) | (with_reducible refine Kd.C_drew ?_)))
              (case side2=>exact HC755_2.out)
              (case side3=>repeat (first | exact ((Kd.R_reads' (rs HL752_2)).2.2) | (with_reducible refine Kd.C_alloc ?_ _) | (with_reducible refine Kd.C_drewN ?_ _) | (with_reducible refine Kd.C_drew ?_)))
              (case side4=>exact HC752_2.out)
              rintro e w' ⟨rfl,⟨nd,rfl⟩⟩;refine ⟨_,rfl,?_⟩;refine hK.out _ _ ⟨(zCl BK753.out 0).trans rfl,(zCl BK753.out 1).trans rfl,(zCl BK753.out 2).trans rfl,hHeld.2.2.2.1,hHeld.2.2.2.2.1,hHeld.2.2.2.2.2.1,hHeld.2.2.2.2.2.2.1,hHeld.2.2.2.2.2.2.2.1,hHeld.2.2.2.2.2.2.2.2⟩ (fun hHeld=>?_);clear hK K;refine norm_ (a':=?_) ?_ ?_;rotate_left
              ·show Act.put _ (some 113) _ = _;simp only [Act.put,zS1,zS2,zS3,i64_w,i32_w];rfl
              refine zP 17 114 (zA 37 262143) (any_of HT_.out (by kernel_rfl)) ?_;refine zP 18 115 (zA 37 524287) (any_of HT_.out (by kernel_rfl)) ?_;refine zP 19 116 (zA 37 1048575) (any_of HT_.out (by kernel_rfl)) ?_;refine zP 20 117 (zA 37 2097151) (any_of HT_.out (by kernel_rfl)) ?_;refine zP 21 118 (zA 37 4194303) (any_of HT_.out (by kernel_rfl)) ?_;refine zP 22 119 (zA 37 8388607) (any_of HT_.out (by kernel_rfl)) ?_;refine zP 23 120 (zA 37 16777215) (any_of HT_.out (by kernel_rfl)) ?_;refine zT 24 121 (zA 37 33554431) (take_ofW HT_.out HW_.out (by kernel_rfl)) hHeld ?_;refine zP 25 122 (zA 37 67108863) (any_of HT_.out (by kernel_rfl)) ?_;refine zP 26 123 (zA 37 134217727) (any_of HT_.out (by kernel_rfl)) ?_;refine zP 27 124 (zA 37 268435455) (any_of HT_.out (by kernel_rfl)) ?_;refine zP 28 125 (zA 37 536870911) (any_of HT_.out (by kernel_rfl)) ?_;refine pure_ (i:=29) (N:=some 126) (v:=undef) (a':=?_) #[true,true,true,true,true,true,true,true,true,true,true,true,true,true,true,true,true,true,true,true,true,true,true,true,true,true,true,true,true,true,false,false,false,false,false,false,false] rfl rfl (any_of HT_.out (by kernel_rfl)) (fun _ _ _ h=>h) (Or.inr ⟨by rfl,rfl⟩) ?_ ?_;rotate_left
              ·simp only [Act.put,zS1,zS2,zS3,i64_w,i32_w];rfl
              refine pure_ (i:=30) (N:=some 127) (v:=undef) (a':=?_) #[true,true,true,true,true,true,true,true,true,true,true,true,true,true,true,true,true,true,true,true,true,true,true,true,true,true,true,true,true,true,true,false,false,false,false,false,false] rfl rfl (any_of HT_.out (by kernel_rfl)) (fun _ _ _ h=>h) (Or.inr ⟨by rfl,rfl⟩) ?_ ?_;rotate_left
              ·simp only [Act.put,zS1,zS2,zS3,i64_w,i32_w];rfl
              refine pure_ (i:=31) (N:=some 128) (v:=undef) (a':=?_) #[true,true,true,true,true,true,true,true,true,true,true,true,true,true,true,true,true,true,true,true,true,true,true,true,true,true,true,true,true,true,true,true,false,false,false,false,false] rfl rfl (any_of HT_.out (by kernel_rfl)) (fun _ _ _ h=>h) (Or.inr ⟨by rfl,rfl⟩) ?_ ?_;rotate_left
              ·simp only [Act.put,zS1,zS2,zS3,i64_w,i32_w];rfl
              refine pure_ (i:=32) (N:=some 129) (v:=undef) (a':=?_) #[true,true,true,true,true,true,true,true,true,true,true,true,true,true,true,true,true,true,true,true,true,true,true,true,true,true,true,true,true,true,true,true,true,false,false,false,false] rfl rfl (any_of HT_.out (by kernel_rfl)) (fun _ _ _ h=>h) (Or.inr ⟨by rfl,rfl⟩) ?_ ?_;rotate_left
              ·simp only [Act.put,zS1,zS2,zS3,i64_w,i32_w];rfl
              refine pure_ (i:=33) (N:=some 130) (v:=undef) (a':=?_) #[true,true,true,true,true,true,true,true,true,true,true,true,true,true,true,true,true,true,true,true,true,true,true,true,true,true,true,true,true,true,true,true,true,true,false,false,false] rfl rfl (any_of HT_.out (by kernel_rfl)) (fun _ _ _ h=>h) (Or.inr ⟨by rfl,rfl⟩) ?_ ?_;rotate_left
              ·simp only [Act.put,zS1,zS2,zS3,i64_w,i32_w];rfl
              refine pure_ (i:=34) (N:=some 131) (v:=undef) (a':=?_) #[true,true,true,true,true,true,true,true,true,true,true,true,true,true,true,true,true,true,true,true,true,true,true,true,true,true,true,true,true,true,true,true,true,true,true,false,false] rfl rfl (any_of HT_.out (by kernel_rfl)) (fun _ _ _ h=>h) (Or.inr ⟨by rfl,rfl⟩) ?_ ?_;rotate_left
              ·simp only [Act.put,zS1,zS2,zS3,i64_w,i32_w];rfl
              refine zP 35 132 (zA 37 68719476735) (any_of HT_.out (by kernel_rfl)) ?_;refine zP 36 133 (zA 37 137438953471) (any_of HT_.out (by kernel_rfl)) ?_;refine done_ (done_of HT_.out (by kernel_rfl)) ?_
              try go_wp2
              go_roundg k3;case measure=>have:=HJ7.out;have:=HK2.out;have:=HK3.out;omega
              case rel=>exact ⟨(wrap64 (x8_3 + 1)),(by first | rfl | (simp;done) | (simp [*];done)),H',⟨by have:=HJ7.out;have:=HK2.out;have:=HK3.out;omega⟩,⟨by (with_reducible repeat (first | apply Kd.S_alloc | apply Kd.S_drewN | apply Kd.S_drew));exact Kd.S_mono HO_4.out (fun _ hk=>hk.1)⟩,⟨by (with_reducible repeat (first | apply Kd.S_alloc | apply Kd.S_drewN | apply Kd.S_drew));exact Kd.S_mono HO_6.out (fun _ hk=>hk.1)⟩,⟨hs1 HB GE753⟩⟩
             rw [if_neg c43] at H;have c43b0 : decide (0 < x8_3) = false:=decide_eq_false c43;clear c43;have H':=zMk H;clear H
             try go_wp2
             have n0_ : Aside0 (Kd.S k40 40 (((w48.setCell ⟨gb753,0,none⟩ (.int .i64 ((rd_T40 t736 (ji36)).f0))).setCell ⟨gb753,1,none⟩ (.int .i64 ((rd_T40 t736 (ji36)).f1))).setCell ⟨gb753,2,none⟩ (.slice A752_2 ((rd_T40 t736 (ji36)).f2).length c752_2)) w.heap.size (fun k_=>some k_ ≠ (.slice Ao47 t742.length co47 : Value).ownBlock ∧ k_ ≠ gb753) (.slice (some ad752) t736.length co13) t736):=⟨by (with_reducible repeat (first | apply Kd.S_alloc | apply Kd.S_drewN | apply Kd.S_drew));exact Kd.S_mono (Kd.S_far (p:=⟨gb753,2,none⟩) (Kd.S_far (p:=⟨gb753,1,none⟩) (Kd.S_far (p:=⟨gb753,0,none⟩) (Kd.S_mono HO_4.out (fun k_ hk=>(⟨hk,hk.2⟩ : _ ∧ k_ ≠ gb753))) (fun _ hk=>hk.2) (.int .i64 ((rd_T40 t736 (ji36)).f0))) (fun _ hk=>hk.2) (.int .i64 ((rd_T40 t736 (ji36)).f1))) (fun _ hk=>hk.2) (.slice A752_2 ((rd_T40 t736 (ji36)).f2).length c752_2)) (fun _ hk=>⟨hk.1.1,hk.1.2⟩)⟩;have n1_ : Aside0 (Kd.S k40 40 (((w48.setCell ⟨gb753,0,none⟩ (.int .i64 ((rd_T40 t736 (ji36)).f0))).setCell ⟨gb753,1,none⟩ (.int .i64 ((rd_T40 t736 (ji36)).f1))).setCell ⟨gb753,2,none⟩ (.slice A752_2 ((rd_T40 t736 (ji36)).f2).length c752_2)) w.heap.size (fun k_=>some k_ ≠ (.slice (some ad752) t736.length co13 : Value).ownBlock ∧ k_ ≠ gb753) (.slice Ao47 t742.length co47) t742):=⟨by (with_reducible repeat (first | apply Kd.S_alloc | apply Kd.S_drewN | apply Kd.S_drew));exact Kd.S_mono (Kd.S_far (p:=⟨gb753,2,none⟩) (Kd.S_far (p:=⟨gb753,1,none⟩) (Kd.S_far (p:=⟨gb753,0,none⟩) (Kd.S_mono HO_6.out (fun k_ hk=>(⟨hk,hk.2⟩ : _ ∧ k_ ≠ gb753))) (fun _ hk=>hk.2) (.int .i64 ((rd_T40 t736 (ji36)).f0))) (fun _ hk=>hk.2) (.int .i64 ((rd_T40 t736 (ji36)).f1))) (fun _ hk=>hk.2) (.slice A752_2 ((rd_T40 t736 (ji36)).f2).length c752_2)) (fun _ hk=>⟨hk.1.1,hk.1.2⟩)⟩;have n2_ : Aside0 (Kd.R k45 45 (((w48.setCell ⟨gb753,0,none⟩ (.int .i64 ((rd_T40 t736 (ji36)).f0))).setCell ⟨gb753,1,none⟩ (.int .i64 ((rd_T40 t736 (ji36)).f1))).setCell ⟨gb753,2,none⟩ (.slice A752_2 ((rd_T40 t736 (ji36)).f2).length c752_2)) w.heap.size (fun k_=>some k_ ≠ (.slice (some ad752) t736.length co13 : Value).ownBlock ∧ some k_ ≠ (.slice Ao47 t742.length co47 : Value).ownBlock) (.slice A752_2 ((rd_T40 t736 (ji36)).f2).length c752_2) ((rd_T40 t736 (ji36)).f2)):=⟨by (with_reducible repeat (first | apply Kd.R_alloc | apply Kd.R_drewN | apply Kd.R_drew));exact Kd.R_mono (Kd.R_far (p:=⟨gb753,2,none⟩) (Kd.R_far (p:=⟨gb753,1,none⟩) (Kd.R_far (p:=⟨gb753,0,none⟩) (Kd.R_types HL752_2.out BK753.out (by decide)) (fun _ hk=>hk.2) (.int .i64 ((rd_T40 t736 (ji36)).f0))) (fun _ hk=>hk.2) (.int .i64 ((rd_T40 t736 (ji36)).f1))) (fun _ hk=>hk.2) (.slice A752_2 ((rd_T40 t736 (ji36)).f2).length c752_2)) (fun _ hk=>⟨hk.1.2,hk.1.1⟩)⟩;have n3_ : Aside0 ((((w48.setCell ⟨gb753,0,none⟩ (.int .i64 ((rd_T40 t736 (ji36)).f0))).setCell ⟨gb753,1,none⟩ (.int .i64 ((rd_T40 t736 (ji36)).f1))).setCell ⟨gb753,2,none⟩ (.slice A752_2 ((rd_T40 t736 (ji36)).f2).length c752_2)).heap[gb753]? = some (.cells #[.int .i64 ((rd_T40 t736 (ji36)).f0),.int .i64 ((rd_T40 t736 (ji36)).f1),.slice A752_2 ((rd_T40 t736 (ji36)).f2).length c752_2] 40 (0,0))):=⟨by (with_reducible repeat (first | refine blk_drewN ?_ _ | refine blk_drew ?_ | refine blk_alloc ?_ _));refine blk_put (cs:=#[.int .i64 ((rd_T40 t736 (ji36)).f0),.int .i64 ((rd_T40 t736 (ji36)).f1),.slice none 0 0]) ?_ 2 _ rfl;(with_reducible repeat (first | refine blk_drewN ?_ _ | refine blk_drew ?_ | refine blk_alloc ?_ _));refine blk_put (cs:=#[.int .i64 ((rd_T40 t736 (ji36)).f0),.int .i64 0,.slice none 0 0]) ?_ 1 _ rfl;(with_reducible repeat (first | refine blk_drewN ?_ _ | refine blk_drew ?_ | refine blk_alloc ?_ _));refine blk_put (cs:=#[.int .i64 0,.int .i64 0,.slice none 0 0]) ?_ 0 _ rfl;(with_reducible repeat (first | refine blk_drewN ?_ _ | refine blk_drew ?_ | refine blk_alloc ?_ _));exact BK753.out⟩;have n4_ : Aside0 (Below w.heap.size w (((w48.setCell ⟨gb753,0,none⟩ (.int .i64 ((rd_T40 t736 (ji36)).f0))).setCell ⟨gb753,1,none⟩ (.int .i64 ((rd_T40 t736 (ji36)).f1))).setCell ⟨gb753,2,none⟩ (.slice A752_2 ((rd_T40 t736 (ji36)).f2).length c752_2))):=⟨hs1 HB GE753⟩
             (try clear HO_4)
             (try clear HO_6)
             (try clear HL752_2)
             (try clear BK753)
             (try clear HB)
             generalize (((w48.setCell ⟨gb753,0,none⟩ (.int .i64 ((rd_T40 t736 (ji36)).f0))).setCell ⟨gb753,1,none⟩ (.int .i64 ((rd_T40 t736 (ji36)).f1))).setCell ⟨gb753,2,none⟩ (.slice A752_2 ((rd_T40 t736 (ji36)).f2).length c752_2)) = w60 at n0_ n1_ n2_ n3_ n4_ ⊢;have HO_4:=n0_;have HO_6:=n1_;have HL752_2:=n2_;have BK753:=n3_;have HB:=n4_;clear n0_ n1_ n2_ n3_ n4_;have n0_:=zMk (Kd.S_drew HO_4.out);have n1_:=zMk (Kd.S_drew HO_6.out);have n2_:=zMk (Kd.R_drew HL752_2.out);have n3_:=zMk (blk_drew BK753.out);have n4_:=zMk (below_drew1 HB.out);clear HO_4;clear HO_6;clear HL752_2;clear BK753;clear HB;have HO_4:=n0_;have HO_6:=n1_;have HL752_2:=n2_;have BK753:=n3_;have HB:=n4_;clear n0_ n1_ n2_ n3_ n4_;have p754 : 0 ≤ (x8_3 : Int):=zDe (by first | (with_reducible assumption) | assumption);have q754 : x8_3 < (t742.length : Int):=zDe (by first | (with_reducible assumption) | assumption);obtain ⟨ad754,A754_2,c754_2,e754,hx754_0,hx754_1,hx754_2,hl754_2,hi754_2⟩:=at_T40 (Kd.S_reads' HO_6.out).2.2 x8_3 p754 q754;cases e754;obtain ⟨ce754,hce754,hMe754,hcc754⟩:=Kd.S_get HO_6.out z40 x8_3 p754 (by first | exact q754 | exact zDe (by first | (with_reducible assumption) | assumption) | (have e_:=(Kd.S_reads' HO_6.out).1;omega));obtain ⟨ve754_2,rfl,ge754_2⟩:=k40_openM hMe754;have hv754_2:=hcc754 2 _ rfl;rw [add_field _ _ 2 (by omega)] at hv754_2;replace hv754_2:=Option.some.inj (hv754_2.symm.trans hx754_2);rw [hv754_2] at ge754_2;have HL754_2:=zMk (show Kd.R k45 45 _ _ _ _ ((rd_T40 t742 x8_3).f2) from ge754_2);clear hv754_2 ge754_2;clear hcc754 hce754;have HR754_2:=zMk hi754_2;have HC754_2:=zMk hl754_2;clear hi754_2 hl754_2;replace p754:=eq_true p754;replace q754:=eq_true q754;have p755 : 0 ≤ (x8_3 : Int):=zDe (by first | (with_reducible assumption) | assumption);have q755 : x8_3 < (t742.length : Int):=zDe (by first | (with_reducible assumption) | assumption);obtain ⟨ad755,A755_2,c755_2,e755,hx755_0,hx755_1,hx755_2,hl755_2,hi755_2⟩:=at_T40 (Kd.S_reads' HO_6.out).2.2 x8_3 p755 q755;obtain rfl : ad754 = ad755:=(by injection e755);obtain ⟨ce755,hce755,hMe755,hcc755⟩:=Kd.S_get HO_6.out z40 x8_3 p755 (by first | exact q755 | exact zDe (by first | (with_reducible assumption) | assumption) | (have e_:=(Kd.S_reads' HO_6.out).1;omega));obtain ⟨ve755_2,rfl,ge755_2⟩:=k40_openM hMe755;have hv755_2:=hcc755 2 _ rfl;rw [add_field _ _ 2 (by omega)] at hv755_2;replace hv755_2:=Option.some.inj (hv755_2.symm.trans hx755_2);rw [hv755_2] at ge755_2;have HL755_2:=zMk (show Kd.R k45 45 _ _ _ _ ((rd_T40 t742 x8_3).f2) from ge755_2);clear hv755_2 ge755_2;clear hcc755 hce755;have HR755_2:=zMk hi755_2;have HC755_2:=zMk hl755_2;clear hi755_2 hl755_2;replace p755:=eq_true p755;replace q755:=eq_true q755;have ea_:=Option.some.inj (hx754_2.symm.trans hx755_2);injection ea_ with ea_ en_ ec_;subst ea_;subst ec_;clear en_;refine start_ (n:=37) (S:=fun w'=>w'.cell? ⟨gb753,0,none⟩ = some (.int .i64 ((rd_T40 t736 (ji36)).f0)) ∧ w'.cell? ⟨gb753,1,none⟩ = some (.int .i64 ((rd_T40 t736 (ji36)).f1)) ∧ w'.cell? ⟨gb753,2,none⟩ = some (.slice A752_2 ((rd_T40 t736 (ji36)).f2).length c752_2) ∧ w'.cell? (ad754.add ((x8_3).toNat * 3)) = some (.int .i64 ((rd_T40 t742 x8_3).f0)) ∧ w'.cell? ⟨(ad754.add ((x8_3).toNat * 3)).block,(ad754.add ((x8_3).toNat * 3)).off + 1,none⟩ = some (.int .i64 ((rd_T40 t742 x8_3).f1)) ∧ w'.cell? ⟨(ad754.add ((x8_3).toNat * 3)).block,(ad754.add ((x8_3).toNat * 3)).off + 2,none⟩ = some (.slice A754_2 ((rd_T40 t742 x8_3).f2).length c754_2) ∧ w'.cell? (ad754.add ((x8_3).toNat * 3)) = some (.int .i64 ((rd_T40 t742 x8_3).f0)) ∧ w'.cell? ⟨(ad754.add ((x8_3).toNat * 3)).block,(ad754.add ((x8_3).toNat * 3)).off + 1,none⟩ = some (.int .i64 ((rd_T40 t742 x8_3).f1)) ∧ w'.cell? ⟨(ad754.add ((x8_3).toNat * 3)).block,(ad754.add ((x8_3).toNat * 3)).off + 2,none⟩ = some (.slice A754_2 ((rd_T40 t742 x8_3).f2).length c754_2)) (ds:=[]) (zA 37 0) (by kernel_rfl) rfl rfl ⟨(zCl BK753.out 0).trans rfl,(zCl BK753.out 1).trans rfl,(zCl BK753.out 2).trans rfl,hx754_0,hx754_1,hx754_2,hx755_0,hx755_1,hx755_2⟩ (fun hHeld=>?_);refine with_tabW laws_FnGathers.tab18 laws_FnGathers.bits18 (fun HT_ HW_=>?_);generalize w60.drew = w61 at HO_4 HO_6 HL752_2 BK753 HB HL754_2 HL755_2 HR754_2 HR755_2 hx754_0 hx754_1 hx754_2 hx755_0 hx755_1 hx755_2 hHeld ⊢;refine zP 0 97 (zA 37 1) (any_of HT_.out (by kernel_rfl)) ?_;refine zP 1 98 (zA 37 3) (any_of HT_.out (by kernel_rfl)) ?_;refine zP 2 99 (zA 37 7) (any_of HT_.out (by kernel_rfl)) ?_;refine zP 3 100 (zA 37 15) (any_of HT_.out (by kernel_rfl)) ?_;refine zP 5 102 (zA 37 47) (any_of HT_.out (by kernel_rfl)) ?_;refine zT 4 101 (zA 37 63) (take_ofW HT_.out HW_.out (by kernel_rfl)) hHeld ?_;refine zT 6 103 (zA 37 127) (take_ofW HT_.out HW_.out (by kernel_rfl)) hHeld ?_;refine zP 7 104 (zA 37 255) (any_of HT_.out (by kernel_rfl)) ?_;refine zP 8 105 (zA 37 511) (any_of HT_.out (by kernel_rfl)) ?_;refine zP 9 106 (zA 37 1023) (any_of HT_.out (by kernel_rfl)) ?_;refine zP 10 107 (zA 37 2047) (any_of HT_.out (by kernel_rfl)) ?_;refine zP 11 108 (zA 37 4095) (any_of HT_.out (by kernel_rfl)) ?_;refine zP 12 109 (zA 37 8191) (any_of HT_.out (by kernel_rfl)) ?_;refine zP 14 111 (zA 37 24575) (any_of HT_.out (by kernel_rfl)) ?_;refine zT 13 110 (zA 37 32767) (take_ofW HT_.out HW_.out (by kernel_rfl)) hHeld ?_;refine zT 15 112 (zA 37 65535) (take_ofW HT_.out HW_.out (by kernel_rfl)) hHeld ?_;refine one_ (i:=16) (N:=some 113) (zA 37 131071) rfl rfl (one_of HT_.out (by kernel_rfl)) (by decide) (fun K hK=>?_);refine goes_ Try.func14 (by kernel_rfl) rfl #[.slice A754_2 ((rd_T40 t742 x8_3).f2).length c754_2,.slice A752_2 ((rd_T40 t736 (ji36)).f2).length c752_2] (by rfl) rfl rfl (by (try simp only [List.map_toArray,List.map_cons,List.map_nil]);first | done | (simp only [hji36];rfl) | rfl | (simp only [List.length_drop,List.length_take];rfl)) ?_;with_reducible refine (laws_sameRecs.calls k3 _ _ ((rd_T40 t742 x8_3).f2) _ _ ((rd_T40 t736 (ji36)).f2) true _ ?side1 ?side2 ?side3 ?side4 A41.out).mono ?_
             (case side1=>repeat (first | exact (by repeat (first | (with_reducible exact HR755_2.out) | (with_reducible refine Kd.C_alloc ?_ _) | (with_reducible refine Kd.C_drewN ?_ _) | (with_reducible refine Kd.C_drew ?_) | exact HR755_2.out)) | (with_reducible refine Kd.C_alloc ?_ _) | (with_reducible refine Kd.C_drewN ?_ _) | (with_reducible refine Kd.C_drew ?_)))
             (case side2=>exact HC755_2.out)
             (case side3=>repeat (first | exact ((Kd.R_reads' (rs HL752_2)).2.2) | (with_reducible refine Kd.C_alloc ?_ _) | (with_reducible refine Kd.C_drewN ?_ _) | (with_reducible refine Kd.C_drew ?_)))
             (case side4=>exact HC752_2.out)
             rintro e w' ⟨rfl,⟨nd,rfl⟩⟩;refine ⟨_,rfl,?_⟩;refine hK.out _ _ ⟨(zCl BK753.out 0).trans rfl,(zCl BK753.out 1).trans rfl,(zCl BK753.out 2).trans rfl,hHeld.2.2.2.1,hHeld.2.2.2.2.1,hHeld.2.2.2.2.2.1,hHeld.2.2.2.2.2.2.1,hHeld.2.2.2.2.2.2.2.1,hHeld.2.2.2.2.2.2.2.2⟩ (fun hHeld=>?_);clear hK K;refine norm_ (a':=?_) ?_ ?_;rotate_left
             ·show Act.put _ (some 113) _ = _;simp only [Act.put,zS1,zS2,zS3,i64_w,i32_w];rfl
             refine zP 17 114 (zA 37 262143) (any_of HT_.out (by kernel_rfl)) ?_;refine zP 18 115 (zA 37 524287) (any_of HT_.out (by kernel_rfl)) ?_;refine zP 19 116 (zA 37 1048575) (any_of HT_.out (by kernel_rfl)) ?_;refine zP 20 117 (zA 37 2097151) (any_of HT_.out (by kernel_rfl)) ?_;refine zP 21 118 (zA 37 4194303) (any_of HT_.out (by kernel_rfl)) ?_;refine zP 22 119 (zA 37 8388607) (any_of HT_.out (by kernel_rfl)) ?_;refine pure_ (i:=23) (N:=some 120) (v:=undef) (a':=?_) #[true,true,true,true,true,true,true,true,true,true,true,true,true,true,true,true,true,true,true,true,true,true,true,true,false,false,false,false,false,false,false,false,false,false,false,false,false] rfl rfl (any_of HT_.out (by kernel_rfl)) (fun _ _ _ h=>h) (Or.inr ⟨by rfl,rfl⟩) ?_ ?_;rotate_left
             ·simp only [Act.put,zS1,zS2,zS3,i64_w,i32_w];rfl
             refine pure_ (i:=24) (N:=some 121) (v:=undef) (a':=?_) #[true,true,true,true,true,true,true,true,true,true,true,true,true,true,true,true,true,true,true,true,true,true,true,true,true,false,false,false,false,false,false,false,false,false,false,false,false] rfl rfl (any_of HT_.out (by kernel_rfl)) (fun _ _ _ h=>h) (Or.inr ⟨by rfl,rfl⟩) ?_ ?_;rotate_left
             ·simp only [Act.put,zS1,zS2,zS3,i64_w,i32_w];rfl
             refine pure_ (i:=25) (N:=some 122) (v:=undef) (a':=?_) #[true,true,true,true,true,true,true,true,true,true,true,true,true,true,true,true,true,true,true,true,true,true,true,true,true,true,false,false,false,false,false,false,false,false,false,false,false] rfl rfl (any_of HT_.out (by kernel_rfl)) (fun _ _ _ h=>h) (Or.inr ⟨by rfl,rfl⟩) ?_ ?_;rotate_left
             ·simp only [Act.put,zS1,zS2,zS3,i64_w,i32_w];rfl
             refine pure_ (i:=26) (N:=some 123) (v:=undef) (a':=?_) #[true,true,true,true,true,true,true,true,true,true,true,true,true,true,true,true,true,true,true,true,true,true,true,true,true,true,true,false,false,false,false,false,false,false,false,false,false] rfl rfl (any_of HT_.out (by kernel_rfl)) (fun _ _ _ h=>h) (Or.inr ⟨by rfl,rfl⟩) ?_ ?_;rotate_left
             ·simp only [Act.put,zS1,zS2,zS3,i64_w,i32_w];rfl
             refine zP 27 124 (zA 37 268435455) (any_of HT_.out (by kernel_rfl)) ?_;refine zP 28 125 (zA 37 536870911) (any_of HT_.out (by kernel_rfl)) ?_;refine pure_ (i:=29) (N:=some 126) (v:=undef) (a':=?_) #[true,true,true,true,true,true,true,true,true,true,true,true,true,true,true,true,true,true,true,true,true,true,true,true,true,true,true,true,true,true,false,false,false,false,false,false,false] rfl rfl (any_of HT_.out (by kernel_rfl)) (fun _ _ _ h=>h) (Or.inr ⟨by rfl,rfl⟩) ?_ ?_;rotate_left
             ·simp only [Act.put,zS1,zS2,zS3,i64_w,i32_w];rfl
             refine pure_ (i:=30) (N:=some 127) (v:=undef) (a':=?_) #[true,true,true,true,true,true,true,true,true,true,true,true,true,true,true,true,true,true,true,true,true,true,true,true,true,true,true,true,true,true,true,false,false,false,false,false,false] rfl rfl (any_of HT_.out (by kernel_rfl)) (fun _ _ _ h=>h) (Or.inr ⟨by rfl,rfl⟩) ?_ ?_;rotate_left
             ·simp only [Act.put,zS1,zS2,zS3,i64_w,i32_w];rfl
             refine pure_ (i:=31) (N:=some 128) (v:=undef) (a':=?_) #[true,true,true,true,true,true,true,true,true,true,true,true,true,true,true,true,true,true,true,true,true,true,true,true,true,true,true,true,true,true,true,true,false,false,false,false,false] rfl rfl (any_of HT_.out (by kernel_rfl)) (fun _ _ _ h=>h) (Or.inr ⟨by rfl,rfl⟩) ?_ ?_;rotate_left
             ·simp only [Act.put,zS1,zS2,zS3,i64_w,i32_w];rfl
             refine pure_ (i:=32) (N:=some 129) (v:=undef) (a':=?_) #[true,true,true,true,true,true,true,true,true,true,true,true,true,true,true,true,true,true,true,true,true,true,true,true,true,true,true,true,true,true,true,true,true,false,false,false,false] rfl rfl (any_of HT_.out (by kernel_rfl)) (fun _ _ _ h=>h) (Or.inr ⟨by rfl,rfl⟩) ?_ ?_;rotate_left
             ·simp only [Act.put,zS1,zS2,zS3,i64_w,i32_w];rfl
             refine pure_ (i:=33) (N:=some 130) (v:=undef) (a':=?_) #[true,true,true,true,true,true,true,true,true,true,true,true,true,true,true,true,true,true,true,true,true,true,true,true,true,true,true,true,true,true,true,true,true,true,false,false,false] rfl rfl (any_of HT_.out (by kernel_rfl)) (fun _ _ _ h=>h) (Or.inr ⟨by rfl,rfl⟩) ?_ ?_;rotate_left
             ·simp only [Act.put,zS1,zS2,zS3,i64_w,i32_w];rfl
             refine pure_ (i:=34) (N:=some 131) (v:=undef) (a':=?_) #[true,true,true,true,true,true,true,true,true,true,true,true,true,true,true,true,true,true,true,true,true,true,true,true,true,true,true,true,true,true,true,true,true,true,true,false,false] rfl rfl (any_of HT_.out (by kernel_rfl)) (fun _ _ _ h=>h) (Or.inr ⟨by rfl,rfl⟩) ?_ ?_;rotate_left
             ·simp only [Act.put,zS1,zS2,zS3,i64_w,i32_w];rfl
             refine zP 35 132 (zA 37 68719476735) (any_of HT_.out (by kernel_rfl)) ?_;refine zP 36 133 (zA 37 137438953471) (any_of HT_.out (by kernel_rfl)) ?_;refine done_ (done_of HT_.out (by kernel_rfl)) ?_
             try go_wp2
             go_roundg k3;case measure=>have:=HJ7.out;have:=HK2.out;have:=HK3.out;omega
             case rel=>exact ⟨(wrap64 (x8_3 + 1)),(by first | rfl | (simp;done) | (simp [*];done)),H',⟨by have:=HJ7.out;have:=HK2.out;have:=HK3.out;omega⟩,⟨by (with_reducible repeat (first | apply Kd.S_alloc | apply Kd.S_drewN | apply Kd.S_drew));exact Kd.S_mono HO_4.out (fun _ hk=>hk.1)⟩,⟨by (with_reducible repeat (first | apply Kd.S_alloc | apply Kd.S_drewN | apply Kd.S_drew));exact Kd.S_mono HO_6.out (fun _ hk=>hk.1)⟩,⟨hs1 HB GE753⟩⟩
            replace c42:=Bool.eq_false_iff.mpr c42;subst c42;have H1 : (some false) = some r:=by rw [if_neg (show ¬ (false = true) by decide)] at H;exact H
            clear H;have H:=H1;clear H1;exact absurd ((Option.some.inj H).trans hT.out) (by decide)
           rw [if_neg c40] at H;have c40b0 : (((rd_T40 t742 x8_3).f0) == ((rd_T40 t736 (ji36)).f0)) = false:=beq_eq_false_iff_ne.mpr c40;have c40b1 : (((rd_T40 t742 x8_3).f0) != ((rd_T40 t736 (ji36)).f0)) = true:=bne_iff_ne.mpr c40;exact absurd ((Option.some.inj H).trans hT.out) (by decide)
          rw [if_neg c39] at H;exact absurd H (by simp)
         rw [if_neg c38] at H;exact absurd H (by simp)
        rw [if_neg c37] at H;exact absurd H (by simp)
       rw [if_neg c35] at H;have c35b0 : decide (x8_3 < (t742.length : Int)) = false:=decide_eq_false c35;clear c35
       by_cases c62 : (t742.length : Int) = (t736.length : Int)
       ·rw [if_pos c62] at H;have c62b0 : ((t742.length : Int) == (t736.length : Int)) = true:=beq_iff_eq.mpr c62;have c62b1 : ((t742.length : Int) != (t736.length : Int)) = false:=bne_eq_false_iff_eq.mpr c62;have c62b2 : (t742.length == t736.length) = true:=by first | simpa using c62 | (simp at c62 ⊢;omega)
        clear c62;obtain rfl:=Option.some.inj H;obtain ⟨Ao63,co63,eo63⟩:=Kd.S_slice HO_6.out;subst eo63
        go_wp2
        go_ret
        exact ⟨by first | rfl | (simp [errW_none,errW_some] <;> rfl) | (simp [*,errW_none,errW_some] <;> rfl),hs HB⟩
       rw [if_neg c62] at H;have c62b0 : ((t742.length : Int) == (t736.length : Int)) = false:=beq_eq_false_iff_ne.mpr c62;have c62b1 : ((t742.length : Int) != (t736.length : Int)) = true:=bne_iff_ne.mpr c62;have c62b2 : (t742.length == t736.length) = false:=by first | simpa using c62 | (simp at c62 ⊢;omega)
       by_cases c64 : 0 < (t742.length : Int)
       ·rw [if_pos c64] at H;have c64b0 : decide (0 < (t742.length : Int)) = true:=decide_eq_true c64;have c64b1 : decide (0 < t742.length) = true:=decide_eq_true (by omega);clear c64
        by_cases c65 : 0 < (((rd_T40 t742 0).f2).length : Int)
        ·rw [if_pos c65] at H;have c65b0 : decide (0 < (((rd_T40 t742 0).f2).length : Int)) = true:=decide_eq_true c65;have c65b1 : decide (0 < ((rd_T40 t742 0).f2).length) = true:=decide_eq_true (by omega);clear c65;obtain rfl:=Option.some.inj H;obtain ⟨Ao66,co66,eo66⟩:=Kd.S_slice HO_6.out;subst eo66;have p758 : 0 ≤ (0 : Int):=(by omega);have q758 : 0 < (t742.length : Int):=zDe (by first | (with_reducible assumption) | assumption);obtain ⟨ad758,A758_2,c758_2,e758,hx758_0,hx758_1,hx758_2,hl758_2,hi758_2⟩:=at_T40 (Kd.S_reads' HO_6.out).2.2 0 p758 q758;cases e758;obtain ⟨ce758,hce758,hMe758,hcc758⟩:=Kd.S_get HO_6.out z40 0 p758 (by first | exact q758 | exact zDe (by first | (with_reducible assumption) | assumption) | (have e_:=(Kd.S_reads' HO_6.out).1;omega));obtain ⟨ve758_2,rfl,ge758_2⟩:=k40_openM hMe758;have hv758_2:=hcc758 2 _ rfl;rw [add_field _ _ 2 (by omega)] at hv758_2;replace hv758_2:=Option.some.inj (hv758_2.symm.trans hx758_2);rw [hv758_2] at ge758_2;have HL758_2:=zMk (show Kd.R k45 45 _ _ _ _ ((rd_T40 t742 0).f2) from ge758_2);clear hv758_2 ge758_2;clear hcc758 hce758;have qi758 : (0 < t742.length) = True:=eq_true (by omega)
         (try rw [show ((0 : Int)).toNat = 0 from rfl] at hx758_0)
         (try rw [show 0 * 3 = 0 from rfl] at hx758_0)
         (try rw [Addr.add_zero'] at hx758_0)
         (try rw [show ((0 : Int)).toNat = 0 from rfl] at hx758_1)
         (try rw [show 0 * 3 = 0 from rfl] at hx758_1)
         (try rw [Addr.add_zero'] at hx758_1)
         (try rw [show ((0 : Int)).toNat = 0 from rfl] at hx758_2)
         (try rw [show 0 * 3 = 0 from rfl] at hx758_2)
         (try rw [Addr.add_zero'] at hx758_2)
         have HR758_2:=zMk hi758_2;have HC758_2:=zMk hl758_2;clear hi758_2 hl758_2;replace p758:=eq_true p758;replace q758:=eq_true q758;have p759 : 0 ≤ (0 : Int):=(by omega);have q759 : 0 < (((rd_T40 t742 0).f2).length : Int):=zDe (by first | (with_reducible assumption) | assumption);obtain ⟨ad759,e759,hx759_0,hx759_1,hx759_2,hx759_3⟩:=at_T45 (by repeat (first | (with_reducible exact HR758_2.out) | (with_reducible refine Kd.C_alloc ?_ _) | (with_reducible refine Kd.C_drewN ?_ _) | (with_reducible refine Kd.C_drew ?_) | exact HR758_2.out)) 0 p759 q759;cases e759;have qi759 : (0 < ((rd_T40 t742 0).f2).length) = True:=eq_true (by omega)
         (try rw [show ((0 : Int)).toNat = 0 from rfl] at hx759_0)
         (try rw [show 0 * 4 = 0 from rfl] at hx759_0)
         (try rw [Addr.add_zero'] at hx759_0)
         (try rw [show ((0 : Int)).toNat = 0 from rfl] at hx759_1)
         (try rw [show 0 * 4 = 0 from rfl] at hx759_1)
         (try rw [Addr.add_zero'] at hx759_1)
         (try rw [show ((0 : Int)).toNat = 0 from rfl] at hx759_2)
         (try rw [show 0 * 4 = 0 from rfl] at hx759_2)
         (try rw [Addr.add_zero'] at hx759_2)
         (try rw [show ((0 : Int)).toNat = 0 from rfl] at hx759_3)
         (try rw [show 0 * 4 = 0 from rfl] at hx759_3)
         (try rw [Addr.add_zero'] at hx759_3)
         replace p759:=eq_true p759;replace q759:=eq_true q759
         go_wp2
         go_ret
         exact ⟨by first | rfl | (simp [errW_none,errW_some] <;> rfl) | (simp [*,errW_none,errW_some] <;> rfl),hs HB⟩
        rw [if_neg c65] at H;exact absurd H (by simp)
       rw [if_neg c64] at H;exact absurd H (by simp)
def laws_FnGathers.Pure : Prop:=∀ (l0 : List Int),l0.length ≤ maxLen → l0.length * 1 ≤ 140737488351232 → (∀ x ∈ l0,(Lit.int .u8 x).wf = true) → ∃ k,laws_FnGathers.f k l0 = some true
theorem laws_FnGathers.walk (P : laws_FnGathers.Pure) (a0 : Option Addr) (len0 cap0 : Nat) (z0 : List Int) (w : World) (w0 : (a0 = none ∧ len0 = 0 ∧ cap0 = 0 ∧ z0 = []) ∨ ∃ x,a0 = some x ∧ len0 ≤ cap0 ∧ cap0 ≤ maxLen ∧ z0.length = cap0 ∧ (∀ i,i < z0.length → w.cell? (x.add i) = some (.int .u8 (z0.getD i 0))) ∧ ∀ n ∈ z0,(Lit.int .u8 n).wf = true) (y0 : len0 * 1 ≤ 140737488351232) :
  Calls Try.prog 5 #[.slice a0 len0 cap0] w fun e w'=>e = .returned (.bool true) ∧ Below w.heap.size w w':=by
 obtain ⟨l0,rfl,hr0,hm0,hw0,hc0⟩:=ReadsInt.ofRowC w0;obtain ⟨k,h⟩:=P l0 hm0 y0 hw0;refine (laws_FnGathers.calls k _ _ l0 true ⟨rfl⟩ w (Kd.C_of_reads (d:=(0 : Int)) (h1:=fun _=>rfl) hr0) hc0 h).mono ?_;rintro e w' ⟨rfl,hd⟩;exact ⟨rfl,hd⟩
end Go.Proofs.Ytodokejcmbjpbaa.PK

/- Plain facts on rounds, lists and whole numbers, for the pure statements. -/
namespace Go.Proofs.Ytodokejcmbjpbaa.Pu
open Go.RowKit Go.Proofs.YtodokejcmbjpbaaW.PrintWords
theorem w64 {x : Int} (h1 : -9223372036854775808 ≤ x) (h2 : x ≤ 9223372036854775807) : wrap64 x = x := by
  unfold wrap64; omega
theorem wsucc {i n : Nat} (h : i < n) (hn : n ≤ 9223372036854775807) : wrap64 ((i : Int) + 1) = ((i + 1 : Nat) : Int) := by
  rw [w64 (by omega) (by omega)]; rfl
theorem wf_i64 {n : Int} (h : (Lit.int .i64 n).wf = true) : -9223372036854775808 ≤ n ∧ n ≤ 9223372036854775807 := by
  simp only [Lit.wf, Bool.and_eq_true, decide_eq_true_eq] at h
  have h1 : IntKind.min .i64 = -9223372036854775808 := by decide
  have h2 : IntKind.max .i64 = 9223372036854775807 := by decide
  omega

/-- Rounds: what is told, a step on. -/
theorem ev_some {α : Type} {g : Nat → Option α} {r : α} (h : ∀ k, g (k + 1) = some r) : Ev g r := Ev.step h (Ev.now r)
theorem ev_const {α : Type} {o : Option α} {r : α} (h : o = some r) : Ev (fun _ => o) r := ⟨0, fun _ _ => h⟩
theorem ev_bind {α β : Type} {g : Nat → Option α} {f : Nat → α → Option β} {a : α} {r : β} (h : Ev g a) (k : Ev (fun n => f n a) r) : Ev (fun n => (g n).bind (f n)) r := Ev.bind h k
theorem ev_uniq {α : Type} {g : Nat → Option α} {a b : α} (h : Ev g a) (k : Ev g b) : a = b := by
  obtain ⟨K, hK⟩ := h
  obtain ⟨M, hM⟩ := k
  have h1 := hK (max K M) (Nat.le_max_left _ _)
  rw [hM (max K M) (Nat.le_max_right _ _)] at h1
  injection h1 with h1
  exact h1.symm
theorem ev_ext {α : Type} {g f : Nat → Option α} {r : α} (h : ∀ k, g k = f k) (k : Ev f r) : Ev g r := Ev.congr h k

/-- A row that is made and filled, place by place. -/
theorem ev_fill {β : Type} {L : Nat → List β → Int → Option (List β)} {E : Nat → Int → Option β} {n : Nat} {e : Nat → β} (hn : n ≤ 9223372036854775807)
    (hs : ∀ k xs i, L (k + 1) xs i = if i < (n : Int) then (if 0 ≤ i then ((E k i).bind fun b => if i < (xs.length : Int) then L k (xs.set i.toNat b) (wrap64 (i + 1)) else none) else none) else some xs)
    (hE : ∀ i, i < n → Ev (fun k => E k (i : Int)) (e i)) :
    ∀ (d i : Nat) (xs : List β), xs.length = n → i + d = n → Ev (fun k => L k xs (i : Int)) (xs.take i ++ (List.range' i d).map e) := by
  intro d
  induction d with
  | zero =>
    intro i xs hl hi
    refine ev_some fun k => ?_
    rw [hs, if_neg (by omega)]
    simp [List.take_of_length_le (show xs.length ≤ i by omega)]
  | succ d ih =>
    intro i xs hl hi
    refine Ev.step (f := fun k => (E k (i : Int)).bind fun b => L k (xs.set i b) ((i + 1 : Nat) : Int)) (fun k => ?_) ?_
    · rw [hs, if_pos (by omega), if_pos (by omega), wsucc (n := n) (by omega) hn]
      congr 1
      funext b
      rw [if_pos (by omega)]
      rfl
    · refine ev_bind (hE i (by omega)) ?_
      have h := ih (i + 1) (xs.set i (e i)) (by rw [List.length_set]; exact hl) (by omega)
      have e1 : (xs.set i (e i)).take (i + 1) ++ (List.range' (i + 1) d).map e = xs.take i ++ (List.range' i (d + 1)).map e := by
        rw [List.range'_succ, List.map_cons, List.take_succ_eq_append_getElem (by rw [List.length_set]; omega), List.getElem_set_self, List.take_set_of_le (Nat.le_refl _)]
        simp
      rw [e1] at h
      exact h
theorem map_range {α β : Type} (l : List α) (z : α) (g : α → β) : (List.range' 0 l.length).map (fun i => g (l.getD i z)) = l.map g := by
  apply List.ext_getElem
  · simp
  · intro i h1 h2
    simp only [List.length_map] at h2
    simp [List.getD_eq_getElem?_getD, List.getElem?_eq_getElem h2]
theorem ev_fill_all {α β : Type} {L : Nat → List β → Int → Option (List β)} {E : Nat → Int → Option β} {l : List α} {z : α} {g : α → β} {xs : List β} (hn : l.length ≤ 9223372036854775807)
    (hs : ∀ k xs i, L (k + 1) xs i = if i < (l.length : Int) then (if 0 ≤ i then ((E k i).bind fun b => if i < (xs.length : Int) then L k (xs.set i.toNat b) (wrap64 (i + 1)) else none) else none) else some xs)
    (hE : ∀ i, i < l.length → Ev (fun k => E k (i : Int)) (g (l.getD i z))) (hx : xs.length = l.length) : Ev (fun k => L k xs 0) (l.map g) := by
  have h := ev_fill (e := fun i => g (l.getD i z)) hn hs hE l.length 0 xs hx (by omega)
  rw [map_range] at h
  simpa using h

/-- Every place meets a test, tried place by place. -/
theorem ev_all {L E : Nat → Int → Option Bool} {n m : Nat} (hn : n ≤ 9223372036854775807) (hnm : n ≤ m)
    (hs : ∀ k i, L (k + 1) i = if i < (n : Int) then (if 0 ≤ i then (if i < (m : Int) then ((E k i).bind fun b => if b = true then L k (wrap64 (i + 1)) else some false) else none) else none) else some true)
    (hE : ∀ i, i < n → Ev (fun k => E k (i : Int)) true) : ∀ (d i : Nat), i + d = n → Ev (fun k => L k (i : Int)) true := by
  intro d
  induction d with
  | zero => intro i hi; exact ev_some fun k => by rw [hs, if_neg (by omega)]
  | succ d ih =>
    intro i hi
    refine Ev.step (f := fun k => (E k (i : Int)).bind fun b => if b = true then L k ((i + 1 : Nat) : Int) else some false) (fun k => ?_) (ev_bind (hE i (by omega)) (by simpa using ih (i + 1) (by omega)))
    rw [hs, if_pos (by omega), if_pos (by omega), if_pos (by omega), wsucc (n := n) (by omega) hn]

/-- What is left of a number, place by place, as long as it is not below 0. -/
theorem ev_size {L E : Nat → Int → Int → Option Int} {n : Nat} {P : Nat → Prop} (hn : n ≤ 9223372036854775807)
    (hs : ∀ k a i, L (k + 1) a i = if i < (n : Int) then (if 0 ≤ i then ((E k i a).bind fun t => if t < 0 then some (-1) else L k t (wrap64 (i + 1))) else none) else some a)
    (hE : ∀ i a, i < n → 0 ≤ a → a ≤ 1048576 → ∃ t, Ev (fun k => E k (i : Int) a) t ∧ t ≤ a ∧ (0 ≤ t → P i)) :
    ∀ (d i : Nat) (a : Int), i + d = n → 0 ≤ a → a ≤ 1048576 → ∃ r, Ev (fun k => L k a (i : Int)) r ∧ r ≤ a ∧ (0 ≤ r → ∀ m, i ≤ m → m < n → P m) := by
  intro d
  induction d with
  | zero => intro i a hi h0 h1; exact ⟨a, ev_some fun k => by rw [hs, if_neg (by omega)], Int.le_refl _, fun _ m h2 h3 => by omega⟩
  | succ d ih =>
    intro i a hi h0 h1
    obtain ⟨t, ht, hta, hp⟩ := hE i a (by omega) h0 h1
    have hst : ∀ k, L (k + 1) a (i : Int) = (E k (i : Int) a).bind fun t => if t < 0 then some (-1) else L k t ((i + 1 : Nat) : Int) := fun k => by
      rw [hs, if_pos (by omega), if_pos (by omega), wsucc (n := n) (by omega) hn]
    by_cases hneg : t < 0
    · exact ⟨-1, Ev.step hst (ev_bind ht (by simp only [if_pos hneg]; exact Ev.now _)), by omega, fun h => by omega⟩
    · obtain ⟨r, hr, hra, hq⟩ := ih (i + 1) t (by omega) (by omega) (by omega)
      refine ⟨r, Ev.step hst (ev_bind ht (by simp only [if_neg hneg]; exact hr)), by omega, fun h0r m h2 h3 => ?_⟩
      by_cases e : m = i
      · subst e; exact hp (by omega)
      · exact hq h0r m (by omega) h3
end Go.Proofs.Ytodokejcmbjpbaa.Pu

/- A number in bytes, as one list; the program's VarText and the reference's l01Var tell it. -/
namespace Go.Proofs.Ytodokejcmbjpbaa.Pu
open Go.RowKit Go.Proofs.Ytodokejcmbjpbaa.PK Go.Proofs.YtodokejcmbjpbaaW.PrintWords
/-- The bytes of a number, seven bits at a time. -/
def varL (n : Nat) : List Int := if h : n > 127 then ((n % 128 + 128 : Nat) : Int) :: varL (n / 128) else [(n : Int)]
theorem varL_long {n : Nat} (h : n > 127) : varL n = ((n % 128 + 128 : Nat) : Int) :: varL (n / 128) := by rw [varL, dif_pos h]
theorem varL_short {n : Nat} (h : ¬ n > 127) : varL n = [(n : Int)] := by rw [varL, dif_neg h]
theorem varL_len : ∀ (d n : Nat), n < 128 ^ (d + 1) → (varL n).length ≤ d + 1 ∧ 1 ≤ (varL n).length
  | 0, n, h => by rw [varL_short (by omega)]; simp
  | d + 1, n, h => by
    by_cases hn : n > 127
    · rw [varL_long hn]
      have := varL_len d (n / 128) (by rw [Nat.pow_succ] at h; omega)
      simp only [List.length_cons]
      omega
    · rw [varL_short hn]; simp
theorem varL_len5 {n : Nat} (h : n ≤ 1000000000) : (varL n).length ≤ 5 ∧ 1 ≤ (varL n).length := varL_len 4 n (by omega)
theorem wbyte {n : Nat} (h : n > 127) (hn : n ≤ 1000000000) : wrap64 (Int.tdiv (n : Int) 128) = ((n / 128 : Nat) : Int) ∧ wrap64 (Int.tmod (n : Int) 128 + 128) % 256 = ((n % 128 + 128 : Nat) : Int) := by
  rw [Int.tdiv_eq_ediv_of_nonneg (by omega), Int.tmod_eq_emod_of_nonneg (by omega), w64 (by omega) (by omega), w64 (by omega) (by omega)]
  omega
theorem sVar_ev : ∀ (d n : Nat) (acc : List Int), n < 128 ^ (d + 1) → n ≤ 1000000000 → acc.length + d ≤ 100 → Ev (fun k => spec_l01Var.l0 k n acc) (strOfNums (acc ++ varL n))
  | 0, n, acc, h, hn, ha => ev_some fun k => by
    simp only [spec_l01Var.l0]
    rw [if_neg (by omega), if_pos (by omega), varL_short (by omega), show (n : Int) % 256 = n by omega]
  | d + 1, n, acc, h, hn, ha => by
    by_cases h1 : n > 127
    · have := sVar_ev d (n / 128) (acc ++ [((n % 128 + 128 : Nat) : Int)]) (by rw [Nat.pow_succ] at h; omega) (by omega) (by simp; omega)
      rw [varL_long h1, show acc ++ ((n % 128 + 128 : Nat) : Int) :: varL (n / 128) = (acc ++ [((n % 128 + 128 : Nat) : Int)]) ++ varL (n / 128) by simp]
      refine Ev.step (fun k => ?_) this
      simp only [spec_l01Var.l0]
      rw [if_pos (by omega), if_pos (by omega), (wbyte h1 hn).1, (wbyte h1 hn).2]
    · refine ev_some fun k => ?_
      simp only [spec_l01Var.l0]
      rw [if_neg (by omega), if_pos (by omega), varL_short h1, show (n : Int) % 256 = n by omega]
theorem l01Var_ev {n : Int} (h0 : 0 ≤ n) (h : n ≤ 1000000000) : Ev (fun k => spec_l01Var.f k n) (strOfNums (varL n.toNat)) := by
  have := sVar_ev 4 n.toNat [] (by omega) (by omega) (by simp)
  rw [List.nil_append, show ((n.toNat : Nat) : Int) = n by omega] at this
  exact this
theorem strOf_size (l : List Int) : (strOfNums l).size = l.length := by
  unfold strOfNums
  simp [ByteArray.size]
end Go.Proofs.Ytodokejcmbjpbaa.Pu

/- More plain facts on rounds: tests in a row, folds, searches. -/
namespace Go.Proofs.Ytodokejcmbjpbaa.Pu
open Go.RowKit Go.Proofs.YtodokejcmbjpbaaW.PrintWords
/-- Tests in a row, one a round; then what comes. -/
theorem ev_scan {L : Nat → Int → Option Bool} {g : Nat → Option Bool} {n : Nat} {T : Nat → Bool} {r : Bool}
    (hs : ∀ k i, i < n → L (k + 1) (i : Int) = if T i = true then L k ((i + 1 : Nat) : Int) else some false) (he : ∀ k, L (k + 1) (n : Int) = g k) (hr : Ev g r) :
    ∀ (d i : Nat), i + d = n → Ev (fun k => L k (i : Int)) ((List.range' i d).all T && r) := by
  intro d
  induction d with
  | zero =>
    intro i hi
    obtain rfl : i = n := by omega
    exact Ev.step he hr
  | succ d ih =>
    intro i hi
    rw [List.range'_succ, List.all_cons]
    by_cases h : T i = true
    · rw [h, Bool.true_and]
      exact Ev.step (fun k => by rw [hs k i (by omega), if_pos h]) (ih (i + 1) (by omega))
    · rw [Bool.eq_false_iff.mpr h, Bool.false_and, Bool.false_and]
      exact ev_some fun k => by rw [hs k i (by omega), if_neg h]
/-- Tests in a row, each of many rounds; then what comes. -/
theorem ev_outer {L : Nat → Int → Option Bool} {n : Nat} {T : Nat → Bool} {r0 : Bool}
    (hs : ∀ i r, i < n → Ev (fun k => L k ((i + 1 : Nat) : Int)) r → Ev (fun k => L k (i : Int)) (T i && r)) (he : Ev (fun k => L k (n : Int)) r0) :
    ∀ (d i : Nat), i + d = n → Ev (fun k => L k (i : Int)) ((List.range' i d).all T && r0) := by
  intro d
  induction d with
  | zero =>
    intro i hi
    obtain rfl : i = n := by omega
    exact he
  | succ d ih =>
    intro i hi
    rw [List.range'_succ, List.all_cons, Bool.and_assoc]
    exact hs i _ (by omega) (ih (i + 1) (by omega))
/-- A state that is carried along; then what comes. -/
theorem ev_fold {σ ρ : Type} {L : Nat → σ → Int → Option ρ} {n : Nat} {F : σ → Nat → σ} {fin : σ → ρ} (Inv : Nat → σ → Prop)
    (hs : ∀ s i, i < n → Inv i s → ∀ r, Ev (fun k => L k (F s i) ((i + 1 : Nat) : Int)) r → Ev (fun k => L k s (i : Int)) r) (hi : ∀ s i, i < n → Inv i s → Inv (i + 1) (F s i))
    (he : ∀ s, Inv n s → Ev (fun k => L k s (n : Int)) (fin s)) : ∀ (d i : Nat) (s : σ), i + d = n → Inv i s → Ev (fun k => L k s (i : Int)) (fin ((List.range' i d).foldl F s)) := by
  intro d
  induction d with
  | zero =>
    intro i s h hv
    obtain rfl : i = n := by omega
    exact he s hv
  | succ d ih =>
    intro i s h hv
    rw [List.range'_succ, List.foldl_cons]
    exact hs s i (by omega) hv _ (ih (i + 1) (F s i) (by omega) (hi s i (by omega) hv))
/-- The first place that meets a test, -1 without one. -/
def findI (T : Nat → Bool) : Nat → Nat → Int
  | _, 0 => -1
  | i, d + 1 => if T i = true then (i : Int) else findI T (i + 1) d
theorem ev_find {L : Nat → Int → Option Int} {n : Nat} {T : Nat → Bool}
    (hy : ∀ i, i < n → T i = true → Ev (fun k => L k (i : Int)) (i : Int)) (hn : ∀ i, i < n → T i = false → ∀ r, Ev (fun k => L k ((i + 1 : Nat) : Int)) r → Ev (fun k => L k (i : Int)) r)
    (he : Ev (fun k => L k (n : Int)) (-1)) : ∀ (d i : Nat), i + d = n → Ev (fun k => L k (i : Int)) (findI T i d) := by
  intro d
  induction d with
  | zero =>
    intro i hi
    obtain rfl : i = n := by omega
    exact he
  | succ d ih =>
    intro i hi
    unfold findI
    by_cases h : T i = true
    · rw [if_pos h]; exact hy i (by omega) h
    · rw [if_neg h]; exact hn i (by omega) (Bool.eq_false_iff.mpr h) _ (ih (i + 1) (by omega))
theorem findI_range {T : Nat → Bool} : ∀ (d i : Nat), findI T i d = -1 ∨ ∃ j, i ≤ j ∧ j < i + d ∧ findI T i d = (j : Int) ∧ T j = true
  | 0, i => .inl rfl
  | d + 1, i => by
    unfold findI
    by_cases h : T i = true
    · rw [if_pos h]; exact .inr ⟨i, Nat.le_refl _, by omega, rfl, h⟩
    · rw [if_neg h]
      rcases findI_range d (i + 1) with h1 | ⟨j, h1, h2, h3, h4⟩
      · exact .inl h1
      · exact .inr ⟨j, by omega, by omega, h3, h4⟩
theorem bytes_empty (a : ByteArray) : (a.toList == ([] : List UInt8)) = decide ((a.size : Int) ≤ 0) := by
  rw [ByteArray.toList_eq]
  have h : a.data.toList.length = a.size := by rw [Array.length_toList]; rfl
  cases e : a.data.toList with
  | nil =>
    have h1 : a.size = 0 := by rw [← h, e]; rfl
    rw [decide_eq_true (by omega)]; rfl
  | cons x l =>
    have h1 : a.size = l.length + 1 := by rw [← h, e]; rfl
    rw [decide_eq_false (by omega)]; rfl
theorem getD_mem' {α : Type} {l : List α} {i : Nat} {z : α} (hi : i < l.length) : l.getD i z ∈ l := by
  rw [List.getD_eq_getElem?_getD, List.getElem?_eq_getElem hi]; exact List.getElem_mem hi
end Go.Proofs.Ytodokejcmbjpbaa.Pu

/- A number read from bytes, as one function; the program's and the reference's ReadVar tell it, and it reads what VarText writes. -/
namespace Go.Proofs.Ytodokejcmbjpbaa.Pu
open Go.RowKit Go.Proofs.Ytodokejcmbjpbaa.PK Go.Proofs.YtodokejcmbjpbaaW.PrintWords
/-- A text's bytes. -/
def byt (t : ByteArray) : List Nat := t.data.toList.map UInt8.toNat
theorem byt_len (t : ByteArray) : (byt t).length = t.size := by unfold byt; rw [List.length_map, Array.length_toList]; rfl
theorem bt_byt (t : ByteArray) (i : Nat) : bt t (i : Int) = (((byt t).getD i 0 : Nat) : Int) := by
  unfold bt
  by_cases h : i < t.size
  · rw [dif_pos (show ((i : Int)).toNat < t.size from h)]
    rw [List.getD_eq_getElem?_getD, List.getElem?_eq_getElem (by rw [byt_len]; exact h)]
    unfold byt
    rw [List.getElem_map, Array.getElem_toList]
    rfl
  · rw [dif_neg (show ¬ ((i : Int)).toNat < t.size from h), List.getD_eq_getElem?_getD, List.getElem?_eq_none (by rw [byt_len]; omega)]; rfl
theorem byt_lt (t : ByteArray) : ∀ b ∈ byt t, b < 256 := by
  intro b hb
  obtain ⟨x, _, rfl⟩ := List.mem_map.1 hb
  exact UInt8.toNat_lt x
theorem byt_get_lt (t : ByteArray) (i : Nat) : (byt t).getD i 0 < 256 := by
  by_cases h : i < (byt t).length
  · exact byt_lt t _ (getD_mem' h)
  · rw [List.getD_eq_getElem?_getD, List.getElem?_eq_none (by omega)]; exact by decide
theorem byt_inj {s t : ByteArray} (h : byt s = byt t) : s = t := by
  unfold byt at h
  have h2 := (List.map_inj_right (fun a b e => UInt8.toNat_inj.1 e)).1 h
  have h3 := Array.toList_inj.1 h2
  cases s; cases t; simp only at h3; rw [h3]
theorem byt_app (s t : ByteArray) : byt (s ++ t) = byt s ++ byt t := by
  unfold byt
  rw [show (s ++ t).data = s.data ++ t.data from ByteArray.data_append, Array.toList_append, List.map_append]
theorem byt_empty : byt ⟨#[]⟩ = [] := rfl
theorem byt_str (l : List Int) (h : ∀ x ∈ l, 0 ≤ x ∧ x < 256) : byt (strOfNums l) = l.map Int.toNat := by
  unfold byt strOfNums
  rw [List.map_map]
  refine List.map_congr_left fun x hx => ?_
  have := h x hx
  show (UInt8.ofNat x.toNat).toNat = x.toNat
  rw [UInt8.toNat_ofNat']
  omega
theorem byt_sub (t : ByteArray) (a b : Nat) : byt (t.extract a b) = ((byt t).drop a).take (b - a) := by
  unfold byt
  rw [ByteArray.data_extract, Array.toList_extract, List.extract_eq_take_drop, List.map_take, List.map_drop]
theorem toList_iff (s t : ByteArray) : s.toList = t.toList ↔ byt s = byt t := by
  rw [ByteArray.toList_eq, ByteArray.toList_eq]
  constructor
  · intro h; unfold byt; rw [h]
  · intro h; rw [byt_inj h]

theorem varL_byte (n : Nat) : ∀ y ∈ varL n, 0 ≤ y ∧ y < 256 := by
  induction n using Nat.strongRecOn with
  | _ n ih =>
    intro y hy
    by_cases hn : n > 127
    · rw [varL_long hn] at hy
      rcases List.mem_cons.1 hy with hy | hy
      · omega
      · exact ih (n / 128) (by omega) y hy
    · rw [varL_short hn] at hy
      obtain rfl := List.mem_singleton.1 hy
      omega
/-- The number that bytes mean. -/
def valB : List Nat → Nat
  | [] => 0
  | b :: r => b % 128 + 128 * valB r
theorem val_snoc : ∀ (l : List Nat) (x : Nat), valB (l ++ [x]) = valB l + x % 128 * 128 ^ l.length
  | [], x => by simp [valB]
  | b :: r, x => by
    show b % 128 + 128 * valB (r ++ [x]) = b % 128 + 128 * valB r + x % 128 * 128 ^ (r.length + 1)
    rw [val_snoc r x, Nat.mul_add, Nat.pow_succ, ← Nat.add_assoc]
    congr 1
    rw [Nat.mul_comm 128, Nat.mul_assoc]
theorem val_lt : ∀ l : List Nat, valB l < 128 ^ l.length
  | [] => by decide
  | b :: r => by
    have := val_lt r
    show b % 128 + 128 * valB r < 128 ^ (r.length + 1)
    rw [Nat.pow_succ]
    omega
theorem val_pos : ∀ (pre : List Nat) {x : Nat}, x < 128 → x ≠ 0 → 1 ≤ valB (pre ++ [x])
  | [], x, h, h0 => by show 1 ≤ x % 128 + 128 * 0; omega
  | b :: r, x, h, h0 => by
    have := val_pos r h h0
    show 1 ≤ b % 128 + 128 * valB (r ++ [x])
    omega
theorem canon1 : ∀ (pre : List Nat) {x : Nat}, (∀ b ∈ pre, 128 ≤ b ∧ b < 256) → x < 128 → (pre = [] ∨ x ≠ 0) → varL (valB (pre ++ [x])) = (pre ++ [x]).map fun b : Nat => (b : Int)
  | [], x, _, hx, _ => by
    have e : valB ([] ++ [x]) = x := by show x % 128 + 128 * 0 = x; omega
    rw [e, varL_short (by omega)]; rfl
  | b :: r, x, h, hx, h0 => by
    have hx0 : x ≠ 0 := by
      rcases h0 with h0 | h0
      · cases h0
      · exact h0
    have hp := val_pos r hx hx0
    have hb := h b List.mem_cons_self
    have e : valB (b :: r ++ [x]) = b % 128 + 128 * valB (r ++ [x]) := rfl
    rw [e, varL_long (by omega), show (b % 128 + 128 * valB (r ++ [x])) / 128 = valB (r ++ [x]) by omega, canon1 r (fun c hc => h c (List.mem_cons_of_mem _ hc)) hx (.inr hx0)]
    have e3 : (((b % 128 + 128 * valB (r ++ [x])) % 128 + 128 : Nat) : Int) = (b : Int) := by omega
    rw [e3]; rfl
theorem varL_zero {n : Nat} (h : varL n = [0]) : n = 0 := by
  by_cases hn : n > 127
  · rw [varL_long hn] at h
    have h1 := congrArg List.length h
    have h2 := (varL_len n (n / 128) (by
      have : n < 128 ^ n := Nat.lt_pow_self (by decide)
      rw [Nat.pow_succ]; omega)).2
    simp only [List.length_cons, List.length_nil] at h1
    omega
  · rw [varL_short hn] at h
    injection h with h1
    omega
theorem canon2 : ∀ (n : Nat) (l : List Int), varL n = l ++ [0] → l = [] := by
  intro n
  induction n using Nat.strongRecOn with
  | _ n ih =>
    intro l h
    by_cases hn : n > 127
    · rw [varL_long hn] at h
      cases l with
      | nil => rfl
      | cons c l =>
        injection h with h1 h2
        have := ih (n / 128) (by omega) l h2
        subst this
        have := varL_zero h2
        omega
    · rw [varL_short hn] at h
      cases l with
      | nil => rfl
      | cons c l =>
        injection h with h1 h2
        have := congrArg List.length h2
        simp at this
/-- A number read from bytes: the number, and how many bytes. -/
def rvL : List Nat → Nat → Nat → Nat → Option (Nat × Nat)
  | _, 0, _, _ => none
  | [], _ + 1, _, _ => none
  | x :: r, d + 1, k, n => if x ≥ 128 then rvL r d (k + 1) (n + x % 128 * 128 ^ k) else if (x = 0 ∧ k > 0) ∨ n + x % 128 * 128 ^ k > 1000000000 then none else some (n + x % 128 * 128 ^ k, k + 1)
def rvRes (a : Int) : Option (Nat × Nat) → Int × Int × Bool
  | none => (0, 0, false)
  | some z => ((z.1 : Int), a + (z.2 : Int), true)
def rvB (t : ByteArray) (a : Int) : Int × Int × Bool := if 0 ≤ a ∧ a ≤ (t.size : Int) then rvRes a (rvL ((byt t).drop a.toNat) 5 0 0) else (0, 0, false)
theorem drop_byt {t : ByteArray} {i : Nat} (h : i < t.size) : (byt t).drop i = (byt t).getD i 0 :: (byt t).drop (i + 1) := by
  rw [List.drop_eq_getElem_cons (by rw [byt_len]; exact h), List.getD_eq_getElem?_getD, List.getElem?_eq_getElem (by rw [byt_len]; exact h)]; rfl
theorem shl7 {x k : Nat} (hx : x < 128) (hk : k < 5) : shl .i64 (x : Int) (wrap64 (7 * (k : Int))) = ((x * 128 ^ k : Nat) : Int) := by
  have e : wrap64 (7 * (k : Int)) = 7 * (k : Int) := w64 (by omega) (by omega)
  rw [e]
  have h := shl_small (k := .i64) (x := (x : Int)) (y := 7 * (k : Int)) rfl (by show (7 * (k : Int)) ≤ ((IntKind.bits .i64 : Nat) : Int); rw [show IntKind.bits .i64 = 64 from rfl]; omega)
  rw [← h, show (7 * (k : Int)).toNat = 7 * k by omega]
  have p : (128 : Nat) ^ k = 2 ^ (7 * k) := by rw [Nat.pow_mul]
  have q : (128 : Nat) ^ k ≤ 128 ^ 4 := Nat.pow_le_pow_right (by decide) (by omega)
  have e2 : (x : Int) * 2 ^ (7 * k) = ((x * 128 ^ k : Nat) : Int) := by rw [p]; push_cast; rfl
  rw [e2, Go.IntKind.wrap_i64]
  have : x * 128 ^ k ≤ 127 * 128 ^ 4 := Nat.mul_le_mul (by omega) q
  omega
theorem tmod128 (x : Nat) : Int.tmod (wrap64 ((x : Nat) : Int)) 128 = (((if x < 9223372036854775808 then x % 128 else 0 : Nat)) : Int) ∨ 9223372036854775808 ≤ x := by
  by_cases h : x < 9223372036854775808
  · left; rw [if_pos h, w64 (by omega) (by omega), Int.tmod_eq_emod_of_nonneg (by omega)]; omega
  · right; omega
theorem tmod128' {x : Nat} (h : x < 256) : Int.tmod (wrap64 ((x : Nat) : Int)) 128 = ((x % 128 : Nat) : Int) := by
  rw [w64 (by omega) (by omega), Int.tmod_eq_emod_of_nonneg (by omega)]; omega
theorem pow5 {k : Nat} (h : k ≤ 5) : (128 : Nat) ^ k ≤ 34359738368 := Nat.le_trans (Nat.pow_le_pow_right (by decide) h) (by decide)
theorem step_lt {n x k : Nat} (hn : n < 128 ^ k) : n + x % 128 * 128 ^ k < 128 ^ (k + 1) := by
  rw [Nat.pow_succ]
  have : x % 128 * 128 ^ k ≤ 127 * 128 ^ k := Nat.mul_le_mul_right _ (by omega)
  omega
theorem rvL_zero (l : List Nat) (k n : Nat) : rvL l 0 k n = none := by cases l <;> rfl
theorem rvL_nil (d k n : Nat) : rvL [] d k n = none := by cases d <;> rfl
theorem rvL_cons (x : Nat) (r : List Nat) (d k n : Nat) : rvL (x :: r) (d + 1) k n = if x ≥ 128 then rvL r d (k + 1) (n + x % 128 * 128 ^ k) else if (x = 0 ∧ k > 0) ∨ n + x % 128 * 128 ^ k > 1000000000 then none else some (n + x % 128 * 128 ^ k, k + 1) := by rw [rvL]
theorem res_some {a : Int} {M k : Nat} {b : Int} (h : b = a + ((k + 1 : Nat) : Int)) : some ((M : Int), b, true) = some (rvRes a (some (M, k + 1))) := by subst h; rfl
theorem iRV_step (K : Nat) (t : ByteArray) (a k n x M : Nat) (hs : t.size ≤ 1099511627776) (hk : k < 5) (hlt : a + k < t.size) (hx : x < 256) (eb : bt t ((a + k : Nat) : Int) = (x : Int)) (hM : n + x % 128 * 128 ^ k = M) (hM2 : M ≤ 34359738368) :
    impl_ReadVar.j1 (K + 1) t (a : Int) (n : Int) (k : Int) true = if x ≥ 128 then impl_ReadVar.l0 K t (a : Int) (M : Int) ((k + 1 : Nat) : Int) else some (rvRes (a : Int) (if (x = 0 ∧ k > 0) ∨ M > 1000000000 then none else some (M, k + 1))) := by
  have en : wrap64 ((n : Int) + shl .i64 (Int.tmod (wrap64 ((x : Nat) : Int)) 128) (wrap64 (7 * (k : Int)))) = (M : Int) := by
    rw [tmod128' hx, shl7 (by omega) hk, w64 (by omega) (by omega)]; omega
  have ea : wrap64 ((a : Int) + (k : Int)) = ((a + k : Nat) : Int) := by rw [w64 (by omega) (by omega)]; omega
  have wx : wrap64 ((x : Nat) : Int) = (x : Int) := w64 (by omega) (by omega)
  have e7 : (0 : Int) ≤ wrap64 (7 * (k : Int)) := by rw [w64 (by omega) (by omega)]; omega
  clear hM
  rw [wx] at en
  simp only [impl_ReadVar.j1, ea, eb, en, wx, if_true, if_pos (show (0 : Int) ≤ ((a + k : Nat) : Int) by omega), if_pos (show ((a + k : Nat) : Int) < (t.size : Int) by omega), if_pos e7, wsucc (n := 5) hk (by omega), wsucc (n := t.size) hlt (by omega)]
  by_cases h1 : x ≥ 128
  · rw [if_pos (by omega), if_pos h1]
  · rw [if_neg (by omega), if_neg h1]
    by_cases h4 : M > 1000000000
    · rw [if_pos (show (x = 0 ∧ k > 0) ∨ M > 1000000000 from .inr h4)]
      by_cases h2 : (x : Int) = 0
      · rw [if_pos h2]
        by_cases h3 : (k : Int) > 0
        · rw [if_pos h3]; rfl
        · rw [if_neg h3, if_pos (by omega)]; rfl
      · rw [if_neg h2, if_pos (by omega)]; rfl
    · by_cases h2 : (x : Int) = 0
      · rw [if_pos h2]
        by_cases h3 : (k : Int) > 0
        · rw [if_pos h3, if_pos (show (x = 0 ∧ k > 0) ∨ M > 1000000000 from .inl ⟨by omega, by omega⟩)]; rfl
        · rw [if_neg h3, if_neg (by omega), if_neg (by omega)]
          exact res_some (by omega)
      · rw [if_neg h2, if_neg (by omega), if_neg (by omega)]
        exact res_some (by omega)
theorem iReadVar_ev (t : ByteArray) (a : Int) (hs : t.size ≤ 1099511627776) (ha : a ≤ (t.size : Int)) : Ev (fun k => impl_ReadVar.f k t a) (rvB t a) := by
  unfold impl_ReadVar.f rvB
  by_cases h0 : 0 ≤ a
  · rw [if_pos ⟨h0, ha⟩]
    obtain ⟨a, rfl⟩ : ∃ m : Nat, a = (m : Int) := ⟨a.toNat, by omega⟩
    rw [Int.toNat_natCast]
    have main : ∀ (d k n : Nat), k + d = 5 → n < 128 ^ k → Ev (fun K => impl_ReadVar.l0 K t (a : Int) (n : Int) (k : Int)) (rvRes (a : Int) (rvL ((byt t).drop (a + k)) d k n)) := by
      intro d
      induction d with
      | zero =>
        intro k n hk hn
        rw [rvL_zero]
        refine Ev.step (f := fun K => impl_ReadVar.j1 K t (a : Int) (n : Int) (k : Int) false) (fun K => by simp only [impl_ReadVar.l0]; rw [if_neg (by omega)]) (ev_some fun K => ?_)
        simp only [impl_ReadVar.j1]
        rfl
      | succ d ih =>
        intro k n hk hn
        refine Ev.step (f := fun K => impl_ReadVar.j1 K t (a : Int) (n : Int) (k : Int) (decide ((a + k : Nat) < t.size))) (fun K => ?_) ?_
        · simp only [impl_ReadVar.l0]
          rw [if_pos (by omega), if_pos (by omega), w64 (x := (t.size : Int) - k) (by omega) (by omega)]
          congr 1
          exact decide_eq_decide.2 (by omega)
        · by_cases hlt : a + k < t.size
          · rw [decide_eq_true hlt, drop_byt hlt, rvL_cons]
            have hx := byt_get_lt t (a + k)
            have eb := bt_byt t (a + k)
            generalize (byt t).getD (a + k) 0 = x at hx eb ⊢
            have sl := step_lt (x := x) hn
            have p6 := pow5 (show k + 1 ≤ 5 by omega)
            have st := fun K => iRV_step K t a k n x _ hs (by omega) hlt hx eb rfl (by omega)
            by_cases h1 : x ≥ 128
            · rw [if_pos h1]
              exact Ev.step (fun K => by rw [st K, if_pos h1]) (ih (k + 1) _ (by omega) sl)
            · rw [if_neg h1]
              exact ev_some fun K => by rw [st K, if_neg h1]
          · rw [decide_eq_false hlt, List.drop_eq_nil_of_le (by rw [byt_len]; omega), rvL_nil]
            refine ev_some fun K => ?_
            simp only [impl_ReadVar.j1]
            rfl
    exact main 5 0 0 rfl (by decide)
  · rw [if_neg (fun h => h0 h.1)]
    refine Ev.step (f := fun K => impl_ReadVar.j1 K t a 0 0 false) (fun K => by simp only [impl_ReadVar.l0]; rw [if_pos (by omega), if_neg (by omega)]) (ev_some fun K => ?_)
    simp only [impl_ReadVar.j1]
    rfl
theorem natcast_map {V : List Int} (h : ∀ y ∈ V, 0 ≤ y) : (V.map Int.toNat).map (fun b : Nat => (b : Int)) = V := by
  induction V with
  | nil => rfl
  | cons y V ih =>
    have := h y List.mem_cons_self
    show ((y.toNat : Nat) : Int) :: (V.map Int.toNat).map (fun b : Nat => (b : Int)) = y :: V
    rw [ih fun z hz => h z (List.mem_cons_of_mem _ hz), show ((y.toNat : Nat) : Int) = y by omega]
theorem toNat_map : ∀ l : List Nat, (l.map fun b : Nat => (b : Int)).map Int.toNat = l
  | [] => rfl
  | y :: l => by
    show ((y : Nat) : Int).toNat :: (l.map fun b : Nat => (b : Int)).map Int.toNat = y :: l
    rw [toNat_map l, Int.toNat_natCast]
/-- What the reference holds a number's bytes against. -/
theorem sRV_key {t : ByteArray} {a k x : Nat} {pre : List Nat} (hl : pre.length = k) (es : (byt t).drop a = (pre ++ [x]) ++ (byt t).drop (a + (k + 1))) (hb : ∀ b ∈ pre, 128 ≤ b ∧ b < 256) (hx : x < 128) :
    (strOfNums (varL (valB (pre ++ [x])))).toList = (t.extract a (a + k + 1)).toList ↔ (pre = [] ∨ x ≠ 0) := by
  have seg : byt (t.extract a (a + k + 1)) = pre ++ [x] := by
    rw [byt_sub, es, show a + k + 1 - a = (pre ++ [x]).length by simp; omega, List.take_left]
  have vb := varL_byte (valB (pre ++ [x]))
  rw [toList_iff, seg, byt_str _ vb]
  constructor
  · intro h
    by_cases h0 : x = 0
    · left
      subst h0
      have e2 := congrArg (List.map fun b : Nat => (b : Int)) h
      rw [natcast_map fun y hy => (vb y hy).1] at e2
      rw [List.map_append] at e2
      exact List.map_eq_nil_iff.1 (canon2 _ _ e2)
    · exact .inr h0
  · intro h
    rw [canon1 pre hb hx h, toNat_map]
theorem sRV_step (K : Nat) (t : ByteArray) (a k n x M P : Nat) (hs : t.size ≤ 1099511627776) (hk : k < 5) (hlt : a + k < t.size) (hx : x < 256) (eb : bt t ((a + k : Nat) : Int) = (x : Int)) (hP : 128 ^ k = P) (hM : n + x % 128 * P = M) (hM2 : M ≤ 34359738368) (hP2 : P ≤ 268435456) :
    spec_ReadVar.j1 (K + 1) t (a : Int) (n : Int) (P : Int) ((a + k : Nat) : Int) true = if x ≥ 128 then spec_ReadVar.l0 K t (a : Int) (M : Int) ((P * 128 : Nat) : Int) ((a + (k + 1) : Nat) : Int) else if M > 1000000000 then some (0, 0, false) else (spec_l01Var.f K (M : Int)).bind fun t116 => if t116.toList = (t.extract a (a + k + 1)).toList then some ((M : Int), ((a + k + 1 : Nat) : Int), true) else some (0, 0, false) := by
  have en : wrap64 ((n : Int) + wrap64 (Int.tmod (wrap64 ((x : Nat) : Int)) 128 * (P : Int))) = (M : Int) := by
    rw [tmod128' hx, ← Int.natCast_mul, w64 (x := ((x % 128 * P : Nat) : Int)) (by omega) (by omega), w64 (by omega) (by omega)]; omega
  have ep : wrap64 ((P : Int) * 128) = ((P * 128 : Nat) : Int) := by rw [w64 (by omega) (by omega)]; omega
  clear hM hP
  simp only [spec_ReadVar.j1, eb, en, ep, if_true, if_pos (show (0 : Int) ≤ ((a + k : Nat) : Int) by omega), if_pos (show ((a + k : Nat) : Int) < (t.size : Int) by omega), wsucc (n := t.size) hlt (by omega), Int.toNat_natCast, if_pos (show (0 : Int) ≤ (a : Int) by omega), if_pos (show (a : Int) ≤ ((a + k + 1 : Nat) : Int) by omega), if_pos (show ((a + k + 1 : Nat) : Int) ≤ (t.size : Int) by omega)]
  by_cases h1 : x ≥ 128
  · rw [if_neg (by omega), if_pos h1]; rfl
  · rw [if_pos (by omega), if_neg h1]
    by_cases h4 : M > 1000000000
    · rw [if_pos (by omega), if_pos h4]
    · rw [if_neg (by omega), if_neg h4]
theorem sReadVar_ev (t : ByteArray) (a : Int) (hs : t.size ≤ 1099511627776) : Ev (fun k => spec_ReadVar.f k t a) (rvB t a) := by
  unfold spec_ReadVar.f rvB
  have hin : spec_l01In.f a 0 (t.size : Int) = some (decide (0 ≤ a ∧ a ≤ (t.size : Int))) := by
    unfold spec_l01In.f
    by_cases h1 : a ≥ 0
    · rw [if_pos h1]; congr 1; simp; omega
    · rw [if_neg h1]; congr 1; simp; omega
  simp only [hin, Option.bind_some, decide_eq_true_eq]
  by_cases h0 : 0 ≤ a ∧ a ≤ (t.size : Int)
  · simp only [if_pos h0]
    obtain ⟨a, rfl⟩ : ∃ m : Nat, a = (m : Int) := ⟨a.toNat, by omega⟩
    rw [Int.toNat_natCast]
    have main : ∀ (d k : Nat) (pre : List Nat), k + d = 5 → pre.length = k → (byt t).drop a = pre ++ (byt t).drop (a + k) → (∀ b ∈ pre, 128 ≤ b ∧ b < 256) → Ev (fun K => spec_ReadVar.l0 K t (a : Int) (valB pre : Int) ((128 ^ k : Nat) : Int) ((a + k : Nat) : Int)) (rvRes (a : Int) (rvL ((byt t).drop (a + k)) d k (valB pre))) := by
      intro d
      induction d with
      | zero =>
        intro k pre hk hl hp hb
        rw [rvL_zero]
        refine Ev.step (f := fun K => spec_ReadVar.j1 K t (a : Int) (valB pre : Int) ((128 ^ k : Nat) : Int) ((a + k : Nat) : Int) false) (fun K => ?_) (ev_some fun K => ?_)
        · simp only [spec_ReadVar.l0]
          by_cases h : ((a + k : Nat) : Int) < (t.size : Int)
          · rw [if_pos h, w64 (x := (a : Int) + 5) (by omega) (by omega), decide_eq_false (by omega)]
          · rw [if_neg h]
        · simp only [spec_ReadVar.j1]
          rfl
      | succ d ih =>
        intro k pre hk hl hp hb
        have hn : valB pre < 128 ^ k := hl ▸ val_lt pre
        refine Ev.step (f := fun K => spec_ReadVar.j1 K t (a : Int) (valB pre : Int) ((128 ^ k : Nat) : Int) ((a + k : Nat) : Int) (decide ((a + k : Nat) < t.size))) (fun K => ?_) ?_
        · simp only [spec_ReadVar.l0]
          by_cases h : ((a + k : Nat) : Int) < (t.size : Int)
          · rw [if_pos h, w64 (x := (a : Int) + 5) (by omega) (by omega), decide_eq_true (show ((a + k : Nat) : Int) < (a : Int) + 5 by omega), decide_eq_true (show a + k < t.size by omega)]
          · rw [if_neg h, decide_eq_false (show ¬ a + k < t.size by omega)]
        · by_cases hlt : a + k < t.size
          · rw [decide_eq_true hlt, drop_byt hlt, rvL_cons]
            have hx := byt_get_lt t (a + k)
            have hd := drop_byt hlt
            have eb := bt_byt t (a + k)
            generalize (byt t).getD (a + k) 0 = x at hx eb hd ⊢
            have sl := step_lt (x := x) hn
            have p6 := pow5 (show k + 1 ≤ 5 by omega)
            have q4 : (128 : Nat) ^ k ≤ 268435456 := Nat.le_trans (Nat.pow_le_pow_right (by decide) (show k ≤ 4 by omega)) (by decide)
            have vs : valB (pre ++ [x]) = valB pre + x % 128 * 128 ^ k := by rw [val_snoc, hl]
            have es : (byt t).drop a = (pre ++ [x]) ++ (byt t).drop (a + (k + 1)) := by rw [hp, hd]; simp [Nat.add_assoc]
            rw [← vs] at sl ⊢
            have st := fun K => sRV_step K t a k (valB pre) x (valB (pre ++ [x])) _ hs (by omega) hlt hx eb rfl vs.symm (by omega) q4
            by_cases h1 : x ≥ 128
            · rw [if_pos h1]
              exact Ev.step (fun K => by rw [st K, if_pos h1, ← Nat.pow_succ]) (ih (k + 1) (pre ++ [x]) (by omega) (by simp; omega) es (fun b hb' => by
                rcases List.mem_append.1 hb' with hb' | hb'
                · exact hb b hb'
                · obtain rfl := List.mem_singleton.1 hb'; exact ⟨h1, hx⟩))
            · rw [if_neg h1]
              have key := sRV_key hl es hb (by omega)
              have hv := fun h => l01Var_ev (n := (valB (pre ++ [x]) : Int)) (by omega) h
              rw [Int.toNat_natCast] at hv
              clear vs
              generalize valB (pre ++ [x]) = M at st key hv sl ⊢
              by_cases h4 : M > 1000000000
              · rw [if_pos (.inr h4)]
                exact ev_some fun K => by rw [st K, if_neg h1, if_pos h4]; rfl
              · refine Ev.step (fun K => by rw [st K, if_neg h1, if_neg h4]) (ev_bind (hv (by omega)) ?_)
                by_cases h2 : pre = [] ∨ x ≠ 0
                · rw [if_pos (key.2 h2), if_neg (fun h => by
                    rcases h with ⟨h5, h6⟩ | h
                    · rcases h2 with h2 | h2
                      · rw [h2] at hl; simp at hl; omega
                      · exact h2 h5
                    · exact h4 h)]
                  exact ev_const (res_some (by omega))
                · rw [if_neg (fun h => h2 (key.1 h)), if_pos (.inl ⟨by
                    by_cases h5 : x = 0
                    · exact h5
                    · exact absurd (.inr h5) h2, by
                    cases pre with
                    | nil => exact absurd (.inl rfl) h2
                    | cons b r => simp at hl; omega⟩)]
                  exact Ev.now _
          · rw [decide_eq_false hlt, List.drop_eq_nil_of_le (by rw [byt_len]; omega), rvL_nil]
            refine ev_some fun K => ?_
            simp only [spec_ReadVar.j1]
            rfl
    exact main 5 0 [] rfl rfl rfl (fun b hb => by cases hb)
  · simp only [if_neg h0]
    exact Ev.now _
end Go.Proofs.Ytodokejcmbjpbaa.Pu

/- When a record is right, as one test; the program's and the reference's RecOk answer it. -/
namespace Go.Proofs.Ytodokejcmbjpbaa.Pu
open Go.RowKit Go.Proofs.Ytodokejcmbjpbaa.PK Go.Proofs.YtodokejcmbjpbaaW.PrintWords
theorem in_eq' (a l h : Int) : impl_in.f a l h = some (decide (l ≤ a ∧ a ≤ h)) := by
  unfold impl_in.f
  by_cases h1 : a ≥ l
  · rw [if_pos h1]; congr 1; simp; omega
  · rw [if_neg h1]; congr 1; simp; omega
theorem l01In_eq' (a l h : Int) : spec_l01In.f a l h = some (decide (l ≤ a ∧ a ≤ h)) := by
  unfold spec_l01In.f
  by_cases h1 : a ≥ l
  · rw [if_pos h1]; congr 1; simp; omega
  · rw [if_neg h1]; congr 1; simp; omega
theorem some_dec {b : Bool} {P : Prop} [Decidable P] (h : b = true ↔ P) : some b = some (decide P) := by
  congr 1
  rw [Bool.eq_iff_iff, decide_eq_true_eq]
  exact h

/-- A record is right. -/
def recOk (t v a c : Int) : Bool := decide (0 ≤ a ∧ a ≤ 1000000000 ∧ ((t = 1 ∧ v = 0 ∧ c = 0) ∨ (1 ≤ v ∧ v ≤ 9 ∧ ((t = 2 ∧ c = 0 ∧ a ≤ 9) ∨ (t = 3 ∧ c = 0 ∧ a = 0) ∨ (t = 4 ∧ a ≤ 15 ∧ 1 ≤ c ∧ c ≤ 1000000000) ∨ (t = 5 ∧ c = 0 ∧ a ≤ 15)))))
theorem impl_RecOk_eq (k : Nat) (t v a c : Int) : impl_RecOk.f (k + 1) t v a c = some (recOk t v a c) := by
  unfold impl_RecOk.f impl_RecOk.j0 recOk
  simp only [in_eq', Option.bind_some]
  repeat' split
  all_goals (refine some_dec ?_)
  all_goals (simp only [beq_iff_eq, bne_iff_ne, ne_eq, decide_eq_true_eq, Bool.false_eq_true, false_iff, not_true_eq_false, not_false_eq_true] at *)
  all_goals omega
theorem spec_RecOk_eq (k : Nat) (t v a c : Int) : spec_RecOk.f (k + 1) t v a c = some (recOk t v a c) := by
  unfold spec_RecOk.f spec_RecOk.j0 recOk
  simp only [l01In_eq', Option.bind_some]
  repeat' split
  all_goals (refine some_dec ?_)
  all_goals (simp only [beq_iff_eq, bne_iff_ne, ne_eq, decide_eq_true_eq, Bool.false_eq_true, false_iff, not_true_eq_false, not_false_eq_true] at *)
  all_goals omega
theorem iRecOk_ev (t v a c : Int) : Ev (fun k => impl_RecOk.f k t v a c) (recOk t v a c) := ev_some fun k => impl_RecOk_eq k t v a c
theorem sRecOk_ev (t v a c : Int) : Ev (fun k => spec_RecOk.f k t v a c) (recOk t v a c) := ev_some fun k => spec_RecOk_eq k t v a c
theorem recOk_range {t v a c : Int} (h : recOk t v a c = true) : 1 ≤ t ∧ t ≤ 5 ∧ 0 ≤ v ∧ v ≤ 9 ∧ 0 ≤ a ∧ a ≤ 1000000000 ∧ 0 ≤ c ∧ c ≤ 1000000000 := by
  unfold recOk at h
  rw [decide_eq_true_eq] at h
  omega
end Go.Proofs.Ytodokejcmbjpbaa.Pu

/- Records read from bytes, as one function; the program's and the reference's ReadRecs tell them. -/
namespace Go.Proofs.Ytodokejcmbjpbaa.Pu
open Go.RowKit Go.Proofs.Ytodokejcmbjpbaa.PK Go.Proofs.YtodokejcmbjpbaaW.PrintWords
theorem rvL_range : ∀ (l : List Nat) (d k n : Nat) {m c : Nat}, rvL l d k n = some (m, c) → k + 1 ≤ c ∧ c ≤ k + l.length ∧ m ≤ 1000000000
  | l, 0, k, n, m, c, h => by rw [rvL_zero] at h; cases h
  | [], d + 1, k, n, m, c, h => by rw [rvL_nil] at h; cases h
  | x :: r, d + 1, k, n, m, c, h => by
    rw [rvL_cons] at h
    by_cases h1 : x ≥ 128
    · rw [if_pos h1] at h
      have := rvL_range r d (k + 1) _ h
      simp only [List.length_cons]
      omega
    · rw [if_neg h1] at h
      by_cases h2 : (x = 0 ∧ k > 0) ∨ n + x % 128 * 128 ^ k > 1000000000
      · rw [if_pos h2] at h; cases h
      · rw [if_neg h2] at h
        injection h with h
        injection h with h3 h4
        simp only [List.length_cons]
        omega
theorem rvB_range (t : ByteArray) (a : Int) : ((rvB t a).2.2 = false ∧ rvB t a = (0, 0, false)) ∨ ((rvB t a).2.2 = true ∧ 0 ≤ a ∧ a < (rvB t a).2.1 ∧ (rvB t a).2.1 ≤ (t.size : Int) ∧ 0 ≤ (rvB t a).1 ∧ (rvB t a).1 ≤ 1000000000) := by
  unfold rvB
  by_cases h : 0 ≤ a ∧ a ≤ (t.size : Int)
  · rw [if_pos h]
    cases e : rvL ((byt t).drop a.toNat) 5 0 0 with
    | none => exact .inl ⟨rfl, rfl⟩
    | some z =>
      obtain ⟨m, c⟩ := z
      have h1 := rvL_range _ _ _ _ e
      rw [List.length_drop, byt_len] at h1
      refine .inr ⟨rfl, ?_⟩
      show 0 ≤ a ∧ a < a + (c : Int) ∧ a + (c : Int) ≤ (t.size : Int) ∧ 0 ≤ (m : Int) ∧ (m : Int) ≤ 1000000000
      omega
  · rw [if_neg h]; exact .inl ⟨rfl, rfl⟩
def recAt (t : ByteArray) (i : Nat) : S45 := ⟨(((byt t).getD i 0 / 16 : Nat) : Int), (((byt t).getD i 0 % 16 : Nat) : Int), (rvB t ((i + 1 : Nat) : Int)).1, (rvB t (rvB t ((i + 1 : Nat) : Int)).2.1).1⟩
def recEnd (t : ByteArray) (i : Nat) : Int := (rvB t (rvB t ((i + 1 : Nat) : Int)).2.1).2.1
def recMay (t : ByteArray) (i : Nat) : Bool := (rvB t ((i + 1 : Nat) : Int)).2.2 && (rvB t (rvB t ((i + 1 : Nat) : Int)).2.1).2.2
def rrB (t : ByteArray) : Nat → Nat → List S45 → List S45 × Bool
  | 0, _, acc => (acc, true)
  | d + 1, i, acc => if i < t.size then (if (recMay t i && recOk (recAt t i).f0 (recAt t i).f1 (recAt t i).f2 (recAt t i).f3) = true then rrB t d (recEnd t i).toNat (acc ++ [recAt t i]) else ([], false)) else (acc, true)
theorem rrB_len (t : ByteArray) : ∀ (d i : Nat) (acc : List S45), (rrB t d i acc).1.length ≤ acc.length + d
  | 0, i, acc => Nat.le_refl _
  | d + 1, i, acc => by
    unfold rrB
    by_cases h : i < t.size
    · rw [if_pos h]
      by_cases h2 : (recMay t i && recOk (recAt t i).f0 (recAt t i).f1 (recAt t i).f2 (recAt t i).f3) = true
      · rw [if_pos h2]
        have := rrB_len t d (recEnd t i).toNat (acc ++ [recAt t i])
        simp only [List.length_append, List.length_cons, List.length_nil] at this
        omega
      · rw [if_neg h2]; exact Nat.zero_le _
    · rw [if_neg h]; show acc.length ≤ _; omega
theorem div16 {x : Nat} (h : x < 256) : wrap64 (Int.tdiv (wrap64 ((x : Nat) : Int)) 16) = ((x / 16 : Nat) : Int) ∧ Int.tmod (wrap64 ((x : Nat) : Int)) 16 = ((x % 16 : Nat) : Int) := by
  rw [w64 (x := ((x : Nat) : Int)) (by omega) (by omega), Int.tdiv_eq_ediv_of_nonneg (by omega), Int.tmod_eq_emod_of_nonneg (by omega), w64 (by omega) (by omega)]
  omega
theorem iReadRecs_ev (t : ByteArray) (hs : t.size ≤ 1048576) : Ev (fun k => impl_ReadRecs.f k t) (rrB t (t.size + 1) 0 []) := by
  unfold impl_ReadRecs.f
  have main : ∀ (d i : Nat) (acc : List S45), t.size < i + d → i ≤ t.size → acc.length ≤ i → Ev (fun K => impl_ReadRecs.l0 K t acc (i : Int)) (rrB t d i acc) := by
    intro d
    induction d with
    | zero => intro i acc h1 h2 _; omega
    | succ d ih =>
      intro i acc h1 h2 h3
      unfold rrB
      by_cases hi : i < t.size
      · rw [if_pos hi]
        have hx := byt_get_lt t i
        have eb := bt_byt t i
        obtain ⟨d1, d2⟩ := div16 hx
        have A := rvB_range t ((i + 1 : Nat) : Int)
        have C := rvB_range t (rvB t ((i + 1 : Nat) : Int)).2.1
        have ea := iReadVar_ev t ((i + 1 : Nat) : Int) (by omega) (by omega)
        have ec := iReadVar_ev t (rvB t ((i + 1 : Nat) : Int)).2.1 (by omega) (by
          rcases A with ⟨_, h⟩ | h
          · rw [h]; show (0 : Int) ≤ _; omega
          · omega)
        refine Ev.step (f := fun K => (impl_ReadVar.f K t ((i + 1 : Nat) : Int)).bind fun bt150 => (impl_ReadVar.f K t bt150.2.1).bind fun bt153 => if 0 ≤ (i : Int) then (if bt150.2.2 = true then (if bt153.2.2 = true then ((impl_RecOk.f K (((byt t).getD i 0 / 16 : Nat) : Int) (((byt t).getD i 0 % 16 : Nat) : Int) bt150.1 bt153.1).bind fun t157 => (if t157 = true then impl_ReadRecs.l0 K t (acc ++ [(⟨(((byt t).getD i 0 / 16 : Nat) : Int), (((byt t).getD i 0 % 16 : Nat) : Int), bt150.1, bt153.1⟩ : S45)]) bt153.2.1 else some ([], false))) else some ([], false)) else some ([], false)) else none) (fun K => ?_) (ev_bind ea (ev_bind ec ?_))
        · simp only [impl_ReadRecs.l0]
          rw [if_pos (by omega), wsucc (n := t.size) hi (by omega), eb, d1, d2]
          simp only [if_pos (show acc.length < 4398046511104 by omega)]
        · simp only [if_pos (show (0 : Int) ≤ (i : Int) by omega)]
          unfold recMay
          rcases A with ⟨h4, h5⟩ | ⟨h4, h5⟩
          · rw [h4]; exact Ev.now _
          · simp only [h4, if_true, Bool.true_and]
            rcases C with ⟨h6, h7⟩ | ⟨h6, h7⟩
            · rw [h6]; exact Ev.now _
            · simp only [h6, if_true, Bool.true_and]
              refine ev_bind (iRecOk_ev _ _ _ _) ?_
              show Ev (fun K => if recOk (recAt t i).f0 (recAt t i).f1 (recAt t i).f2 (recAt t i).f3 = true then impl_ReadRecs.l0 K t (acc ++ [recAt t i]) (recEnd t i) else some ([], false)) _
              by_cases h8 : recOk (recAt t i).f0 (recAt t i).f1 (recAt t i).f2 (recAt t i).f3 = true
              · simp only [if_pos h8]
                have h9 : recEnd t i = (((recEnd t i).toNat : Nat) : Int) := by unfold recEnd; omega
                rw [h9, Int.toNat_natCast]
                exact ih (recEnd t i).toNat (acc ++ [recAt t i]) (by unfold recEnd; omega) (by unfold recEnd; omega) (by simp only [List.length_append, List.length_cons, List.length_nil]; unfold recEnd; omega)
              · simp only [if_neg h8]; exact Ev.now _
      · rw [if_neg hi]
        exact ev_some fun K => by simp only [impl_ReadRecs.l0]; rw [if_neg (by omega)]
  exact main (t.size + 1) 0 [] (by omega) (by omega) (by simp)
theorem sVar_ok (t : ByteArray) (a : Int) (hs : t.size ≤ 1048576) : Ev (fun k => spec_l06Var.f k t a false) (if (rvB t a).2.2 = true then ((rvB t a).1, t, (rvB t a).2.1, false) else (0, t, a, true)) := by
  unfold spec_l06Var.f
  refine ev_bind (sReadVar_ev t a (by omega)) ?_
  simp only [Bool.false_eq_true, if_false]
  by_cases h : (rvB t a).2.2 = true
  · simp only [if_pos h]; exact Ev.now _
  · simp only [if_neg h]; exact Ev.now _
theorem sVar_bad (t : ByteArray) (a : Int) (hs : t.size ≤ 1048576) : Ev (fun k => spec_l06Var.f k t a true) (0, t, a, true) := by
  unfold spec_l06Var.f
  refine ev_bind (sReadVar_ev t a (by omega)) ?_
  simp only [if_true]; exact Ev.now _
theorem sReadRecs_ev (t : ByteArray) (hs : t.size ≤ 1048576) : Ev (fun k => spec_ReadRecs.f k t) (rrB t (t.size + 1) 0 []) := by
  unfold spec_ReadRecs.f
  have main : ∀ (d i : Nat) (acc : List S45), t.size < i + d → i ≤ t.size → acc.length ≤ i → Ev (fun K => spec_ReadRecs.l0 K t acc t (i : Int) false) (rrB t d i acc) := by
    intro d
    induction d with
    | zero => intro i acc h1 h2 _; omega
    | succ d ih =>
      intro i acc h1 h2 h3
      unfold rrB
      by_cases hi : i < t.size
      · rw [if_pos hi]
        have hx := byt_get_lt t i
        have eb := bt_byt t i
        obtain ⟨d1, d2⟩ := div16 hx
        have A := rvB_range t ((i + 1 : Nat) : Int)
        have C := rvB_range t (rvB t ((i + 1 : Nat) : Int)).2.1
        have ea := sVar_ok t ((i + 1 : Nat) : Int) hs
        have ec := sVar_ok t (rvB t ((i + 1 : Nat) : Int)).2.1 hs
        refine Ev.step (f := fun K => spec_ReadRecs.j1 K t acc true t (i : Int) false) (fun K => by simp only [spec_ReadRecs.l0]; rw [if_pos (by omega)]; rfl) ?_
        refine Ev.step (f := fun K => (spec_l06Var.f K t ((i + 1 : Nat) : Int) false).bind fun bt124 => (spec_l06Var.f K bt124.2.1 bt124.2.2.1 bt124.2.2.2).bind fun bt129 => if bt129.2.2.2 = true then some ([], false) else (spec_RecOk.f K (((byt t).getD i 0 / 16 : Nat) : Int) (((byt t).getD i 0 % 16 : Nat) : Int) bt124.1 bt129.1).bind fun t136 => if t136 = true then spec_ReadRecs.l0 K t (acc ++ [(⟨(((byt t).getD i 0 / 16 : Nat) : Int), (((byt t).getD i 0 % 16 : Nat) : Int), bt124.1, bt129.1⟩ : S45)]) bt129.2.1 bt129.2.2.1 bt129.2.2.2 else some ([], false)) (fun K => ?_) (ev_bind ea ?_)
        · simp only [spec_ReadRecs.j1]
          rw [if_pos trivial, if_pos (by omega), if_pos (by omega), wsucc (n := t.size) hi (by omega), eb, d1, d2]
          simp only [if_pos (show acc.length < 4398046511104 by omega)]
        · unfold recMay
          rcases A with ⟨h4, h5⟩ | ⟨h4, h5⟩
          · simp only [h4, Bool.false_eq_true, if_false, Bool.false_and]
            refine ev_bind (sVar_bad t _ hs) ?_
            simp only [if_true]; exact Ev.now _
          · simp only [h4, if_true, Bool.true_and]
            refine ev_bind ec ?_
            rcases C with ⟨h6, h7⟩ | ⟨h6, h7⟩
            · simp only [h6, Bool.false_eq_true, if_false, Bool.false_and, if_true]; exact Ev.now _
            · simp only [h6, if_true, Bool.true_and, Bool.false_eq_true, if_false]
              refine ev_bind (sRecOk_ev _ _ _ _) ?_
              show Ev (fun K => if recOk (recAt t i).f0 (recAt t i).f1 (recAt t i).f2 (recAt t i).f3 = true then spec_ReadRecs.l0 K t (acc ++ [recAt t i]) t (recEnd t i) false else some ([], false)) _
              by_cases h8 : recOk (recAt t i).f0 (recAt t i).f1 (recAt t i).f2 (recAt t i).f3 = true
              · simp only [if_pos h8]
                have h9 : recEnd t i = (((recEnd t i).toNat : Nat) : Int) := by unfold recEnd; omega
                rw [h9, Int.toNat_natCast]
                exact ih (recEnd t i).toNat (acc ++ [recAt t i]) (by unfold recEnd; omega) (by unfold recEnd; omega) (by simp only [List.length_append, List.length_cons, List.length_nil]; unfold recEnd; omega)
              · simp only [if_neg h8]; exact Ev.now _
      · rw [if_neg hi]
        refine Ev.step (f := fun K => spec_ReadRecs.j1 K t acc false t (i : Int) false) (fun K => by simp only [spec_ReadRecs.l0]; rw [if_neg (by omega)]) (ev_some fun K => ?_)
        simp only [spec_ReadRecs.j1]
        rfl
  exact main (t.size + 1) 0 [] (by omega) (by omega) (by simp)
end Go.Proofs.Ytodokejcmbjpbaa.Pu

/- Ascending lists of numbers. -/
namespace Go.Proofs.Ytodokejcmbjpbaa.Pu
open Go.RowKit Go.Proofs.Ytodokejcmbjpbaa.PK Go.Proofs.YtodokejcmbjpbaaW.PrintWords
def sortB (l : List Int) : List Int := l.mergeSort fun x y => decide (x ≤ y)
/-- A number put into an ascending list. -/
def insB (s : List Int) (x : Int) : List Int := (s.filter fun y => decide (y < x)) ++ [x] ++ s.filter fun y => decide (y > x)
def Asc (l : List Int) : Prop := l.Pairwise (· < ·)
theorem ins_asc {s : List Int} (x : Int) (h : Asc s) : Asc (insB s x) := by
  unfold Asc insB
  rw [List.append_assoc, List.pairwise_append]
  refine ⟨List.Pairwise.filter _ h, ?_, ?_⟩
  · rw [List.singleton_append, List.pairwise_cons]
    exact ⟨fun y hy => by have := (List.mem_filter.1 hy).2; simpa using this, List.Pairwise.filter _ h⟩
  · intro a ha b hb
    have h1 : a < x := by have := (List.mem_filter.1 ha).2; simpa using this
    rcases List.mem_cons.1 hb with rfl | hb
    · exact h1
    · have h2 : b > x := by have := (List.mem_filter.1 hb).2; simpa using this
      omega
theorem ins_mem {s : List Int} {x y : Int} : y ∈ insB s x ↔ y ∈ s ∨ y = x := by
  unfold insB
  simp only [List.mem_append, List.mem_filter, List.mem_singleton, decide_eq_true_eq]
  constructor
  · rintro ((⟨h, _⟩ | h) | ⟨h, _⟩)
    · exact .inl h
    · exact .inr h
    · exact .inl h
  · rintro (h | h)
    · rcases Int.lt_trichotomy y x with h2 | h2 | h2
      · exact .inl (.inl ⟨h, h2⟩)
      · exact .inl (.inr h2)
      · exact .inr ⟨h, h2⟩
    · exact .inl (.inr h)
theorem ins_len {s : List Int} (x : Int) : (insB s x).length ≤ s.length * 2 + 1 := by
  unfold insB
  have h1 := List.length_filter_le (fun y => decide (y < x)) s
  have h2 := List.length_filter_le (fun y => decide (y > x)) s
  simp only [List.length_append, List.length_singleton]
  omega
theorem asc_len : ∀ {s : List Int} {m : List Int}, Asc s → (∀ y ∈ s, y ∈ m) → s.length ≤ m.length
  | [], _, _, _ => Nat.zero_le _
  | x :: s, m, h, hm => by
    obtain ⟨h1, h2⟩ := List.pairwise_cons.1 h
    have hx := hm x List.mem_cons_self
    have := asc_len (s := s) (m := m.erase x) h2 fun y hy => (List.mem_erase_of_ne (by have := h1 y hy; omega)).2 (hm y (List.mem_cons_of_mem _ hy))
    rw [List.length_erase_of_mem hx] at this
    have hp := List.length_pos_of_mem hx
    simp only [List.length_cons]
    omega
/-- Ascending lists of the same numbers are one. -/
theorem asc_eq : ∀ {s t : List Int}, Asc s → Asc t → (∀ y, y ∈ s ↔ y ∈ t) → s = t
  | [], [], _, _, _ => rfl
  | [], y :: t, _, _, h => by have := (h y).2 List.mem_cons_self; cases this
  | x :: s, [], _, _, h => by have := (h x).1 List.mem_cons_self; cases this
  | x :: s, y :: t, hs, ht, h => by
    obtain ⟨s1, s2⟩ := List.pairwise_cons.1 hs
    obtain ⟨t1, t2⟩ := List.pairwise_cons.1 ht
    have e : x = y := by
      have h1 := (h x).1 List.mem_cons_self
      have h2 := (h y).2 List.mem_cons_self
      rcases List.mem_cons.1 h1 with h1 | h1
      · exact h1
      · rcases List.mem_cons.1 h2 with h2 | h2
        · exact h2.symm
        · have := t1 x h1; have := s1 y h2; omega
    subst e
    rw [asc_eq s2 t2 fun z => by
      constructor
      · intro hz
        rcases List.mem_cons.1 ((h z).1 (List.mem_cons_of_mem _ hz)) with rfl | h3
        · have := s1 z hz; omega
        · exact h3
      · intro hz
        rcases List.mem_cons.1 ((h z).2 (List.mem_cons_of_mem _ hz)) with rfl | h3
        · have := t1 z hz; omega
        · exact h3]
theorem sort_asc {l : List Int} (h : l.Nodup) : Asc (sortB l) := by
  have hs : (sortB l).Pairwise fun a b => decide (a ≤ b) = true := List.pairwise_mergeSort (le := fun x y : Int => decide (x ≤ y)) (fun a b c h1 h2 => by simp at *; omega) (fun a b => by simp; omega) l
  have hn : (sortB l).Nodup := (List.mergeSort_perm l _).nodup_iff.2 h
  unfold Asc
  refine (List.Pairwise.and hs hn).imp fun ⟨h1, h2⟩ => ?_
  have h1 : _ ≤ _ := of_decide_eq_true h1
  have h2 : _ ≠ _ := h2
  omega
end Go.Proofs.Ytodokejcmbjpbaa.Pu

/- What is gathered of pages, as one function; the program's Gather tells it. -/
namespace Go.Proofs.Ytodokejcmbjpbaa.Pu
open Go.RowKit Go.Proofs.Ytodokejcmbjpbaa.PK Go.Proofs.YtodokejcmbjpbaaW.PrintWords
theorem rdIF_nat (l : List S36) (i : Nat) : rd_T36 l (i : Int) = l.getD i z36 := rfl
theorem dropG {α : Type} {l : List α} {i : Nat} (z : α) (h : i < l.length) : l.drop i = l.getD i z :: l.drop (i + 1) := by
  rw [List.drop_eq_getElem_cons h, List.getD_eq_getElem?_getD, List.getElem?_eq_getElem h]; rfl
theorem memG_cons_ne {x y : Int} {t : List Int} (h : ¬ y = x) : decide (x ∈ y :: t) = decide (x ∈ t) := by
  have : ¬ x = y := fun e => h e.symm
  simp [this]
theorem hasG_ev (l : List Int) (x : Int) (hl : l.length ≤ 9223372036854775807) : Ev (fun k => impl_hasInt.f k l x) (decide (x ∈ l)) := by
  have main : ∀ (d i : Nat), i + d = l.length → Ev (fun k => impl_hasInt.l0 k x l l.length (i : Int)) (decide (x ∈ l.drop i)) := by
    intro d
    induction d with
    | zero => intro i hi; exact ev_some fun k => by simp only [impl_hasInt.l0]; rw [if_neg (by omega), List.drop_eq_nil_of_le (by omega)]; simp
    | succ d ih =>
      intro i hi
      have hil : i < l.length := by omega
      rw [dropG 0 hil]
      by_cases h : l.getD i 0 = x
      · rw [h, decide_eq_true (List.mem_cons_self)]
        refine ev_some fun k => ?_
        simp only [impl_hasInt.l0]
        rw [if_pos (by omega), if_pos (by omega), if_pos (by omega), show rd l (i : Int) = l.getD i 0 from rfl, if_pos h]
      · rw [memG_cons_ne h]
        refine Ev.step (fun k => ?_) (ih (i + 1) (by omega))
        simp only [impl_hasInt.l0]
        rw [if_pos (by omega), if_pos (by omega), if_pos (by omega), show rd l (i : Int) = l.getD i 0 from rfl, if_neg h, wsucc (n := l.length) hil hl]
  have h := main l.length 0 (by omega)
  rw [List.drop_zero] at h
  exact h
/-- The page of a transaction with a part, and a count where that is told. -/
def metaT (x p c : Int) (f : S36) : Bool := decide (f.f2.f0 = 2) && (decide (f.f2.f2 = x) && (decide (f.f2.f3 = p) && (decide (c = 0) || decide (f.f2.f4 = c))))
def metaB (l : List S36) (x p c : Int) : Option S33 := (l.find? (metaT x p c)).map fun f => f.f2
def metaR : Option S33 → Int × Int × Int × Int × Int × ByteArray × Bool
  | none => (0, 0, 0, 0, 0, ⟨#[]⟩, false)
  | some q => (q.f0, q.f1, q.f2, q.f3, q.f4, q.f5, true)
theorem iMeta_ev (l : List S36) (x p c : Int) (hl : l.length ≤ 9223372036854775807) : Ev (fun k => impl_metaOf.f k l x p c) (metaR (metaB l x p c)) := by
  have main : ∀ (d i : Nat), i + d = l.length → Ev (fun k => impl_metaOf.l0 k x p c l l.length (i : Int)) (metaR (metaB (l.drop i) x p c)) := by
    intro d
    induction d with
    | zero => intro i hi; exact ev_some fun k => by simp only [impl_metaOf.l0]; rw [if_neg (by omega), List.drop_eq_nil_of_le (by omega)]; rfl
    | succ d ih =>
      intro i hi
      have hil : i < l.length := by omega
      have st : ∀ k, impl_metaOf.l0 (k + 1) x p c l l.length (i : Int) = if metaT x p c (l.getD i z36) = true then some (metaR (some (l.getD i z36).f2)) else impl_metaOf.l0 k x p c l l.length ((i + 1 : Nat) : Int) := fun k => by
        simp only [impl_metaOf.l0]
        rw [if_pos (by omega), if_pos (by omega), if_pos (by omega), rdIF_nat, wsucc (n := l.length) hil hl]
        unfold metaT metaR
        generalize l.getD i z36 = f
        by_cases h1 : f.f2.f0 = 2
        · by_cases h2 : f.f2.f2 = x
          · by_cases h3 : f.f2.f3 = p
            · by_cases h4 : c = 0
              · simp [h1, h2, h3, h4]
              · by_cases h5 : f.f2.f4 = c <;> simp [h1, h2, h3, h4, h5]
            · simp [h1, h2, h3]
          · simp [h1, h2]
        · simp [h1]
      rw [dropG z36 hil]
      unfold metaB
      rw [List.find?_cons]
      by_cases h : metaT x p c (l.getD i z36) = true
      · rw [h]
        exact ev_some fun k => by rw [st k, if_pos h]; rfl
      · rw [Bool.eq_false_iff.mpr h]
        exact Ev.step (fun k => by rw [st k, if_neg h]) (ih (i + 1) (by omega))
  have h := main l.length 0 (by omega)
  rw [List.drop_zero] at h
  exact h
theorem meta_mem {l : List S36} {x p c : Int} {q : S33} (h : metaB l x p c = some q) : ∃ f ∈ l, f.f2 = q ∧ metaT x p c f = true := by
  unfold metaB at h
  cases e : l.find? (metaT x p c) with
  | none => rw [e] at h; cases h
  | some f =>
    rw [e] at h
    injection h with h
    exact ⟨f, List.mem_of_find?_eq_some e, h, List.find?_some e⟩
def goB (l : List S36) (x c : Int) : Nat → Int → ByteArray → Int → Option (ByteArray × Int)
  | 0, _, t, s => some (t, s)
  | d + 1, p, t, s => match metaB l x p c with
    | none => none
    | some q => goB l x c d (p + 1) (t ++ q.f5) (mn s q.f1)
def rrT (t : ByteArray) : List S45 × Bool := rrB t (t.size + 1) 0 []
def txB (l : List S36) (x : Int) : Int × Int × List S45 × Bool := match metaB l x 0 0 with
  | none => (0, 0, [], false)
  | some q => match goB l x q.f4 (q.f4 - 1).toNat 1 q.f5 q.f1 with
    | none => (0, 0, [], false)
    | some (t, s) => (x, s, (rrT t).1, (rrT t).2)
/-- The texts of all pages whose part is below p. -/
def belowN (l : List S36) (p : Int) : Nat := ((l.filter fun f => decide (f.f2.f3 < p)).map fun f => f.f2.f5.size).sum
def sizesN (l : List S36) : Nat := (l.map fun f => f.f2.f5.size).sum
theorem below_cons (f : S36) (l : List S36) (p : Int) : belowN (f :: l) p = (if f.f2.f3 < p then f.f2.f5.size else 0) + belowN l p := by
  unfold belowN
  rw [List.filter_cons]
  by_cases h : f.f2.f3 < p
  · rw [if_pos (decide_eq_true h), if_pos h]; rfl
  · rw [if_neg (by rw [decide_eq_false h]; decide), if_neg h, Nat.zero_add]
theorem below_le (l : List S36) (p : Int) : belowN l p ≤ sizesN l := by
  induction l with
  | nil => exact Nat.le_refl _
  | cons f l ih =>
    rw [below_cons]
    have e : sizesN (f :: l) = f.f2.f5.size + sizesN l := rfl
    rw [e]
    split <;> omega
theorem below_step {l : List S36} {p : Int} {f : S36} (hf : f ∈ l) (hp : f.f2.f3 = p) : belowN l p + f.f2.f5.size ≤ belowN l (p + 1) := by
  induction l with
  | nil => cases hf
  | cons g l ih =>
    rw [below_cons, below_cons]
    have mono : belowN l p ≤ belowN l (p + 1) := by
      clear ih hf
      induction l with
      | nil => exact Nat.le_refl _
      | cons h l ih =>
        rw [below_cons, below_cons]
        by_cases h1 : h.f2.f3 < p
        · rw [if_pos h1, if_pos (by omega)]; omega
        · rw [if_neg h1]; omega
    rcases List.mem_cons.1 hf with rfl | hf
    · rw [if_neg (by omega), if_pos (by omega)]; omega
    · have h2 := ih hf
      by_cases h1 : g.f2.f3 < p
      · rw [if_pos h1, if_pos (by omega)]; omega
      · rw [if_neg h1]; omega
theorem iGathered_ev (l : List S36) (x : Int) (hl : l.length ≤ 9223372036854775807) (hs : sizesN l ≤ 1048576) (hc : ∀ f ∈ l, f.f2.f4 ≤ 9223372036854775807) : Ev (fun k => impl_gathered.f k l x) (txB l x) := by
  unfold impl_gathered.f txB
  refine ev_bind (iMeta_ev l x 0 0 hl) ?_
  cases e : metaB l x 0 0 with
  | none => exact Ev.now _
  | some q =>
    obtain ⟨f, hf, rfl, ht⟩ := meta_mem e
    unfold metaT at ht
    simp only [Bool.and_eq_true, decide_eq_true_eq] at ht
    show Ev (fun k => if true = true then impl_gathered.l0 k l x f.f2.f5 f.f2.f1 1 f.f2.f0 f.f2.f1 f.f2.f2 f.f2.f3 f.f2.f4 f.f2.f5 else _) _
    simp only [if_true]
    have main : ∀ (d : Nat) (p : Int) (t : ByteArray) (s : Int), 1 ≤ p → p + d ≤ 9223372036854775807 → (p + d = f.f2.f4 ∨ d = 0 ∧ f.f2.f4 ≤ p) → t.size ≤ belowN l p → Ev (fun k => impl_gathered.l0 k l x t s p f.f2.f0 f.f2.f1 f.f2.f2 f.f2.f3 f.f2.f4 f.f2.f5) (match goB l x f.f2.f4 d p t s with | none => (0, 0, [], false) | some (t, s) => (x, s, (rrT t).1, (rrT t).2)) := by
      intro d
      induction d with
      | zero =>
        intro p t s h1 h2 h3 h4
        have hb := below_le l p
        unfold goB
        refine Ev.step (f := fun k => (impl_ReadRecs.f k t).bind fun bt451 => some (x, s, bt451.1, bt451.2)) (fun k => by simp only [impl_gathered.l0]; rw [if_neg (by omega)]) (ev_bind (iReadRecs_ev t (by omega)) (Ev.now _))
      | succ d ih =>
        intro p t s h1 h2 h3 h4
        have hp : p < f.f2.f4 := by omega
        unfold goB
        refine Ev.step (f := fun k => (impl_metaOf.f k l x p f.f2.f4).bind fun bt443 => if bt443.2.2.2.2.2.2 = true then (if t.size + bt443.2.2.2.2.2.1.size ≤ 9223372036854775807 then impl_gathered.l0 k l x (t ++ bt443.2.2.2.2.2.1) (mn s bt443.2.1) (p + 1) f.f2.f0 f.f2.f1 f.f2.f2 f.f2.f3 f.f2.f4 f.f2.f5 else none) else some (0, 0, [], false)) (fun k => by simp only [impl_gathered.l0]; rw [if_pos hp, w64 (x := p + 1) (by omega) (by omega)]) (ev_bind (iMeta_ev l x p f.f2.f4 hl) ?_)
        cases e2 : metaB l x p f.f2.f4 with
        | none => exact Ev.now _
        | some q =>
          obtain ⟨g, hg, rfl, hgt⟩ := meta_mem e2
          unfold metaT at hgt
          simp only [Bool.and_eq_true, decide_eq_true_eq] at hgt
          have hb := below_step hg hgt.2.2.1
          have hb2 := below_le l (p + 1)
          show Ev (fun k => if true = true then (if t.size + g.f2.f5.size ≤ 9223372036854775807 then impl_gathered.l0 k l x (t ++ g.f2.f5) (mn s g.f2.f1) (p + 1) f.f2.f0 f.f2.f1 f.f2.f2 f.f2.f3 f.f2.f4 f.f2.f5 else none) else some (0, 0, [], false)) _
          simp only [if_true, if_pos (show t.size + g.f2.f5.size ≤ 9223372036854775807 by omega)]
          exact ih (p + 1) _ _ (by omega) (by omega) (by omega) (by rw [ByteArray.size_append]; omega)
    have hb := below_step hf ht.2.2.1
    have hcf := hc f hf
    by_cases h1 : f.f2.f4 ≤ 1
    · rw [show (f.f2.f4 - 1).toNat = 0 by omega]
      refine main 0 1 f.f2.f5 f.f2.f1 (by omega) (by omega) (.inr ⟨rfl, h1⟩) ?_
      have : belowN l 0 + f.f2.f5.size ≤ belowN l 1 := hb
      omega
    · refine main (f.f2.f4 - 1).toNat 1 f.f2.f5 f.f2.f1 (by omega) (by omega) (.inl (by omega)) ?_
      have : belowN l 0 + f.f2.f5.size ≤ belowN l 1 := hb
      omega
def numF (s : List Int) (f : S36) : List Int := if f.f2.f0 = 2 ∧ ¬ f.f2.f2 ∈ s then s ++ [f.f2.f2] else s
def numsB (l : List S36) : List Int := l.foldl numF []
def outF (l : List S36) (n : Int) : List S40 := if (txB l n).2.2.2 = true then [⟨(txB l n).1, (txB l n).2.1, (txB l n).2.2.1⟩] else []
def gatherB (l : List S36) : List S40 := (sortB (numsB l)).flatMap (outF l)
theorem iGather_ev (l : List S36) (hl : l.length ≤ 1048576) (hs : sizesN l ≤ 1048576) (hc : ∀ f ∈ l, f.f2.f4 ≤ 9223372036854775807) : Ev (fun k => impl_Gather.f k l) (gatherB l) := by
  unfold impl_Gather.f gatherB
  have two : ∀ (L : List Int), L.length ≤ 1048576 → ∀ (d i : Nat) (acc : List S40), i + d = L.length → acc.length ≤ i → Ev (fun k => impl_Gather.l1 k l acc L (L.length : Int) (i : Int)) (acc ++ (L.drop i).flatMap (outF l)) := by
    intro L hL d
    induction d with
    | zero =>
      intro i acc hi ha
      rw [List.drop_eq_nil_of_le (by omega)]
      exact ev_some fun k => by simp only [impl_Gather.l1]; rw [if_neg (by omega)]; simp
    | succ d ih =>
      intro i acc hi ha
      have hil : i < L.length := by omega
      rw [dropG 0 hil, List.flatMap_cons]
      refine Ev.step (f := fun k => (impl_gathered.f k l (L.getD i 0)).bind fun bt463 => if bt463.2.2.2 = true then impl_Gather.l1 k l (acc ++ [(⟨bt463.1, bt463.2.1, bt463.2.2.1⟩ : S40)]) L (L.length : Int) ((i + 1 : Nat) : Int) else impl_Gather.l1 k l acc L (L.length : Int) ((i + 1 : Nat) : Int)) (fun k => ?_) (ev_bind (iGathered_ev l (L.getD i 0) (by omega) hs hc) ?_)
      · simp only [impl_Gather.l1]
        rw [if_pos (by omega), if_pos (by omega), if_pos (by omega), show rd L (i : Int) = L.getD i 0 from rfl, wsucc (n := L.length) hil (by omega)]
        simp only [if_pos (show acc.length < 3518437208883 by omega)]
      · unfold outF
        by_cases h : (txB l (L.getD i 0)).2.2.2 = true
        · simp only [if_pos h]
          have := ih (i + 1) (acc ++ [(⟨(txB l (L.getD i 0)).1, (txB l (L.getD i 0)).2.1, (txB l (L.getD i 0)).2.2.1⟩ : S40)]) (by omega) (by simp; omega)
          rw [List.append_assoc] at this
          exact this
        · simp only [if_neg h]
          exact ih (i + 1) acc (by omega) (by omega)
  have one : ∀ (d i : Nat) (s : List Int), i + d = l.length → s.length ≤ i → Ev (fun k => impl_Gather.l0 k l s l (l.length : Int) (i : Int)) ((sortB ((l.drop i).foldl numF s)).flatMap (outF l)) := by
    intro d
    induction d with
    | zero =>
      intro i s hi ha
      rw [List.drop_eq_nil_of_le (by omega), List.foldl_nil]
      have hlen : (sortB s).length = s.length := List.length_mergeSort s
      have h2 := two (sortB s) (by omega) (sortB s).length 0 [] (by omega) (by simp)
      rw [List.drop_zero, List.nil_append, hlen] at h2
      refine Ev.step (f := fun k => (sort_Ints.f k s).bind fun t461 => impl_Gather.l1 k l [] t461 (s.length : Int) 0) (fun k => by simp only [impl_Gather.l0]; rw [if_neg (by omega)]) (ev_bind (ev_ext (f := fun _ => some (sortB s)) (fun _ => if_pos (by omega)) (Ev.now _)) h2)
    | succ d ih =>
      intro i s hi ha
      have hil : i < l.length := by omega
      rw [dropG z36 hil, List.foldl_cons]
      unfold numF
      by_cases h : (l.getD i z36).f2.f0 = 2
      · refine Ev.step (f := fun k => (impl_hasInt.f k s (l.getD i z36).f2.f2).bind fun t457 => if t457 = true then impl_Gather.l0 k l s l (l.length : Int) ((i + 1 : Nat) : Int) else impl_Gather.l0 k l (s ++ [(l.getD i z36).f2.f2]) l (l.length : Int) ((i + 1 : Nat) : Int)) (fun k => ?_) (ev_bind (hasG_ev s _ (by omega)) ?_)
        · simp only [impl_Gather.l0]
          rw [if_pos (by omega), if_pos (by omega), if_pos (by omega), rdIF_nat, if_pos h, wsucc (n := l.length) hil (by omega)]
          simp only [if_pos (show s.length < 17592186044416 by omega)]
        · by_cases h2 : (l.getD i z36).f2.f2 ∈ s
          · rw [if_neg (fun g => g.2 h2), decide_eq_true h2]
            simp only [if_true]
            exact ih (i + 1) s (by omega) (by omega)
          · rw [if_pos ⟨h, h2⟩, decide_eq_false h2]
            simp only [Bool.false_eq_true, if_false]
            exact ih (i + 1) _ (by omega) (by simp; omega)
      · rw [if_neg (fun g => h g.1)]
        refine Ev.step (fun k => ?_) (ih (i + 1) s (by omega) (by omega))
        simp only [impl_Gather.l0]
        rw [if_pos (by omega), if_pos (by omega), if_pos (by omega), rdIF_nat, if_neg h, wsucc (n := l.length) hil (by omega)]
  have h := one l.length 0 [] (by omega) (by simp)
  rw [List.drop_zero] at h
  exact h
end Go.Proofs.Ytodokejcmbjpbaa.Pu

/- The bytes of a record; the program's and the reference's RecText tell them. -/
namespace Go.Proofs.Ytodokejcmbjpbaa.Pu
open Go.RowKit Go.Proofs.Ytodokejcmbjpbaa.PK Go.Proofs.YtodokejcmbjpbaaW.PrintWords
def recText (t v a c : Int) : ByteArray := (strOfNums [(16 * t + v) % 256] ++ strOfNums (varL a.toNat)) ++ strOfNums (varL c.toNat)
def recTextR (t v a c : Int) : ByteArray × Bool := if recOk t v a c = true then (recText t v a c, true) else (⟨#[]⟩, false)
theorem sRecText_ev (t v a c : Int) : Ev (fun k => spec_RecText.f k t v a c) (recTextR t v a c) := by
  unfold spec_RecText.f recTextR spec_l06Byte.f
  refine ev_bind (sRecOk_ev t v a c) ?_
  by_cases h : recOk t v a c = true
  · obtain ⟨h1, h2, h3, h4, h5, h6, h7, h8⟩ := recOk_range h
    have s1 := varL_len5 (n := a.toNat) (by omega)
    have s2 := varL_len5 (n := c.toNat) (by omega)
    simp only [if_pos h, Option.bind_some]
    refine ev_bind (l01Var_ev h5 h6) ?_
    rw [w64 (x := 16 * t) (by omega) (by omega), w64 (x := 16 * t + v) (by omega) (by omega)]
    simp only [strOf_size, List.length_cons, List.length_nil, if_pos (show 0 + 1 + (varL a.toNat).length ≤ 9223372036854775807 by omega)]
    refine ev_bind (l01Var_ev h7 h8) ?_
    simp only [strOf_size, if_pos (show 0 + 1 + (varL a.toNat).length + (varL c.toNat).length ≤ 9223372036854775807 by omega)]
    exact Ev.now _
  · simp only [if_neg h]
    exact Ev.now _
end Go.Proofs.Ytodokejcmbjpbaa.Pu

/- Records come back from their bytes; bytes that are records are the bytes of them. -/
namespace Go.Proofs.Ytodokejcmbjpbaa.Pu
open Go.RowKit Go.Proofs.Ytodokejcmbjpbaa.PK Go.Proofs.YtodokejcmbjpbaaW.PrintWords
def varN (n : Nat) : List Nat := (varL n).map Int.toNat
theorem varN_long {n : Nat} (h : n > 127) : varN n = (n % 128 + 128) :: varN (n / 128) := by
  unfold varN; rw [varL_long h]; rfl
theorem varN_short {n : Nat} (h : ¬ n > 127) : varN n = [n] := by
  unfold varN; rw [varL_short h]; rfl
theorem varN_len (n : Nat) : (varN n).length = (varL n).length := List.length_map _
/-- A number that was written is read. -/
theorem rv_var (m : Nat) : ∀ (d k n0 : Nat) (rest : List Nat), (varN m).length ≤ d → n0 + m * 128 ^ k ≤ 1000000000 → (k = 0 ∨ m ≠ 0) → rvL (varN m ++ rest) d k n0 = some (n0 + m * 128 ^ k, k + (varN m).length) := by
  induction m using Nat.strongRecOn with
  | _ m ih =>
    intro d k n0 rest hd hn h0
    by_cases hm : m > 127
    · rw [varN_long hm] at hd ⊢
      cases d with
      | zero => simp at hd
      | succ d =>
        simp only [List.length_cons] at hd
        rw [List.cons_append, rvL_cons, if_pos (by omega), show (m % 128 + 128) % 128 = m % 128 by omega]
        have e : m * 128 ^ k = m % 128 * 128 ^ k + m / 128 * 128 ^ (k + 1) := by
          have h1 : m = m % 128 + 128 * (m / 128) := by omega
          conv => lhs; rw [h1]
          rw [Nat.add_mul, Nat.pow_succ]
          congr 1
          rw [Nat.mul_comm 128, Nat.mul_assoc, Nat.mul_comm 128]
        rw [e] at hn
        rw [ih (m / 128) (by omega) d (k + 1) _ rest (by omega) (by omega) (.inr (by omega)), e]
        simp only [List.length_cons]
        congr 2 <;> omega
    · rw [varN_short hm] at hd ⊢
      cases d with
      | zero => simp at hd
      | succ d =>
        rw [List.cons_append, rvL_cons, if_neg (by omega), show m % 128 = m by omega, if_neg (by omega)]
        rfl
theorem read_var {t : ByteArray} {a n : Nat} {rest : List Nat} (h : (byt t).drop a = varN n ++ rest) (ha : a ≤ t.size) (hn : n ≤ 1000000000) : rvB t (a : Int) = ((n : Int), ((a + (varN n).length : Nat) : Int), true) := by
  unfold rvB
  rw [if_pos (by omega), Int.toNat_natCast, h, rv_var n 5 0 0 rest (by rw [varN_len]; exact (varL_len5 hn).1) (by simpa using hn) (.inl rfl)]
  show (((0 + n * 128 ^ 0 : Nat) : Int), (a : Int) + ((0 + (varN n).length : Nat) : Int), true) = _
  rw [show 0 + n * 128 ^ 0 = n by simp, show (a : Int) + ((0 + (varN n).length : Nat) : Int) = ((a + (varN n).length : Nat) : Int) by omega]
/-- What was read is what is written. -/
theorem rv_back : ∀ (l : List Nat) (d : Nat) (pre : List Nat) {m c : Nat}, rvL l d pre.length (valB pre) = some (m, c) → (∀ b ∈ pre, 128 ≤ b ∧ b < 256) → (∀ b ∈ l, b < 256) → varN m = pre ++ l.take (c - pre.length)
  | l, 0, pre, m, c, h, _, _ => by rw [rvL_zero] at h; cases h
  | [], d + 1, pre, m, c, h, _, _ => by rw [rvL_nil] at h; cases h
  | x :: r, d + 1, pre, m, c, h, hp, hl => by
    rw [rvL_cons, ← val_snoc] at h
    have hx := hl x List.mem_cons_self
    by_cases h1 : x ≥ 128
    · rw [if_pos h1] at h
      have hr := rvL_range _ _ _ _ h
      have h2 := rv_back r d (pre ++ [x]) (m := m) (c := c) (by rw [List.length_append]; exact h) (fun b hb => by
        rcases List.mem_append.1 hb with hb | hb
        · exact hp b hb
        · obtain rfl := List.mem_singleton.1 hb; exact ⟨h1, hx⟩) (fun b hb => hl b (List.mem_cons_of_mem _ hb))
      rw [h2, List.append_assoc, List.length_append, List.length_singleton]
      congr 1
      rw [show c - pre.length = (c - (pre.length + 1)) + 1 by omega, List.take_succ_cons]; rfl
    · rw [if_neg h1] at h
      by_cases h2 : (x = 0 ∧ pre.length > 0) ∨ valB (pre ++ [x]) > 1000000000
      · rw [if_pos h2] at h; cases h
      · rw [if_neg h2] at h
        injection h with h
        injection h with h3 h4
        subst h3; subst h4
        unfold varN
        rw [canon1 pre hp (by omega) (by
          cases pre with
          | nil => exact .inl rfl
          | cons b q => exact .inr fun h0 => h2 (.inl ⟨h0, by simp⟩)), toNat_map, Nat.add_sub_cancel_left, List.take_succ_cons, List.take_zero]
theorem var_back {t : ByteArray} {a : Nat} (ha : a ≤ t.size) (h : (rvB t (a : Int)).2.2 = true) : (byt t).drop a = varN (rvB t (a : Int)).1.toNat ++ (byt t).drop (rvB t (a : Int)).2.1.toNat := by
  unfold rvB at h ⊢
  rw [if_pos (by omega), Int.toNat_natCast] at h
  rw [if_pos (by omega), Int.toNat_natCast]
  cases e : rvL ((byt t).drop a) 5 0 0 with
  | none => rw [e] at h; cases h
  | some z =>
    obtain ⟨m, c⟩ := z
    have h2 := rv_back ((byt t).drop a) 5 [] e (fun b hb => by cases hb) (fun b hb => byt_lt t b (List.mem_of_mem_drop hb))
    show (byt t).drop a = varN ((m : Int)).toNat ++ (byt t).drop ((a : Int) + (c : Int)).toNat
    rw [Int.toNat_natCast, h2, show ((a : Int) + (c : Int)).toNat = a + c by omega, ← List.drop_drop]
    exact (List.take_append_drop c ((byt t).drop a)).symm

def recN (x : S45) : List Nat := (16 * x.f0 + x.f1).toNat :: (varN x.f2.toNat ++ varN x.f3.toNat)
def okR (x : S45) : Bool := recOk x.f0 x.f1 x.f2 x.f3
def recsN (l : List S45) : List Nat := (l.map recN).flatten
theorem byt_rec {x : S45} (h : okR x = true) : byt (recText x.f0 x.f1 x.f2 x.f3) = recN x := by
  obtain ⟨h1, h2, h3, h4, h5, h6, h7, h8⟩ := recOk_range h
  unfold recText recN varN
  rw [byt_app, byt_app, byt_str _ (varL_byte _), byt_str _ (varL_byte _), byt_str _ (fun y hy => by obtain rfl := List.mem_singleton.1 hy; omega), List.append_assoc]
  show ((16 * x.f0 + x.f1) % 256).toNat :: _ = _
  rw [show (16 * x.f0 + x.f1) % 256 = 16 * x.f0 + x.f1 by omega]; rfl
theorem recN_len (x : S45) : (recN x).length = 1 + (varN x.f2.toNat).length + (varN x.f3.toNat).length := by
  unfold recN; simp only [List.length_cons, List.length_append]; omega
theorem rec_read {t : ByteArray} {i : Nat} {x : S45} {rest : List Nat} (h : (byt t).drop i = recN x ++ rest) (hx : okR x = true) (hi : i < t.size) : recMay t i = true ∧ recAt t i = x ∧ recEnd t i = ((i + (recN x).length : Nat) : Int) := by
  obtain ⟨h1, h2, h3, h4, h5, h6, h7, h8⟩ := recOk_range hx
  have hl : ((byt t).drop i).length = t.size - i := by rw [List.length_drop, byt_len]
  have hl2 := congrArg List.length h
  rw [hl, List.length_append, recN_len] at hl2
  have hd := drop_byt hi
  rw [h] at hd
  unfold recN at hd
  rw [List.cons_append] at hd
  injection hd with h9 h10
  rw [List.append_assoc] at h10
  have ra := read_var (t := t) (a := i + 1) (n := x.f2.toNat) h10.symm (by omega) (by omega)
  have h11 : (byt t).drop (i + 1 + (varN x.f2.toNat).length) = varN x.f3.toNat ++ rest := by
    rw [← List.drop_drop, ← h10, List.drop_left]
  have rc := read_var (t := t) (a := i + 1 + (varN x.f2.toNat).length) (n := x.f3.toNat) h11 (by omega) (by omega)
  unfold recMay recAt recEnd
  rw [ra]
  simp only
  rw [rc]
  refine ⟨rfl, ?_, ?_⟩
  · rw [← h9]
    obtain ⟨t0, v0, a0, c0⟩ := x
    simp only at *
    congr 1 <;> omega
  · rw [recN_len]
    show ((_ : Nat) : Int) = ((_ : Nat) : Int)
    omega
theorem trip (t : ByteArray) : ∀ (L : List S45) (d i : Nat) (acc : List S45), (byt t).drop i = recsN L → (∀ x ∈ L, okR x = true) → t.size < i + d → i ≤ t.size → rrB t d i acc = (acc ++ L, true)
  | [], d, i, acc, h, _, hd, hi => by
    have h1 := congrArg List.length h
    rw [List.length_drop, byt_len] at h1
    have h2 : (recsN []).length = 0 := rfl
    rw [h2] at h1
    cases d with
    | zero => omega
    | succ d => unfold rrB; rw [if_neg (by omega), List.append_nil]
  | x :: L, d, i, acc, h, ho, hd, hi => by
    have hx := ho x List.mem_cons_self
    have e : recsN (x :: L) = recN x ++ recsN L := rfl
    rw [e] at h
    have hl := congrArg List.length h
    rw [List.length_drop, byt_len, List.length_append, recN_len] at hl
    obtain ⟨h1, h2, h3⟩ := rec_read h hx (by omega)
    cases d with
    | zero => omega
    | succ d =>
      unfold rrB
      rw [if_pos (by omega), h1, h2, Bool.true_and]
      have hx2 : recOk x.f0 x.f1 x.f2 x.f3 = true := hx
      rw [if_pos hx2, h3, Int.toNat_natCast, trip t L d (i + (recN x).length) (acc ++ [x]) (by rw [← List.drop_drop, h, List.drop_left]) (fun y hy => ho y (List.mem_cons_of_mem _ hy)) (by rw [recN_len]; omega) (by rw [recN_len]; omega), List.append_assoc]
      rfl
theorem back (t : ByteArray) : ∀ (d i : Nat) (acc : List S45), t.size < i + d → i ≤ t.size → (rrB t d i acc).2 = true → ∃ N, (rrB t d i acc).1 = acc ++ N ∧ (∀ x ∈ N, okR x = true) ∧ (byt t).drop i = recsN N
  | 0, i, acc, h1, h2, _ => by omega
  | d + 1, i, acc, h1, h2, h => by
    unfold rrB at h ⊢
    by_cases hi : i < t.size
    · rw [if_pos hi] at h ⊢
      by_cases hc : (recMay t i && recOk (recAt t i).f0 (recAt t i).f1 (recAt t i).f2 (recAt t i).f3) = true
      · rw [if_pos hc] at h ⊢
        rw [Bool.and_eq_true] at hc
        obtain ⟨hm, ho⟩ := hc
        unfold recMay at hm
        rw [Bool.and_eq_true] at hm
        have hx := byt_get_lt t i
        have A := rvB_range t ((i + 1 : Nat) : Int)
        have C := rvB_range t (rvB t ((i + 1 : Nat) : Int)).2.1
        rcases A with ⟨a1, _⟩ | ⟨a1, a2, a3, a4, a5, a6⟩
        · rw [a1] at hm; exact absurd hm.1 (by decide)
        rcases C with ⟨c1, _⟩ | ⟨c1, c2, c3, c4, c5, c6⟩
        · rw [c1] at hm; exact absurd hm.2 (by decide)
        have va := var_back (t := t) (a := i + 1) (by omega) hm.1
        have hn : (rvB t ((i + 1 : Nat) : Int)).2.1 = (((rvB t ((i + 1 : Nat) : Int)).2.1.toNat : Nat) : Int) := by omega
        have vc := var_back (t := t) (a := (rvB t ((i + 1 : Nat) : Int)).2.1.toNat) (by omega) (by rw [← hn]; exact hm.2)
        rw [← hn] at vc
        have e : (byt t).drop i = recN (recAt t i) ++ (byt t).drop (recEnd t i).toNat := by
          rw [drop_byt hi, va, vc]
          unfold recN recAt recEnd
          simp only [List.cons_append, List.append_assoc]
          congr 1
          omega
        obtain ⟨N, n1, n2, n3⟩ := back t d (recEnd t i).toNat (acc ++ [recAt t i]) (by unfold recEnd; omega) (by unfold recEnd; omega) h
        refine ⟨recAt t i :: N, by rw [n1, List.append_assoc]; rfl, fun y hy => ?_, by rw [e, n3]; rfl⟩
        rcases List.mem_cons.1 hy with rfl | hy
        · exact ho
        · exact n2 y hy
      · rw [if_neg hc] at h; cases h
    · rw [if_neg hi]
      exact ⟨[], (List.append_nil _).symm, fun x hx => (by cases hx), List.drop_eq_nil_of_le (by rw [byt_len]; omega)⟩
theorem rr_none (t : ByteArray) : ∀ (d i : Nat) (acc : List S45), (rrB t d i acc).2 = false → (rrB t d i acc).1 = []
  | 0, i, acc, h => by cases h
  | d + 1, i, acc, h => by
    unfold rrB at h ⊢
    by_cases hi : i < t.size
    · rw [if_pos hi] at h ⊢
      by_cases hc : (recMay t i && recOk (recAt t i).f0 (recAt t i).f1 (recAt t i).f2 (recAt t i).f3) = true
      · rw [if_pos hc] at h ⊢; exact rr_none t d _ _ h
      · rw [if_neg hc]
    · rw [if_neg hi] at h; cases h

/-- The bytes of records, one behind the other. -/
def recsT (acc : ByteArray) : List S45 → ByteArray
  | [] => acc
  | x :: l => recsT (acc ++ recText x.f0 x.f1 x.f2 x.f3) l
theorem byt_recs : ∀ (l : List S45) (acc : ByteArray), (∀ x ∈ l, okR x = true) → byt (recsT acc l) = byt acc ++ recsN l
  | [], acc, _ => (List.append_nil _).symm
  | x :: l, acc, h => by
    show byt (recsT (acc ++ recText x.f0 x.f1 x.f2 x.f3) l) = byt acc ++ (recN x ++ recsN l)
    rw [byt_recs l _ fun y hy => h y (List.mem_cons_of_mem _ hy), byt_app, byt_rec (h x List.mem_cons_self), List.append_assoc]
theorem rec_size {x : S45} (h : okR x = true) : (recText x.f0 x.f1 x.f2 x.f3).size ≤ 11 := by
  obtain ⟨h1, h2, h3, h4, h5, h6, h7, h8⟩ := recOk_range h
  rw [← byt_len, byt_rec h, recN_len, varN_len, varN_len]
  have s1 := varL_len5 (n := x.f2.toNat) (by omega)
  have s2 := varL_len5 (n := x.f3.toNat) (by omega)
  omega
theorem recsT_size : ∀ (l : List S45) (acc : ByteArray), (∀ x ∈ l, okR x = true) → (recsT acc l).size ≤ acc.size + 11 * l.length
  | [], acc, _ => Nat.le_refl _
  | x :: l, acc, h => by
    have h1 := recsT_size l (acc ++ recText x.f0 x.f1 x.f2 x.f3) fun y hy => h y (List.mem_cons_of_mem _ hy)
    have h2 := rec_size (h x List.mem_cons_self)
    rw [ByteArray.size_append] at h1
    show (recsT (acc ++ recText x.f0 x.f1 x.f2 x.f3) l).size ≤ _
    simp only [List.length_cons]
    omega
end Go.Proofs.Ytodokejcmbjpbaa.Pu

/- The pages of a transaction; the program's and the reference's TxPages tell them; marks and copies of pages and records. -/
namespace Go.Proofs.Ytodokejcmbjpbaa.Pu
open Go.RowKit Go.Proofs.Ytodokejcmbjpbaa.PK Go.Proofs.YtodokejcmbjpbaaW.PrintWords
theorem rdTP_nat (l : List S33) (i : Nat) : rd_T33 l (i : Int) = l.getD i z33 := rfl
theorem rdTR_nat (l : List S45) (i : Nat) : rd_T45 l (i : Int) = l.getD i z45 := rfl
theorem rdOfT_nat {α : Type} (z : α) (l : List α) (i : Nat) : rdOf z l (i : Int) = l.getD i z := rfl
theorem getDset {α : Type} {l : List α} {c : Nat} (i : Nat) (v z : α) (hc : c < l.length) : (l.set c v).getD i z = if i = c then v else l.getD i z := by
  rw [List.getD_eq_getElem?_getD, List.getD_eq_getElem?_getD, List.getElem?_set]
  by_cases h : c = i
  · subst h; simp [hc]
  · rw [if_neg h, if_neg (fun e => h e.symm)]
theorem dropT {α : Type} {l : List α} {i : Nat} (z : α) (h : i < l.length) : l.drop i = l.getD i z :: l.drop (i + 1) := by
  rw [List.drop_eq_getElem_cons h, List.getD_eq_getElem?_getD, List.getElem?_eq_getElem h]; rfl
theorem empty_app (t : ByteArray) : (⟨#[]⟩ : ByteArray) ++ t = t := ByteArray.empty_append

def lastT (ts : List ByteArray) : ByteArray := ts.getD (ts.length - 1) ByteArray.empty
def txF (ts : List ByteArray) (t : ByteArray) : List ByteArray := if ((lastT ts).size : Int) + (t.size : Int) > 90 then ts ++ [t] else ts.set (ts.length - 1) (lastT ts ++ t)
def txs : List S45 → List ByteArray → Option (List ByteArray)
  | [], ts => some ts
  | r :: rs, ts => if recOk r.f0 r.f1 r.f2 r.f3 = true then txs rs (txF ts (recText r.f0 r.f1 r.f2 r.f3)) else none
def pageB (s x : Int) (ts : List ByteArray) (i : Nat) : S33 := ⟨2, wrap64 (s + (i : Int)), x, (i : Int), (ts.length : Int), ts.getD i ByteArray.empty⟩
def pagesB (s x : Int) (ts : List ByteArray) : List S33 := (List.range' 0 ts.length).map (pageB s x ts)
def txFin (s x : Int) : Option (List ByteArray) → List S33 × Bool
  | none => ([], false)
  | some ts => if (ts.length : Int) > 9 then ([], false) else if 1 ≤ s ∧ s ≤ wrap64 (wrap64 (1000000000 - (ts.length : Int)) + 1) then (if 1 ≤ x ∧ x ≤ 1000000000 then (pagesB s x ts, true) else ([], false)) else ([], false)
theorem txFin_len (s x : Int) (o : Option (List ByteArray)) : (txFin s x o).1.length ≤ 9 := by
  cases o with
  | none => simp [txFin]
  | some ts =>
    unfold txFin
    by_cases h : (ts.length : Int) > 9
    · simp [h]
    · simp only [if_neg h]
      by_cases h2 : 1 ≤ s ∧ s ≤ wrap64 (wrap64 (1000000000 - (ts.length : Int)) + 1)
      · by_cases h3 : 1 ≤ x ∧ x ≤ 1000000000
        · simp only [if_pos h2, if_pos h3, pagesB, List.length_map, List.length_range']; omega
        · simp only [if_pos h2, if_neg h3]; simp
      · simp only [if_neg h2]; simp
theorem recText_size {t v a c : Int} (h : recOk t v a c = true) : (recText t v a c).size ≤ 11 := by
  obtain ⟨h1, h2, h3, h4, h5, h6, h7, h8⟩ := recOk_range h
  have s1 := varL_len5 (n := a.toNat) (by omega)
  have s2 := varL_len5 (n := c.toNat) (by omega)
  unfold recText
  rw [ByteArray.size_append, ByteArray.size_append, strOf_size, strOf_size, strOf_size]
  simp
  omega
theorem txF_last {ts : List ByteArray} {t : ByteArray} (h0 : 0 < ts.length) (ht : t.size ≤ 11) : (lastT (txF ts t)).size ≤ 90 ∧ 0 < (txF ts t).length ∧ (txF ts t).length ≤ ts.length + 1 := by
  unfold txF
  by_cases h : ((lastT ts).size : Int) + (t.size : Int) > 90
  · rw [if_pos h]
    refine ⟨?_, by simp, by simp⟩
    unfold lastT
    rw [List.length_append, List.length_singleton, Nat.add_sub_cancel, List.getD_eq_getElem?_getD, List.getElem?_append_right (Nat.le_refl _)]
    simp
    omega
  · rw [if_neg h]
    refine ⟨?_, by rw [List.length_set]; exact h0, by rw [List.length_set]; omega⟩
    unfold lastT at h ⊢
    rw [List.length_set, getDset _ _ _ (by omega), if_pos rfl, ByteArray.size_append]
    omega
theorem wpredT {i : Nat} (h : 0 < i) (hn : i ≤ 9223372036854775807) : wrap64 ((i : Int) - 1) = ((i - 1 : Nat) : Int) := by
  rw [w64 (by omega) (by omega)]; omega
theorem sTx1_ev (s x : Int) (ts : List ByteArray) (hl : ts.length ≤ 9) : ∀ (d i : Nat) (acc : List S33), i + d = ts.length → acc.length = i → Ev (fun k => spec_TxPages.l1 k s x ts acc (i : Int)) (acc ++ (List.range' i d).map (pageB s x ts), true) := by
  intro d
  induction d with
  | zero => intro i acc hi ha; exact ev_some fun k => by simp only [spec_TxPages.l1]; rw [if_neg (by omega)]; simp
  | succ d ih =>
    intro i acc hi ha
    have h := ih (i + 1) (acc ++ [pageB s x ts i]) (by omega) (by simp; omega)
    rw [List.append_assoc, List.singleton_append] at h
    rw [List.range'_succ, List.map_cons]
    refine Ev.step (fun k => ?_) h
    simp only [spec_TxPages.l1]
    rw [if_pos (by omega), if_pos (by omega), if_pos (by omega), wsucc (i := i) (n := ts.length) (by omega) (by omega), rdOfT_nat]
    rfl
theorem ev_step_bind {α β : Type} {L : Nat → Option β} {g : Nat → Option α} {F : Nat → α → Option β} {a : α} {r : β} (hg : Ev g a) (hL : ∀ k, L (k + 1) = (g k).bind (F k)) (h : Ev (fun k => F k a) r) : Ev L r := Ev.step (f := fun k => (g k).bind (F k)) hL (Ev.bind hg h)
theorem sTx_ev (s x : Int) (recs : List S45) (hr : recs.length ≤ 1048576) : Ev (fun k => spec_TxPages.f k s x recs) (txFin s x (txs recs [⟨#[]⟩])) := by
  have main : ∀ (d i : Nat) (ts : List ByteArray), i + d = recs.length → 0 < ts.length → ts.length ≤ 1 + i → (lastT ts).size ≤ 90 → Ev (fun k => spec_TxPages.l0 k s x recs [] ts (i : Int)) (txFin s x (txs (recs.drop i) ts)) := by
    intro d
    induction d with
    | zero =>
      intro i ts hi h0 hl hs
      rw [List.drop_eq_nil_of_le (by omega)]
      have no : Ev (fun k => spec_TxPages.j1 k s x [] ts true) (([] : List S33), false) := ev_some fun k => by simp only [spec_TxPages.j1]; rw [if_pos trivial]
      unfold txs txFin
      by_cases h : (ts.length : Int) > 9
      · simp only [if_pos h]
        refine Ev.step (fun k => ?_) no
        simp only [spec_TxPages.l0]
        rw [if_neg (by omega), if_pos h]
      · simp only [if_neg h]
        by_cases h2 : 1 ≤ s ∧ s ≤ wrap64 (wrap64 (1000000000 - (ts.length : Int)) + 1)
        · by_cases h3 : 1 ≤ x ∧ x ≤ 1000000000
          · simp only [if_pos h2, if_pos h3]
            refine Ev.step (f := fun k => spec_TxPages.j1 k s x [] ts false) (fun k => ?_) (Ev.step (fun k => ?_) (sTx1_ev s x ts (by omega) ts.length 0 [] (by omega) rfl))
            · simp only [spec_TxPages.l0]
              rw [if_neg (by omega), if_neg h, l01In_eq', l01In_eq', Option.bind_some, decide_eq_true h2, if_pos rfl, Option.bind_some, decide_eq_true h3]; rfl
            · simp only [spec_TxPages.j1]
              rw [if_neg (by decide)]; rfl
          · simp only [if_pos h2, if_neg h3]
            refine Ev.step (fun k => ?_) no
            simp only [spec_TxPages.l0]
            rw [if_neg (by omega), if_neg h, l01In_eq', l01In_eq', Option.bind_some, decide_eq_true h2, if_pos rfl, Option.bind_some, decide_eq_false h3]; rfl
        · simp only [if_neg h2]
          refine Ev.step (fun k => ?_) no
          simp only [spec_TxPages.l0]
          rw [if_neg (by omega), if_neg h, l01In_eq', Option.bind_some, decide_eq_false h2, if_neg (by decide)]
    | succ d ih =>
      intro i ts hi h0 hl hs
      have hil : i < recs.length := by omega
      rw [dropT z45 hil]
      have hR : rd_T45 recs (i : Int) = recs.getD i z45 := rfl
      revert hR
      generalize recs.getD i z45 = r
      intro hR
      unfold txs
      have hT := sRecText_ev r.f0 r.f1 r.f2 r.f3
      unfold recTextR at hT
      by_cases h : recOk r.f0 r.f1 r.f2 r.f3 = true
      · rw [if_pos h] at hT
        rw [if_pos h]
        have hz := recText_size h
        have hih := ih (i + 1) (txF ts (recText r.f0 r.f1 r.f2 r.f3)) (by omega) (txF_last h0 hz).2.1 (by have := (txF_last (t := recText r.f0 r.f1 r.f2 r.f3) h0 hz).2.2; omega) (txF_last h0 hz).1
        revert hT hih hz
        generalize recText r.f0 r.f1 r.f2 r.f3 = t
        intro hT hz hih
        apply ev_step_bind hT
        case hL =>
          intro k
          simp only [spec_TxPages.l0]
          rw [if_pos (by omega), if_pos (by omega), hR, wsucc (i := i) (n := recs.length) hil (by omega)]
        have er : rdOf ByteArray.empty ts ((ts.length - 1 : Nat) : Int) = lastT ts := rfl
        have ew : wrap64 (((lastT ts).size : Int) + (t.size : Int)) = ((lastT ts).size : Int) + (t.size : Int) := w64 (by omega) (by omega)
        simp only [if_true, wpredT h0 (by omega), er, ew, if_pos (show (0 : Int) ≤ ((ts.length - 1 : Nat) : Int) by omega), if_pos (show ((ts.length - 1 : Nat) : Int) < (ts.length : Int) by omega)]
        unfold txF at hih ⊢
        by_cases h6 : ((lastT ts).size : Int) + (t.size : Int) > 90
        · simp only [if_pos h6, if_pos (show ts.length < 8796093022208 by omega)] at hih ⊢
          exact hih
        · simp only [if_neg h6, if_pos (show (lastT ts).size + t.size ≤ 9223372036854775807 by omega), Int.toNat_natCast] at hih ⊢
          exact hih
      · rw [if_neg h] at hT
        rw [if_neg h]
        apply ev_step_bind hT
        case hL =>
          intro k
          simp only [spec_TxPages.l0]
          rw [if_pos (by omega), if_pos (by omega), hR, wsucc (i := i) (n := recs.length) hil (by omega)]
        simp only [Bool.false_eq_true, if_false]
        exact Ev.now _
  exact main recs.length 0 [⟨#[]⟩] (by omega) (by simp) (by simp) (by show (⟨#[]⟩ : ByteArray).size ≤ 90; decide)
end Go.Proofs.Ytodokejcmbjpbaa.Pu
