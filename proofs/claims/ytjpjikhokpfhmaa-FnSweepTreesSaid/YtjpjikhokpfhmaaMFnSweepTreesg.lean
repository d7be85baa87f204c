/- FnSweepTrees: functions of the translation as Lean functions with what their calls come to, plain lemmas on them, and, at the end, the row. Parts of one proof, merged by a program of this session; each part's own sentence stands at its head. -/
import Derived.Test.YtjpjikhokpfhmaaRows
import Derived.WalkKit
import Derived.ProofKit
import Derived.OpenShut
import Derived.ShutString
import Derived.ChangeOld
import Derived.Below
import Derived.SizedLaws
import Derived.Test.YtjpjikhokpfhmaaMFnSweepTreesf
namespace Go.Proofs.Ytjpjikhokpfhmaa.PT
open Go.RowKit Go.Proofs.YtjpjikhokpfhmaaW.PrintWords Go.Proofs.YtjpjikhokpfhmaaW.PrintLast Go.Proofs.YtjpjikhokpfhmaaW.PrintMore
attribute [local go_sem] max2_int min2_int max_two min_two max_three min_three max_four min_four   -- for this text's walks alone
set_option linter.unusedVariables false
set_option linter.unusedSimpArgs false
def spec_l11Has.l0 : Nat → Int → List Bool → Int → List (S47) → Option (List Bool)
 | 0,_,_,_,_=>none
 | k + 1,x1,x5,x6,x279000=>if x6 < 4 then (if 0 ≤ x1 then (if x1 < (x279000.length : Int) then (if 0 ≤ x6 then (if x6 < (((rd_T47 x279000 x1).f1).length : Int) then (if (rd ((rd_T47 x279000 x1).f1) x6) ≥ 0 then (if 0 ≤ (rd ((rd_T47 x279000 x1).f1) x6) then (if (rd ((rd_T47 x279000 x1).f1) x6) < (x5.length : Int) then (spec_l11Has.l0 k x1 (x5.set ((rd ((rd_T47 x279000 x1).f1) x6) : Int).toNat true) (wrap64 (x6 + 1)) x279000) else (none)) else (none)) else (spec_l11Has.l0 k x1 x5 (wrap64 (x6 + 1)) x279000)) else (none)) else (none)) else (none)) else (none)) else (some x5)
def spec_l11Has.f (k : Nat) (l0_0 : List (S47)) (a1 : Int) : Option (List Bool):=if 0 ≤ (l0_0.length : Int) then (if ((l0_0.length : Int) : Int).toNat ≤ 281474976710656 then ((some (List.replicate ((l0_0.length : Int) : Int).toNat false : List Bool)).bind fun y279=>(if a1 < 0 then (some y279) else (if 0 ≤ a1 then (if a1 < (y279.length : Int) then (spec_l11Has.l0 k a1 (y279.set (a1 : Int).toNat true) 0 l0_0) else (none)) else (none)))) else (none)) else (none)
theorem spec_l11Has.mono_l : ∀ k,(∀ y0 y1 y2 y3,LeO (spec_l11Has.l0 k y0 y1 y2 y3) (spec_l11Has.l0 (k + 1) y0 y1 y2 y3))
 | 0=>fun _ _ _ _ r h=>by simp [spec_l11Has.l0] at h
 | k + 1=>by
  have ih0:=spec_l11Has.mono_l k;intro y0 y1 y2 y3;unfold spec_l11Has.l0
  repeat' first
  | (with_reducible exact ih0 _ _ _ _)
  | (with_reducible exact LeO.refl _)
  | (with_reducible exact LeO.none _)
  | (with_reducible refine LeO.ite ?_ ?_)
  | (with_reducible refine LeO.bind ?_ (fun _=>?_))
  | exact ih0 _ _ _ _
  | exact LeO.none _
  | refine LeO.ite ?_ ?_
  | refine LeO.bind ?_ (fun _=>?_)
theorem spec_l11Has.mono : ∀ a0 a1 k,LeO (spec_l11Has.f k a0 a1) (spec_l11Has.f (k + 1) a0 a1):=by
 intro a0 a1 k;have ih0:=spec_l11Has.mono_l k;unfold spec_l11Has.f
 repeat' first
   | (with_reducible exact ih0 _ _ _ _)
   | (with_reducible exact LeO.refl _)
   | (with_reducible exact LeO.none _)
   | (with_reducible refine LeO.ite ?_ ?_)
   | (with_reducible refine LeO.bind ?_ (fun _=>?_))
   | exact ih0 _ _ _ _
   | exact LeO.none _
   | refine LeO.ite ?_ ?_
   | refine LeO.bind ?_ (fun _=>?_)
set_option maxHeartbeats 8000000 in
set_option maxRecDepth 100000 in
theorem spec_l11Has.calls (k : Nat) (A0_0 : Option Addr) (c0_0 : Nat) (l0_0 : List (S47)) (a1 : Int) (r : List Bool) (w : World) (hr0_0 : Kd.C k47 w A0_0 l0_0.length l0_0) (hc0_0 : l0_0.length ≤ c0_0) (h : spec_l11Has.f k l0_0 a1 = some r) :
  Calls Try.prog 34 #[.agg #[.slice A0_0 l0_0.length c0_0],.int .i64 a1] w fun e w'=>∃ v0_ : Value,e = .returned (v0_) ∧ Kd.R Kd.bool 4 w' w.heap.size (fun _=>True) v0_ r ∧ Below w.heap.size w w':=by
 have hu26:=Try.underlying26;have HR0_0:=zMk hr0_0;have HC0_0:=zMk hc0_0;clear hr0_0 hc0_0;have HB:=zMk (Below.refl w.heap.size w);have H : (if 0 ≤ (l0_0.length : Int) then (if ((l0_0.length : Int) : Int).toNat ≤ 281474976710656 then ((some (List.replicate ((l0_0.length : Int) : Int).toNat false : List Bool)).bind fun y279=>(if a1 < 0 then (some y279) else (if 0 ≤ a1 then (if a1 < (y279.length : Int) then (spec_l11Has.l0 k a1 (y279.set (a1 : Int).toNat true) 0 l0_0) else (none)) else (none)))) else (none)) else (none)) = some r:=h;clear h
 by_cases c3 : 0 ≤ (l0_0.length : Int)
 ·rw [if_pos c3] at H;have c3b0:=eq_true c3;have c3b1 : decide (0 ≤ (l0_0.length : Int)) = true:=decide_eq_true c3;clear c3
  by_cases c4 : ((l0_0.length : Int) : Int).toNat ≤ 281474976710656
  ·rw [if_pos c4] at H;have c4b0:=eq_true c4;have c4b1 : decide (((l0_0.length : Int) : Int).toNat ≤ 281474976710656) = true:=decide_eq_true c4;clear c4;obtain ⟨y279,hy279⟩ : ∃ y_ : List Bool,y_ = (List.replicate ((l0_0.length : Int) : Int).toNat false):=⟨_,rfl⟩;replace H : (if a1 < 0 then (some y279) else (if 0 ≤ a1 then (if a1 < (y279.length : Int) then (spec_l11Has.l0 k a1 (y279.set (a1 : Int).toNat true) 0 l0_0) else (none)) else (none))) = some r:=by first | (rw [hy279];with_reducible exact H) | (have H2_:=(Option.bind_some _ _).symm.trans H;rw [hy279];with_reducible exact H2_) | (have H2_:=(Option.bind_some _ _).symm.trans H;with_reducible exact H2_) | with_reducible exact H | (rw [hy279];exact H) | exact H
   have Ny279:=zMk hy279;clear hy279
   by_cases c5 : a1 < 0
   ·rw [if_pos c5] at H;have c5b0 : decide (a1 < 0) = true:=decide_eq_true c5;clear c5;obtain rfl:=Option.some.inj H
    go_enter Try.func34,Try.ntmps34
    go_wp2_with (first | ((with_reducible refine gate_dst (N:=2) rfl ?_);refine box_event ?hg (N:=2) ?hd (cs:=#[.slice A0_0 l0_0.length c0_0]) (t:=26) ?hr ?_;(case hd=>rfl);(case hg=>rfl);(case hr=>first | (go_simp;done) | (go_simp;rfl));intro gb278 hg w6 hbox hb;have n0_:=zMk (below_step (hs HB) hb);have n1_:=zMk (hbox);have n2_:=zMk ((by rw [hg];exact (below_size (hs HB)) : w.heap.size ≤ gb278));have n3_:=zMk ((by rw [hg];exact (below_size (hs HB)) : w.heap.size ≤ gb278));clear HB;have HB:=n0_;have BK278:=n1_;have GW278:=n2_;have GE278:=n3_;clear n0_ n1_ n2_ n3_;clear hb hbox hg;have hcz7_0 : w6.cell? ⟨gb278,0,none⟩ = some (.slice A0_0 l0_0.length c0_0):=(zCl BK278.out 0).trans rfl;have hfz7_0:=zFr BK278.out 0) | ((with_reducible refine gate_dst (N:=10) rfl ?_);refine Kd.R_make Kd.bool _ 4 rfl (N:=10) rfl 50 _ _ rfl (l0_0.length : Int) rfl rfl Try.underlying50 (.bool false) 1 info4 rfl (by decide) (by omega) false (ok:=fun _=>True) (okp:=fun _=>True) rfl (fun _ hk=>hk) trivial (of_decide_eq_true (by first | (with_reducible assumption) | assumption)) (Nat.le_trans (Nat.mul_le_mul_right _ (of_decide_eq_true (by first | (with_reducible assumption) | assumption) : (l0_0.length : Int).toNat ≤ 281474976710656)) (by omega)) (Below.refl _ _) (Nat.le_refl _) ?_;intro v280 w8 ho9 hb hg_ hnew_;clear hg_ hnew_;(first | rw [← Ny279.out] at ho9 | (simp only [Int.reduceToNat] at ho9;rw [← Ny279.out] at ho9));have n0_:=zMk (Kd.R_lower ho9 (below_size (hs1 HB GE278)));have n1_:=zMk (blk_below (g:=gb278) (o:=.cells #[.slice A0_0 l0_0.length c0_0] 26 (0,0)) (bs BK278) hb);have n2_:=zMk (below_step (hs1 HB GE278) hb);clear BK278;clear HB;have HO281:=n0_;have BK278:=n1_;have HB:=n2_;clear n0_ n1_ n2_;clear hb ho9))
    go_ret
    exact ⟨_,by first | rfl | (simp [errW_none,errW_some] <;> rfl) | (simp [*,errW_none,errW_some] <;> rfl),rs HO281,hs1 HB GE278⟩
   rw [if_neg c5] at H;have c5b0 : decide (a1 < 0) = false:=decide_eq_false c5;clear c5
   by_cases c10 : 0 ≤ a1
   ·rw [if_pos c10] at H;have c10b0 : decide (0 ≤ a1) = true:=decide_eq_true c10;clear c10
    by_cases c11 : a1 < (y279.length : Int)
    ·rw [if_pos c11] at H;have c11b0 : decide (a1 < (y279.length : Int)) = true:=decide_eq_true c11;clear c11;obtain ⟨y282,hy282⟩ : ∃ y_ : List Bool,y_ = (y279.set (a1 : Int).toNat true):=⟨_,rfl⟩;replace H : (spec_l11Has.l0 k a1 y282 0 l0_0) = some r:=by first | (rw [hy282];with_reducible exact H) | (have H2_:=(Option.bind_some _ _).symm.trans H;rw [hy282];with_reducible exact H2_) | (have H2_:=(Option.bind_some _ _).symm.trans H;with_reducible exact H2_) | with_reducible exact H | (rw [hy282];exact H) | exact H
     have Ny282:=zMk hy282;clear hy282;have H':=zMk H;clear H
     go_enter Try.func34,Try.ntmps34
     go_wp2_with (first | ((with_reducible refine gate_dst (N:=2) rfl ?_);refine box_event ?hg (N:=2) ?hd (cs:=#[.slice A0_0 l0_0.length c0_0]) (t:=26) ?hr ?_;(case hd=>rfl);(case hg=>rfl);(case hr=>first | (go_simp;done) | (go_simp;rfl));intro gb278 hg w13 hbox hb;have n0_:=zMk (below_step (hs HB) hb);have n1_:=zMk (hbox);have n2_:=zMk ((by rw [hg];exact (below_size (hs HB)) : w.heap.size ≤ gb278));have n3_:=zMk ((by rw [hg];exact (below_size (hs HB)) : w.heap.size ≤ gb278));clear HB;have HB:=n0_;have BK278:=n1_;have GW278:=n2_;have GE278:=n3_;clear n0_ n1_ n2_ n3_;clear hb hbox hg;have hcz14_0 : w13.cell? ⟨gb278,0,none⟩ = some (.slice A0_0 l0_0.length c0_0):=(zCl BK278.out 0).trans rfl;have hfz14_0:=zFr BK278.out 0) | ((with_reducible refine gate_dst (N:=10) rfl ?_);refine Kd.R_make Kd.bool _ 4 rfl (N:=10) rfl 50 _ _ rfl (l0_0.length : Int) rfl rfl Try.underlying50 (.bool false) 1 info4 rfl (by decide) (by omega) false (ok:=fun _=>True) (okp:=fun _=>True) rfl (fun _ hk=>hk) trivial (of_decide_eq_true (by first | (with_reducible assumption) | assumption)) (Nat.le_trans (Nat.mul_le_mul_right _ (of_decide_eq_true (by first | (with_reducible assumption) | assumption) : (l0_0.length : Int).toNat ≤ 281474976710656)) (by omega)) (Below.refl _ _) (Nat.le_refl _) ?_;intro v280 w15 ho16 hb hg_ hnew_;clear hg_ hnew_;(first | rw [← Ny279.out] at ho16 | (simp only [Int.reduceToNat] at ho16;rw [← Ny279.out] at ho16));have n0_:=zMk (Kd.R_lower ho16 (below_size (hs1 HB GE278)));have n1_:=zMk (blk_below (g:=gb278) (o:=.cells #[.slice A0_0 l0_0.length c0_0] 26 (0,0)) (bs BK278) hb);have n2_:=zMk (below_step (hs1 HB GE278) hb);clear BK278;clear HB;have HO281:=n0_;have BK278:=n1_;have HB:=n2_;clear n0_ n1_ n2_;clear hb ho16;have p12 : 0 ≤ (a1 : Int):=of_decide_eq_true (by first | (with_reducible assumption) | assumption);have q12 : (a1 : Int) < ((y279.length : Int) : Int):=of_decide_eq_true (by first | (with_reducible assumption) | assumption);obtain ⟨go12,co12,eo12,gb12,gl12,cl12,HG12⟩:=Kd.R_form HO281.out (by omega);(first | cases eo12 | (injection eo12 with ea_ en_ ec_;(first | subst ea_ | (injection ea_ with ea_;subst ea_));subst ec_;clear en_));have GB12:=zMk gb12;have GG12:=zMk HG12;clear gb12 gl12 HG12;obtain ⟨hx12_0,hf12_0⟩:=Kd.R_celln false HO281.out (a1 : Int) p12 q12;replace p12:=eq_true p12;replace q12:=eq_true q12;obtain ⟨hy17_,hz17_⟩:=Kd.R_celln false HO281.out (a1 : Int) (of_decide_eq_true (by first | (with_reducible assumption) | assumption)) (of_decide_eq_true (by first | (with_reducible assumption) | assumption));have HP17:=Kd.R_putg HO281.out (a1 : Int) true) | ((with_reducible refine gate_store (t:=4) (p:=16) rfl ?_);refine store_event (t:=4) (p:=16) (v:=?vo_w18) (w1:=(w15.setCell ⟨go12,(a1 : Int).toNat,none⟩ (.bool true))) ?hg ?ho ?hn ?hr ?_;(case ho=>rfl);(case hg=>rfl);(case hn=>rfl);(case hr=>first | (go_simp;done) | (go_simp;rfl));intro w18 hw;have hg : w15.grownBy w18 (some go12):=(by rw [hw];exact HP17.2);have hp_ : Kd.R Kd.bool 4 w18 w.heap.size (fun _=>True) (.slice (some ⟨go12,0,none⟩) y279.length co12) y282:=(by rw [hw,Ny282.out];exact HP17.1);clear HP17;have n0_:=zMk (blk_grown (g:=gb278) (o:=.cells #[.slice A0_0 l0_0.length c0_0] 26 (0,0)) (bs BK278) hg (Kd.R_ne HO281.out BK278.out (by decide)));have n1_:=zMk (hp_);have n2_:=zMk ((by rw [hw];exact below_set (HB.out) GB12.out : Below w.heap.size w w18));clear BK278;clear HO281;clear HB;have BK278:=n0_;have HO281:=n1_;have HB:=n2_;clear n0_ n1_ n2_;clear hg hw hp_));go_loopg [6] k (fun kq v6 w'=>∃ (x5_1 : List Bool) (x6_1 : Int),v6 = .int .i64 x6_1 ∧ Aside0 (spec_l11Has.l0 kq a1 x5_1 x6_1 l0_0 = some r) ∧ Aside0 (kq ≤ k) ∧ Aside0 (Kd.R Kd.bool 4 w' w.heap.size (fun _=>True) (.slice (some ⟨go12,0,none⟩) y279.length co12) x5_1) ∧ Aside0 (w'.heap[gb278]? = some (.cells #[(.slice A0_0 l0_0.length c0_0)] 26 (0,0))) ∧ Aside0 (Below w.heap.size w w'));case atStart=>exact ⟨(y282),(0),(by first | rfl | (simp;done) | (simp [*];done)),H',⟨Nat.le_refl _⟩,⟨rs HO281⟩,⟨bs BK278⟩,⟨hs1 HB GE278⟩⟩
     case round =>
      clear H'
      try clear c1
      try clear p1
      try clear q1
      try clear hx1
      try clear p2
      try clear c3
      try clear c3b0
      try clear c3b1
      try clear c4
      try clear c4b0
      try clear c4b1
      try clear c5
      try clear c5b0
      try clear c10
      try clear c10b0
      try clear c11
      try clear c11b0
      try clear p12
      try clear q12
      try clear hx12
      try clear hf12
      try clear hcz14_0
      try clear hcz7_0
      try clear hfz14_0
      try clear hfz7_0
      try clear hx12_0
      try clear p12
      try clear q12
      obtain ⟨x5_1,x6_1,rfl,HA,HK1,HO_5,BK278,HB⟩:=hrel;have hl5_1:=(Kd.R_reads' HO_5.out).1;rw [hl5_1] at HO_5
      (try simp only [hl5_1])
      (try simp only [hl5_1] at BK278)
      cases gk with
      | zero=>exact absurd HA.out (by simp [spec_l11Has.l0])
      | succ k1 =>
       have H:=HA.out;clear HA;simp only [spec_l11Has.l0] at H
       by_cases c19 : x6_1 < 4
       ·rw [if_pos c19] at H;have c19b0 : decide (x6_1 < 4) = true:=decide_eq_true c19;clear c19
        by_cases c20 : 0 ≤ a1
        ·rw [if_pos c20] at H;have c20b0 : decide (0 ≤ a1) = true:=decide_eq_true c20;clear c20
         by_cases c21 : a1 < (l0_0.length : Int)
         ·rw [if_pos c21] at H;have c21b0 : decide (a1 < (l0_0.length : Int)) = true:=decide_eq_true c21;clear c21
          by_cases c22 : 0 ≤ x6_1
          ·rw [if_pos c22] at H;have c22b0 : decide (0 ≤ x6_1) = true:=decide_eq_true c22;clear c22
           by_cases c23 : x6_1 < (((rd_T47 l0_0 a1).f1).length : Int)
           ·rw [if_pos c23] at H;have c23b0 : decide (x6_1 < (((rd_T47 l0_0 a1).f1).length : Int)) = true:=decide_eq_true c23;clear c23
            by_cases c24 : (rd ((rd_T47 l0_0 a1).f1) x6_1) ≥ 0
            ·rw [if_pos c24] at H;have c24b0 : decide (0 ≤ (rd ((rd_T47 l0_0 a1).f1) x6_1)) = true:=decide_eq_true c24;clear c24
             by_cases c25 : 0 ≤ (rd ((rd_T47 l0_0 a1).f1) x6_1)
             ·rw [if_pos c25] at H;have c25b0 : decide (0 ≤ (rd ((rd_T47 l0_0 a1).f1) x6_1)) = true:=decide_eq_true c25;clear c25
              by_cases c26 : (rd ((rd_T47 l0_0 a1).f1) x6_1) < (x5_1.length : Int)
              ·rw [if_pos c26] at H;have c26b0 : decide ((rd ((rd_T47 l0_0 a1).f1) x6_1) < (x5_1.length : Int)) = true:=decide_eq_true c26;clear c26;obtain ⟨y287,hy287⟩ : ∃ y_ : List Bool,y_ = (x5_1.set ((rd ((rd_T47 l0_0 a1).f1) x6_1) : Int).toNat true):=⟨_,rfl⟩;replace H : (spec_l11Has.l0 k1 a1 y287 (wrap64 (x6_1 + 1)) l0_0) = some r:=by first | (rw [hy287];with_reducible exact H) | (have H2_:=(Option.bind_some _ _).symm.trans H;rw [hy287];with_reducible exact H2_) | (have H2_:=(Option.bind_some _ _).symm.trans H;with_reducible exact H2_) | with_reducible exact H | (rw [hy287];exact H) | exact H
               have Ny287:=zMk hy287;clear hy287;have H':=zMk H;clear H;have hcz28_0 : wr.cell? ⟨gb278,0,none⟩ = some (.slice A0_0 l0_0.length c0_0):=(zCl BK278.out 0).trans rfl;have hfz28_0:=zFr BK278.out 0;have p283 : 0 ≤ (a1 : Int):=of_decide_eq_true (by first | (with_reducible assumption) | assumption);have q283 : a1 < (l0_0.length : Int):=of_decide_eq_true (by first | (with_reducible assumption) | assumption);obtain ⟨ad283,A283_1,c283_1,e283,hx283_0,hx283_1,hl283_1,hi283_1⟩:=at_T47 HR0_0.out a1 p283 q283;cases e283;replace hx283_0:=(HB.out.cell (World.block_lt_of_cell? w _ hx283_0)).trans hx283_0;replace hx283_1:=(HB.out.cell (World.block_lt_of_cell? w _ hx283_1)).trans hx283_1;have HR283_1:=zMk hi283_1;have HC283_1:=zMk hl283_1;clear hi283_1 hl283_1;replace p283:=eq_true p283;replace q283:=eq_true q283;have p284 : 0 ≤ (x6_1 : Int):=of_decide_eq_true (by first | (with_reducible assumption) | assumption);have q284 : x6_1 < (((rd_T47 l0_0 a1).f1).length : Int):=of_decide_eq_true (by first | (with_reducible assumption) | assumption);obtain ⟨ad284,e284,hx284_0⟩:=Kd.at_int HR283_1.out x6_1 p284 q284;cases e284;replace hx284_0:=(HB.out.cell (World.block_lt_of_cell? w _ hx284_0)).trans hx284_0;replace p284:=eq_true p284;replace q284:=eq_true q284;have p285 : 0 ≤ (a1 : Int):=of_decide_eq_true (by first | (with_reducible assumption) | assumption);have q285 : a1 < (l0_0.length : Int):=of_decide_eq_true (by first | (with_reducible assumption) | assumption);obtain ⟨ad285,A285_1,c285_1,e285,hx285_0,hx285_1,hl285_1,hi285_1⟩:=at_T47 HR0_0.out a1 p285 q285;obtain rfl : ad283 = ad285:=(by injection e285);replace hx285_0:=(HB.out.cell (World.block_lt_of_cell? w _ hx285_0)).trans hx285_0;replace hx285_1:=(HB.out.cell (World.block_lt_of_cell? w _ hx285_1)).trans hx285_1;have HR285_1:=zMk hi285_1;have HC285_1:=zMk hl285_1;clear hi285_1 hl285_1;replace p285:=eq_true p285;replace q285:=eq_true q285;have ea_:=Option.some.inj (hx283_1.symm.trans hx285_1);injection ea_ with ea_ en_ ec_;subst ea_;subst ec_;clear en_;have p286 : 0 ≤ (x6_1 : Int):=of_decide_eq_true (by first | (with_reducible assumption) | assumption);have q286 : x6_1 < (((rd_T47 l0_0 a1).f1).length : Int):=of_decide_eq_true (by first | (with_reducible assumption) | assumption);obtain ⟨ad286,e286,hx286_0⟩:=Kd.at_int HR285_1.out x6_1 p286 q286;cases e286;replace hx286_0:=(HB.out.cell (World.block_lt_of_cell? w _ hx286_0)).trans hx286_0;replace p286:=eq_true p286;replace q286:=eq_true q286;have p27 : 0 ≤ ((rd ((rd_T47 l0_0 a1).f1) x6_1) : Int):=of_decide_eq_true (by first | (with_reducible assumption) | assumption);have q27 : ((rd ((rd_T47 l0_0 a1).f1) x6_1) : Int) < ((x5_1.length : Int) : Int):=of_decide_eq_true (by first | (with_reducible assumption) | assumption);obtain ⟨hx27_0,hf27_0⟩:=Kd.R_celln false HO_5.out ((rd ((rd_T47 l0_0 a1).f1) x6_1) : Int) p27 q27;replace p27:=eq_true p27;replace q27:=eq_true q27;have HP29:=Kd.R_putg HO_5.out ((rd ((rd_T47 l0_0 a1).f1) x6_1) : Int) true;go_wp2_with (first | ((with_reducible refine gate_store (t:=4) (p:=41) rfl ?_);refine store_event (t:=4) (p:=41) (v:=?vo_w30) (w1:=(wr.setCell ⟨go12,((rd ((rd_T47 l0_0 a1).f1) x6_1) : Int).toNat,none⟩ (.bool true))) ?hg ?ho ?hn ?hr ?_;(case ho=>rfl);(case hg=>rfl);(case hn=>rfl);(case hr=>first | (go_simp;done) | (go_simp;rfl));intro w30 hw;have hg : wr.grownBy w30 (some go12):=(by rw [hw];exact HP29.2);have hp_ : Kd.R Kd.bool 4 w30 w.heap.size (fun _=>True) (.slice (some ⟨go12,0,none⟩) x5_1.length co12) y287:=(by rw [hw,Ny287.out];exact HP29.1);clear HP29;have n0_:=zMk (hp_);have n1_:=zMk (blk_grown (g:=gb278) (o:=.cells #[.slice (some ad283) l0_0.length c0_0] 26 (0,0)) (bs BK278) hg (Kd.R_ne HO_5.out BK278.out (by decide)));have n2_:=zMk ((by rw [hw];exact below_set (HB.out) GB12.out : Below w.heap.size w w30));clear HO_5;clear BK278;clear HB;have HO_5:=n0_;have BK278:=n1_;have HB:=n2_;clear n0_ n1_ n2_;clear hg hw hp_))
               (try simp only [← hl5_1])
               go_roundg k1;case measure=>have:=HK1.out;omega
               case rel=>exact ⟨(y287),(wrap64 (x6_1 + 1)),(by first | rfl | (simp;done) | (simp [*];done)),H',⟨by have:=HK1.out;omega⟩,⟨by (try simp only [hl5_1]);(with_reducible repeat (first | apply Kd.R_alloc | apply Kd.R_drewN | apply Kd.R_drew));exact HO_5.out⟩,⟨by (try simp only [hl5_1]);(with_reducible repeat (first | refine blk_drewN ?_ _ | refine blk_drew ?_ | refine blk_alloc ?_ _));exact BK278.out⟩,⟨hs1 HB GE278⟩⟩
              rw [if_neg c26] at H;exact absurd H (by simp)
             rw [if_neg c25] at H;exact absurd H (by simp)
            rw [if_neg c24] at H;have c24b0 : decide (0 ≤ (rd ((rd_T47 l0_0 a1).f1) x6_1)) = false:=decide_eq_false c24;clear c24;have H':=zMk H;clear H;have hcz31_0 : wr.cell? ⟨gb278,0,none⟩ = some (.slice A0_0 l0_0.length c0_0):=(zCl BK278.out 0).trans rfl;have hfz31_0:=zFr BK278.out 0;have p283 : 0 ≤ (a1 : Int):=of_decide_eq_true (by first | (with_reducible assumption) | assumption);have q283 : a1 < (l0_0.length : Int):=of_decide_eq_true (by first | (with_reducible assumption) | assumption);obtain ⟨ad283,A283_1,c283_1,e283,hx283_0,hx283_1,hl283_1,hi283_1⟩:=at_T47 HR0_0.out a1 p283 q283;cases e283;replace hx283_0:=(HB.out.cell (World.block_lt_of_cell? w _ hx283_0)).trans hx283_0;replace hx283_1:=(HB.out.cell (World.block_lt_of_cell? w _ hx283_1)).trans hx283_1;have HR283_1:=zMk hi283_1;have HC283_1:=zMk hl283_1;clear hi283_1 hl283_1;replace p283:=eq_true p283;replace q283:=eq_true q283;have p284 : 0 ≤ (x6_1 : Int):=of_decide_eq_true (by first | (with_reducible assumption) | assumption);have q284 : x6_1 < (((rd_T47 l0_0 a1).f1).length : Int):=of_decide_eq_true (by first | (with_reducible assumption) | assumption);obtain ⟨ad284,e284,hx284_0⟩:=Kd.at_int HR283_1.out x6_1 p284 q284;cases e284;replace hx284_0:=(HB.out.cell (World.block_lt_of_cell? w _ hx284_0)).trans hx284_0;replace p284:=eq_true p284;replace q284:=eq_true q284
            go_wp2
            (try simp only [← hl5_1])
            go_roundg k1;case measure=>have:=HK1.out;omega
            case rel=>exact ⟨(x5_1),(wrap64 (x6_1 + 1)),(by first | rfl | (simp;done) | (simp [*];done)),H',⟨by have:=HK1.out;omega⟩,⟨by (try simp only [hl5_1]);(with_reducible repeat (first | apply Kd.R_alloc | apply Kd.R_drewN | apply Kd.R_drew));exact HO_5.out⟩,⟨by (try simp only [hl5_1]);(with_reducible repeat (first | refine blk_drewN ?_ _ | refine blk_drew ?_ | refine blk_alloc ?_ _));exact BK278.out⟩,⟨hs1 HB GE278⟩⟩
           rw [if_neg c23] at H;exact absurd H (by simp)
          rw [if_neg c22] at H;exact absurd H (by simp)
         rw [if_neg c21] at H;exact absurd H (by simp)
        rw [if_neg c20] at H;exact absurd H (by simp)
       rw [if_neg c19] at H;have c19b0 : decide (x6_1 < 4) = false:=decide_eq_false c19;clear c19;obtain rfl:=Option.some.inj H
       go_wp2
       go_ret
       exact ⟨_,by first | rfl | (simp [errW_none,errW_some] <;> rfl) | (simp [*,errW_none,errW_some] <;> rfl),rs HO_5,hs1 HB GE278⟩
    rw [if_neg c11] at H;exact absurd H (by simp)
   rw [if_neg c10] at H;exact absurd H (by simp)
  rw [if_neg c4] at H;exact absurd H (by simp)
 rw [if_neg c3] at H;exact absurd H (by simp)
end Go.Proofs.Ytjpjikhokpfhmaa.PT

/- What an arena keeps when it is swept from some roots; the program's and the reference's SweepArena tell it. -/
namespace Go.Proofs.Ytjpjikhokpfhmaa.Pu
set_option linter.unusedVariables false
set_option linter.unusedSimpArgs false
open Go.RowKit Go.Proofs.Ytjpjikhokpfhmaa.PT Go.Proofs.YtjpjikhokpfhmaaW.PrintWords

theorem mem_cons_ne {x y : Int} {t : List Int} (h : ¬ y = x) : decide (x ∈ y :: t) = decide (x ∈ t) := by
  have : ¬ x = y := fun e => h e.symm
  simp [this]
theorem rdOf_nat {α : Type} (z : α) (l : List α) (i : Nat) : rdOf z l (i : Int) = l.getD i z := rfl
theorem getD_set {α : Type} {l : List α} {c : Nat} (i : Nat) (v z : α) (hc : c < l.length) : (l.set c v).getD i z = if i = c then v else l.getD i z := by
  rw [List.getD_eq_getElem?_getD, List.getD_eq_getElem?_getD, List.getElem?_set]
  by_cases h : c = i
  · subst h; simp [hc]
  · rw [if_neg h, if_neg (fun e => h e.symm)]
theorem getD_rep {α : Type} (n i : Nat) (z : α) : (List.replicate n z).getD i z = z := by
  rw [List.getD_eq_getElem?_getD, List.getElem?_replicate]
  by_cases h : i < n <;> simp [h]

/-- A list whose first j elements are changed. -/
def upd (f : Int → Int) : List Int → Nat → List Int
  | [], _ => []
  | x :: l, 0 => x :: l
  | x :: l, j + 1 => f x :: upd f l j
theorem upd_zero (f : Int → Int) (l : List Int) : upd f l 0 = l := by cases l <;> rfl
theorem upd_full (f : Int → Int) : ∀ l : List Int, upd f l l.length = l.map f
  | [] => rfl
  | x :: l => by show f x :: upd f l l.length = f x :: l.map f; rw [upd_full f l]
theorem upd_len (f : Int → Int) : ∀ (l : List Int) (j : Nat), (upd f l j).length = l.length
  | [], _ => rfl
  | x :: l, 0 => rfl
  | x :: l, j + 1 => by show (upd f l j).length + 1 = l.length + 1; rw [upd_len f l j]
theorem upd_get (f : Int → Int) : ∀ (l : List Int) (j : Nat), (upd f l j).getD j 0 = l.getD j 0
  | [], _ => rfl
  | x :: l, 0 => rfl
  | x :: l, j + 1 => by show (upd f l j).getD j 0 = l.getD j 0; exact upd_get f l j
theorem upd_set (f : Int → Int) : ∀ (l : List Int) (j : Nat), j < l.length → (upd f l j).set j (f (l.getD j 0)) = upd f l (j + 1)
  | [], j, h => absurd h (by simp)
  | x :: l, 0, _ => by show f x :: l = f x :: upd f l 0; rw [upd_zero]
  | x :: l, j + 1, h => by
    show f x :: (upd f l j).set j (f (l.getD j 0)) = f x :: upd f l (j + 1)
    rw [upd_set f l j (by simpa using h)]
theorem upd_id (f : Int → Int) : ∀ (l : List Int) (j : Nat), f (l.getD j 0) = l.getD j 0 → upd f l j = upd f l (j + 1)
  | [], _, _ => rfl
  | x :: l, 0, h => by
    have h2 : f x = x := h
    show x :: l = f x :: upd f l 0
    rw [upd_zero, h2]
  | x :: l, j + 1, h => by
    show f x :: upd f l j = f x :: upd f l (j + 1)
    rw [upd_id f l j h]

/-- A root keeps a knot: itself, or its kid. -/
def keptB (a : List S47) (r : Int) (i : Nat) : Bool := rootB a r && (decide ((i : Int) = r) || decide ((i : Int) ∈ (a.getD r.toNat z47).f1))
def movB (pos : List Int) (x : Int) : Int := if x ≥ 0 then pos.getD x.toNat 0 else x
def swKids (leaf : Bool) (pos kids : List Int) : List Int := if leaf = true then kids else kids.map (movB pos)
def swAll (a : List S47) (K : Nat → Bool) : Nat → Nat → List Int → List S47 → List Int × List S47
  | 0, _, pos, out => (pos, out)
  | d + 1, i, pos, out => if K i = true then swAll a K d (i + 1) (pos.set i (out.length : Int)) (out ++ [⟨(a.getD i z47).f0, swKids (a.getD i z47).f0 pos (a.getD i z47).f1⟩]) else swAll a K d (i + 1) pos out
def keepB (a : List S47) (roots : List Int) (i : Nat) : Bool := roots.any fun r => keptB a r i
def sweepOk (a : List S47) (roots : List Int) : Bool := arenaB a && roots.all fun r => decide (r = -1) || rootB a r
def sweepB (a : List S47) (roots : List Int) : List S47 × List Int :=
  if sweepOk a roots = true then ((swAll a (keepB a roots) a.length 0 (List.replicate a.length 0) []).2, roots.map (movB (swAll a (keepB a roots) a.length 0 (List.replicate a.length 0) []).1)) else (a, roots)
theorem swAll_pos (a : List S47) (K : Nat → Bool) : ∀ (d i : Nat) (pos : List Int) (out : List S47), (swAll a K d i pos out).1.length = pos.length
  | 0, _, _, _ => rfl
  | d + 1, i, pos, out => by
    unfold swAll
    by_cases h : K i = true
    · rw [if_pos h, swAll_pos a K d]; exact List.length_set
    · rw [if_neg h, swAll_pos a K d]
theorem swAll_out (a : List S47) (K : Nat → Bool) : ∀ (d i : Nat) (pos : List Int) (out : List S47), (swAll a K d i pos out).2.length = out.length + ((List.range' i d).filter K).length
  | 0, _, _, _ => rfl
  | d + 1, i, pos, out => by
    unfold swAll
    rw [List.range'_succ]
    by_cases h : K i = true
    · rw [if_pos h, swAll_out a K d, List.filter_cons, if_pos h]; simp; omega
    · rw [if_neg h, swAll_out a K d, List.filter_cons, if_neg h]

theorem iHasInt_ev (l : List Int) (x : Int) (hl : l.length ≤ 9223372036854775807) : Ev (fun k => impl_hasInt.f k l x) (decide (x ∈ l)) := by
  have main : ∀ (d i : Nat), i + d = l.length → Ev (fun k => impl_hasInt.l0 k x l l.length (i : Int)) (decide (x ∈ l.drop i)) := by
    intro d
    induction d with
    | zero => intro i hi; exact ev_some fun k => by simp only [impl_hasInt.l0]; rw [if_neg (by omega), List.drop_eq_nil_of_le (by omega)]; simp
    | succ d ih =>
      intro i hi
      have hil : i < l.length := by omega
      rw [drop_cons 0 hil]
      by_cases h : l.getD i 0 = x
      · rw [h, decide_eq_true (List.mem_cons_self)]
        refine ev_some fun k => ?_
        simp only [impl_hasInt.l0]
        rw [if_pos (by omega), if_pos (by omega), if_pos (by omega), rd_nat, if_pos h]
      · rw [mem_cons_ne h]
        refine Ev.step (fun k => ?_) (ih (i + 1) (by omega))
        simp only [impl_hasInt.l0]
        rw [if_pos (by omega), if_pos (by omega), if_pos (by omega), rd_nat, if_neg h, wsucc (n := l.length) hil hl]
  have h := main l.length 0 (by omega)
  rw [List.drop_zero] at h
  exact h
/-- The knots that a root keeps, as the program lists them. -/
theorem iKnots_ev (a : List S47) (r : Int) (hn : a.length ≤ 1048576) (hx : ∀ x ∈ a, x.f1.length ≤ 1048576) :
    ∃ L, Ev (fun k => impl_knotsOf.f k a r) L ∧ L.length ≤ 1048577 ∧ ∀ i : Nat, i < a.length → ((i : Int) ∈ L ↔ keptB a r i = true) := by
  unfold impl_knotsOf.f keptB
  simp only [iRoot_eq a r (by omega), Option.bind_some]
  by_cases hr : rootB a r = true
  · obtain ⟨r0, rl, _⟩ := root_lt hr
    simp only [if_pos hr, if_pos r0, if_pos (show r < (a.length : Int) by omega), rd_T47]
    have hm := hx _ (getD_mem (z := z47) rl)
    generalize (a.getD r.toNat z47).f1 = kids at hm ⊢
    have main : ∀ (d i : Nat) (acc : List Int), i + d = kids.length → acc.length ≤ 1 + i →
        ∃ L, Ev (fun k => impl_knotsOf.l0 k acc kids kids.length (i : Int) a) L ∧ L.length ≤ 1048577 ∧ ∀ j : Nat, j < a.length → ((j : Int) ∈ L ↔ (j : Int) ∈ acc ∨ (j : Int) ∈ kids.drop i) := by
      intro d
      induction d with
      | zero =>
        intro i acc hi hl
        refine ⟨acc, ev_some fun k => by simp only [impl_knotsOf.l0]; rw [if_neg (by omega)], by omega, fun j _ => ?_⟩
        rw [List.drop_eq_nil_of_le (by omega)]
        simp
      | succ d ih =>
        intro i acc hi hl
        have hil : i < kids.length := by omega
        have st : ∀ k, impl_knotsOf.l0 (k + 1) acc kids kids.length (i : Int) a = if 0 ≤ kids.getD i 0 ∧ kids.getD i 0 ≤ (a.length : Int) - 1 then (impl_hasInt.f k acc (kids.getD i 0)).bind fun t => if t = true then impl_knotsOf.l0 k acc kids kids.length ((i + 1 : Nat) : Int) a else impl_knotsOf.l0 k (acc ++ [kids.getD i 0]) kids kids.length ((i + 1 : Nat) : Int) a else impl_knotsOf.l0 k acc kids kids.length ((i + 1 : Nat) : Int) a := fun k => by
          simp only [impl_knotsOf.l0]
          rw [if_pos (by omega), if_pos (by omega), if_pos (by omega), rd_nat, w64 (x := (a.length : Int) - 1) (by omega) (by omega), wsucc (n := kids.length) hil (by omega)]
          simp only [in_eq, Option.bind_some, decide_eq_true_eq, if_pos (show acc.length < 17592186044416 by omega)]
        rw [drop_cons 0 hil]
        by_cases h : 0 ≤ kids.getD i 0 ∧ kids.getD i 0 ≤ (a.length : Int) - 1
        · by_cases h2 : kids.getD i 0 ∈ acc
          · obtain ⟨L, h3, h4, h5⟩ := ih (i + 1) acc (by omega) (by omega)
            refine ⟨L, Ev.step (fun k => by rw [st k, if_pos h]) (ev_bind (iHasInt_ev acc _ (by omega)) ?_), h4, fun j hj => ?_⟩
            · rw [decide_eq_true h2]; simp only [if_true]; exact h3
            · rw [h5 j hj, List.mem_cons]
              constructor
              · rintro (h | h)
                · exact .inl h
                · exact .inr (.inr h)
              · rintro (h | h | h)
                · exact .inl h
                · exact .inl (by rw [h]; exact h2)
                · exact .inr h
          · obtain ⟨L, h3, h4, h5⟩ := ih (i + 1) (acc ++ [kids.getD i 0]) (by omega) (by simp; omega)
            refine ⟨L, Ev.step (fun k => by rw [st k, if_pos h]) (ev_bind (iHasInt_ev acc _ (by omega)) ?_), h4, fun j hj => ?_⟩
            · rw [decide_eq_false h2]; exact h3
            · rw [h5 j hj, List.mem_cons, List.mem_append, List.mem_singleton, or_assoc]
        · obtain ⟨L, h3, h4, h5⟩ := ih (i + 1) acc (by omega) (by omega)
          refine ⟨L, Ev.step (fun k => by rw [st k, if_neg h]) h3, h4, fun j hj => ?_⟩
          rw [h5 j hj, List.mem_cons]
          constructor
          · rintro (h | h)
            · exact .inl h
            · exact .inr (.inr h)
          · rintro (h6 | h6 | h6)
            · exact .inl h6
            · exact absurd (by omega) h
            · exact .inr h6
    obtain ⟨L, h1, h2, h3⟩ := main kids.length 0 [r] (by omega) (by simp)
    refine ⟨L, h1, h2, fun i hi => ?_⟩
    rw [h3 i hi, hr]
    simp
  · simp only [if_neg hr, Bool.eq_false_iff.mpr hr]
    exact ⟨[], Ev.now _, by simp, fun i hi => by simp⟩
/-- The knots that a root keeps, as the reference marks them. -/
theorem sHas_ev (a : List S47) (r : Int) (hn : a.length ≤ 1048576) (ha : arenaB a = true) (hr : (decide (r = -1) || rootB a r) = true) :
    ∃ L, Ev (fun k => spec_l11Has.f k a r) L ∧ L.length = a.length ∧ ∀ i : Nat, i < a.length → L.getD i false = keptB a r i := by
  unfold spec_l11Has.f keptB
  simp only [if_pos (show (0 : Int) ≤ (a.length : Int) by omega), Int.toNat_natCast, if_pos (show a.length ≤ 281474976710656 by omega), Option.bind_some, List.length_replicate]
  by_cases h0 : r < 0
  · refine ⟨_, by simp only [if_pos h0]; exact Ev.now _, by simp, fun i hi => ?_⟩
    rw [getD_rep]
    unfold rootB
    rw [decide_eq_false (by omega)]; rfl
  · have hb : rootB a r = true := by
      rw [Bool.or_eq_true, decide_eq_true_eq] at hr
      rcases hr with h | h
      · omega
      · exact h
    obtain ⟨r0, rl, rf⟩ := root_lt hb
    simp only [if_neg h0, if_pos r0, if_pos (show r < (a.length : Int) by omega), hb, Bool.true_and]
    obtain ⟨h4, _⟩ := knot_of ha rl
    have main : ∀ (d j : Nat) (acc : List Bool), j + d = 4 → acc.length = a.length → ∃ L, Ev (fun k => spec_l11Has.l0 k r acc (j : Int) a) L ∧ L.length = a.length ∧ ∀ i : Nat, i < a.length → L.getD i false = (acc.getD i false || decide ((i : Int) ∈ (a.getD r.toNat z47).f1.drop j)) := by
      intro d
      induction d with
      | zero =>
        intro j acc hj hl
        refine ⟨acc, ev_some fun k => by simp only [spec_l11Has.l0]; rw [if_neg (by omega)], hl, fun i _ => ?_⟩
        rw [List.drop_eq_nil_of_le (by omega)]
        simp
      | succ d ih =>
        intro j acc hj hl
        have hjl : j < (a.getD r.toNat z47).f1.length := by omega
        have hk := kid_of ha rl rf (j := j) (by omega)
        rw [drop_cons 0 hjl]
        have st : ∀ k, spec_l11Has.l0 (k + 1) r acc (j : Int) a = if (a.getD r.toNat z47).f1.getD j 0 ≥ 0 then spec_l11Has.l0 k r (acc.set ((a.getD r.toNat z47).f1.getD j 0).toNat true) ((j + 1 : Nat) : Int) a else spec_l11Has.l0 k r acc ((j + 1 : Nat) : Int) a := fun k => by
          simp only [spec_l11Has.l0]
          rw [show rd_T47 a r = a.getD r.toNat z47 from rfl, if_pos (by omega), if_pos r0, if_pos (by omega), if_pos (by omega), if_pos (by omega), rd_nat, wsucc (i := j) (n := 4) (by omega) (by omega)]
          by_cases h : (a.getD r.toNat z47).f1.getD j 0 ≥ 0
          · rw [if_pos h, if_pos h, if_pos (by omega), if_pos (by omega)]
          · rw [if_neg h, if_neg h]
        rcases hk with hk | ⟨k0, k1, _⟩
        · obtain ⟨L, h3, h5, h6⟩ := ih (j + 1) acc (by omega) hl
          refine ⟨L, Ev.step (fun k => by rw [st k, if_neg (by omega)]) h3, h5, fun i hi => ?_⟩
          rw [h6 i hi, mem_cons_ne (by omega)]
        · obtain ⟨L, h3, h5, h6⟩ := ih (j + 1) (acc.set ((a.getD r.toNat z47).f1.getD j 0).toNat true) (by omega) (by rw [List.length_set]; exact hl)
          refine ⟨L, Ev.step (fun k => by rw [st k, if_pos (by omega)]) h3, h5, fun i hi => ?_⟩
          rw [h6 i hi, getD_set _ _ _ (by omega)]
          by_cases h : (a.getD r.toNat z47).f1.getD j 0 = (i : Int)
          · rw [if_pos (by omega), h, decide_eq_true (List.mem_cons_self)]; simp
          · rw [if_neg (by omega), mem_cons_ne h]
    obtain ⟨L, h1, h2, h3⟩ := main 4 0 ((List.replicate a.length false).set r.toNat true) rfl (by simp)
    refine ⟨L, h1, h2, fun i hi => ?_⟩
    rw [h3 i hi, getD_set _ _ _ (by simp; omega), getD_rep, List.drop_zero]
    by_cases h : (i : Int) = r
    · rw [if_pos (by omega), decide_eq_true h]
    · rw [if_neg (by omega), decide_eq_false h]
def swRes (roots : List Int) (z : List Int × List S47) : List S47 × List Int := (z.2, roots.map (movB z.1))
theorem okRoots {a : List S47} {roots : List Int} (h : (roots.all fun r => decide (r = -1) || rootB a r) = true) {m : Nat} (hm : m < roots.length) : (decide (roots.getD m 0 = -1) || rootB a (roots.getD m 0)) = true := by
  rw [List.all_eq_true] at h
  exact h _ (getD_mem hm)
theorem okRoots_lt {a : List S47} {roots : List Int} (h : (roots.all fun r => decide (r = -1) || rootB a r) = true) (m : Nat) (hm : m < roots.length) (hge : roots.getD m 0 ≥ 0) : roots.getD m 0 < (a.length : Int) := by
  have h1 := okRoots h hm
  rw [Bool.or_eq_true, decide_eq_true_eq] at h1
  rcases h1 with h1 | h1
  · omega
  · have := root_lt h1; omega
end Go.Proofs.Ytjpjikhokpfhmaa.Pu

/- What a sweep leaves: a right arena with the same trees; swept again it is the same. -/

namespace Go.Proofs.Ytjpjikhokpfhmaa.Pu
set_option linter.unusedVariables false
set_option linter.unusedSimpArgs false
open Go.RowKit Go.Proofs.Ytjpjikhokpfhmaa.PT Go.Proofs.YtjpjikhokpfhmaaW.PrintWords

/-- How many knots below a place are kept. -/
def cnt (K : Nat → Bool) : Nat → Nat
  | 0 => 0
  | i + 1 => if K i = true then cnt K i + 1 else cnt K i
theorem cnt_le (K : Nat → Bool) : ∀ i, cnt K i ≤ i
  | 0 => Nat.le_refl _
  | i + 1 => by
    have h := cnt_le K i
    show (if K i = true then cnt K i + 1 else cnt K i) ≤ i + 1
    split <;> omega
theorem cnt_yes {K : Nat → Bool} {i : Nat} (h : K i = true) : cnt K (i + 1) = cnt K i + 1 := by
  show (if K i = true then cnt K i + 1 else cnt K i) = _
  rw [if_pos h]
theorem cnt_no {K : Nat → Bool} {i : Nat} (h : ¬ K i = true) : cnt K (i + 1) = cnt K i := by
  show (if K i = true then cnt K i + 1 else cnt K i) = _
  rw [if_neg h]
theorem cnt_mono (K : Nat → Bool) {i j : Nat} (h : i ≤ j) : cnt K i ≤ cnt K j := by
  induction j with
  | zero => obtain rfl : i = 0 := by omega
            exact Nat.le_refl _
  | succ j ih =>
    by_cases e : i = j + 1
    · subst e; exact Nat.le_refl _
    · have := ih (by omega)
      by_cases hk : K j = true
      · rw [cnt_yes hk]; omega
      · rw [cnt_no hk]; exact this
theorem cnt_lt {K : Nat → Bool} {i j : Nat} (hk : K i = true) (h : i < j) : cnt K i < cnt K j := by
  have h1 := cnt_mono K (show i + 1 ≤ j from h)
  rw [cnt_yes hk] at h1
  exact h1
theorem cnt_inj {K : Nat → Bool} {i j : Nat} (hi : K i = true) (hj : K j = true) (h : cnt K i = cnt K j) : i = j := by
  rcases Nat.lt_trichotomy i j with h1 | h1 | h1
  · have := cnt_lt hi h1; omega
  · exact h1
  · have := cnt_lt hj h1; omega
theorem cnt_find (K : Nat → Bool) : ∀ (n m : Nat), m < cnt K n → ∃ j, j < n ∧ K j = true ∧ cnt K j = m
  | 0, m, h => absurd h (Nat.not_lt_zero _)
  | n + 1, m, h => by
    by_cases hk : K n = true
    · rw [cnt_yes hk] at h
      by_cases e : m = cnt K n
      · exact ⟨n, by omega, hk, e.symm⟩
      · obtain ⟨j, h1, h2, h3⟩ := cnt_find K n m (by omega)
        exact ⟨j, by omega, h2, h3⟩
    · rw [cnt_no hk] at h
      obtain ⟨j, h1, h2, h3⟩ := cnt_find K n m h
      exact ⟨j, by omega, h2, h3⟩
theorem cnt_all {K : Nat → Bool} : ∀ (n : Nat), (∀ j, j < n → K j = true) → cnt K n = n
  | 0, _ => rfl
  | n + 1, h => by rw [cnt_yes (h n (by omega)), cnt_all n fun j hj => h j (by omega)]
/-- Where a kid goes, and a knot. -/
def goB (K : Nat → Bool) (x : Int) : Int := if x ≥ 0 then (cnt K x.toNat : Int) else x
def goK (K : Nat → Bool) (x : S47) : S47 := ⟨x.f0, if x.f0 = true then x.f1 else x.f1.map (goB K)⟩
theorem sw_spec (a : List S47) (K : Nat → Bool) (hK : ∀ j, j < a.length → K j = true → (a.getD j z47).f0 = false → ∀ n ∈ (a.getD j z47).f1, 0 ≤ n → n.toNat < j ∧ K n.toNat = true) :
    ∀ (d i : Nat) (pos : List Int) (out : List S47), i + d = a.length → pos.length = a.length → out.length = cnt K i → (∀ j, j < i → K j = true → pos.getD j 0 = (cnt K j : Int)) → (∀ j, j < i → K j = true → out.getD (cnt K j) z47 = goK K (a.getD j z47)) →
      (swAll a K d i pos out).1.length = a.length ∧ (swAll a K d i pos out).2.length = cnt K a.length ∧ (∀ j, j < a.length → K j = true → (swAll a K d i pos out).1.getD j 0 = (cnt K j : Int)) ∧ ∀ j, j < a.length → K j = true → (swAll a K d i pos out).2.getD (cnt K j) z47 = goK K (a.getD j z47) := by
  intro d
  induction d with
  | zero =>
    intro i pos out hi hp ho h1 h2
    obtain rfl : i = a.length := by omega
    exact ⟨hp, ho, h1, h2⟩
  | succ d ih =>
    intro i pos out hi hp ho h1 h2
    unfold swAll
    by_cases hk : K i = true
    · rw [if_pos hk]
      refine ih (i + 1) _ _ (by omega) (by rw [List.length_set]; exact hp) (by rw [cnt_yes hk]; simp only [List.length_append, List.length_cons, List.length_nil]; omega) (fun j hj hkj => ?_) (fun j hj hkj => ?_)
      · rw [getD_set _ _ _ (by omega)]
        by_cases e : j = i
        · subst e; rw [if_pos rfl, ho]
        · rw [if_neg e]; exact h1 j (by omega) hkj
      · by_cases e : j = i
        · subst e
          rw [← ho, List.getD_eq_getElem?_getD, List.getElem?_append_right (Nat.le_refl _), Nat.sub_self]
          show (⟨(a.getD j z47).f0, swKids (a.getD j z47).f0 pos (a.getD j z47).f1⟩ : S47) = goK K (a.getD j z47)
          unfold goK swKids
          congr 1
          by_cases hf : (a.getD j z47).f0 = true
          · rw [if_pos hf, if_pos hf]
          · rw [if_neg hf, if_neg hf]
            refine List.map_congr_left fun n hn => ?_
            unfold movB goB
            by_cases h0 : n ≥ 0
            · rw [if_pos h0, if_pos h0]
              obtain ⟨h5, h6⟩ := hK j (by omega) hk (Bool.eq_false_iff.mpr hf) n hn h0
              exact h1 _ h5 h6
            · rw [if_neg h0, if_neg h0]
        · have := cnt_lt hkj (show j < i by omega)
          rw [getD_app (by omega)]
          exact h2 j (by omega) hkj
    · rw [if_neg hk]
      refine ih (i + 1) pos out (by omega) hp (by rw [cnt_no hk]; exact ho) (fun j hj hkj => ?_) (fun j hj hkj => ?_)
      · by_cases e : j = i
        · subst e; exact absurd hkj hk
        · exact h1 j (by omega) hkj
      · by_cases e : j = i
        · subst e; exact absurd hkj hk
        · exact h2 j (by omega) hkj
theorem keep_iff {a : List S47} {roots : List Int} {j : Nat} : keepB a roots j = true ↔ ∃ r ∈ roots, rootB a r = true ∧ ((j : Int) = r ∨ (j : Int) ∈ (a.getD r.toNat z47).f1) := by
  unfold keepB keptB
  rw [List.any_eq_true]
  constructor
  · rintro ⟨r, h1, h2⟩
    rw [Bool.and_eq_true, Bool.or_eq_true, decide_eq_true_eq, decide_eq_true_eq] at h2
    exact ⟨r, h1, h2⟩
  · rintro ⟨r, h1, h2⟩
    refine ⟨r, h1, ?_⟩
    rw [Bool.and_eq_true, Bool.or_eq_true, decide_eq_true_eq, decide_eq_true_eq]
    exact h2
/-- The kids of a knot that is no leaf, in a right arena. -/
theorem kid_mem {a : List S47} (ha : arenaB a = true) {j : Nat} (hj : j < a.length) (hf : (a.getD j z47).f0 = false) {n : Int} (hn : n ∈ (a.getD j z47).f1) : n = -1 ∨ ((0 ≤ n ∧ n.toNat < j) ∧ (a.getD n.toNat z47).f0 = true) := by
  have h := (knot_of ha hj).2 n hn
  rw [hf] at h
  rcases kid_top.1 h with h | ⟨h1, h2⟩
  · exact .inl h
  · exact .inr ⟨⟨by omega, by omega⟩, h2⟩
theorem keep_kids {a : List S47} {roots : List Int} (ha : arenaB a = true) : ∀ j, j < a.length → keepB a roots j = true → (a.getD j z47).f0 = false → ∀ n ∈ (a.getD j z47).f1, 0 ≤ n → n.toNat < j ∧ keepB a roots n.toNat = true := by
  intro j hj hk hf n hn h0
  rcases kid_mem ha hj hf hn with h | ⟨⟨_, h1⟩, h2⟩
  · omega
  · refine ⟨h1, ?_⟩
    obtain ⟨r, hr, hrb, h3⟩ := keep_iff.1 hk
    obtain ⟨r0, rl, rf⟩ := root_lt hrb
    rcases h3 with h3 | h3
    · refine keep_iff.2 ⟨r, hr, hrb, .inr ?_⟩
      rw [show ((n.toNat : Nat) : Int) = n by omega, ← h3, Int.toNat_natCast]
      exact hn
    · rcases kid_mem ha rl rf h3 with h | ⟨_, h4⟩
      · omega
      · rw [Int.toNat_natCast, hf] at h4; cases h4
theorem getD_map {f : Int → Int} (h0 : f 0 = 0) : ∀ (l : List Int) (i : Nat), (l.map f).getD i 0 = f (l.getD i 0)
  | [], i => by simp [h0]
  | x :: l, 0 => rfl
  | x :: l, i + 1 => by
    show (l.map f).getD i 0 = f (l.getD i 0)
    exact getD_map h0 l i
theorem getD_map' {f : Int → Int} {l : List Int} {i : Nat} (h : i < l.length) : (l.map f).getD i 0 = f (l.getD i 0) := by
  rw [List.getD_eq_getElem?_getD, List.getD_eq_getElem?_getD, List.getElem?_map, List.getElem?_eq_getElem h]; rfl
/-- All that a sweep of right roots leaves. -/
theorem swept {a : List S47} {roots : List Int} (ha : arenaB a = true) (hr : ∀ x ∈ roots, x = -1 ∨ rootB a x = true) :
    arenaB (sweepB a roots).1 = true ∧ (sweepB a roots).2.length = roots.length ∧ (sweepB a roots).1.length ≤ a.length ∧ (∀ i, i < roots.length → allB (sweepB a roots).1 ((sweepB a roots).2.getD i 0) = allB a (roots.getD i 0)) ∧
      (∀ x ∈ (sweepB a roots).2, x = -1 ∨ rootB (sweepB a roots).1 x = true) ∧ ∀ m, m < (sweepB a roots).1.length → keepB (sweepB a roots).1 (sweepB a roots).2 m = true := by
  have hok : sweepOk a roots = true := by
    unfold sweepOk
    rw [ha, Bool.true_and, List.all_eq_true]
    intro x hx
    rw [Bool.or_eq_true, decide_eq_true_eq]
    exact hr x hx
  have hs := sw_spec a (keepB a roots) (keep_kids ha) a.length 0 (List.replicate a.length 0) [] (by omega) (by simp) rfl (fun j hj => absurd hj (Nat.not_lt_zero _)) (fun j hj => absurd hj (Nat.not_lt_zero _))
  have e : sweepB a roots = ((swAll a (keepB a roots) a.length 0 (List.replicate a.length 0) []).2, roots.map (movB (swAll a (keepB a roots) a.length 0 (List.replicate a.length 0) []).1)) := if_pos hok
  rw [e]
  have hkk := keep_kids (roots := roots) ha
  have hkr : ∀ r ∈ roots, rootB a r = true → keepB a roots r.toNat = true := fun r h1 h2 => keep_iff.2 ⟨r, h1, h2, .inl (by have := (root_lt h2).1; omega)⟩
  have hki := fun (j : Nat) => keep_iff (a := a) (roots := roots) (j := j)
  generalize swAll a (keepB a roots) a.length 0 (List.replicate a.length 0) [] = W at hs
  generalize keepB a roots = K at hs hkk hkr hki
  obtain ⟨P, b⟩ := W
  obtain ⟨hp, hb, h1, h2⟩ := hs
  simp only at hp hb h1 h2 ⊢
  have lt : ∀ j, j < a.length → K j = true → cnt K j < b.length := fun j hj hk => by rw [hb]; exact cnt_lt hk hj
  have right : arenaB b = true := by
    rw [arenaB_iff]
    intro m hm
    obtain ⟨j, hj, hk, rfl⟩ := cnt_find K a.length m (by omega)
    rw [h2 j hj hk, knotB_iff]
    obtain ⟨h4, hn⟩ := knot_of ha hj
    unfold goK
    by_cases hf : (a.getD j z47).f0 = true
    · simp only [hf, if_true] at hn ⊢
      exact ⟨h4, fun n hn2 => kid_leaf.2 (kid_leaf.1 (hn n hn2))⟩
    · have hf := Bool.eq_false_iff.mpr hf
      simp only [hf, Bool.false_eq_true, if_false]
      refine ⟨by rw [List.length_map]; exact h4, fun x hx => kid_top.2 ?_⟩
      obtain ⟨n, hn2, rfl⟩ := List.mem_map.1 hx
      rcases kid_mem ha hj hf hn2 with h | ⟨⟨h5, h6⟩, h7⟩
      · left; unfold goB; rw [if_neg (by omega), h]
      · right
        have hkn := (hkk j hj hk hf n hn2 h5).2
        have hlt := cnt_lt hkn h6
        unfold goB
        rw [if_pos h5, Int.toNat_natCast, h2 _ (by omega) hkn]
        exact ⟨by omega, h7⟩
  have root : ∀ r, r ∈ roots → rootB a r = true → movB P r = (cnt K r.toNat : Int) ∧ rootB b (cnt K r.toNat : Int) = true := by
    intro r h3 h4
    obtain ⟨r0, rl, rf⟩ := root_lt h4
    have hk := hkr r h3 h4
    have hl := lt _ rl hk
    refine ⟨by unfold movB; rw [if_pos r0]; exact h1 _ rl hk, ?_⟩
    unfold rootB
    rw [Int.toNat_natCast, h2 _ rl hk, decide_eq_true (by omega)]
    show (true && !(a.getD r.toNat z47).f0) = true
    rw [rf]; rfl
  have none : movB P (-1) = -1 := rfl
  refine ⟨right, by rw [List.length_map], by rw [hb]; exact cnt_le _ _, fun i hi => ?_, fun x hx => ?_, fun m hm => ?_⟩
  · rw [getD_map' hi]
    rcases hr _ (getD_mem (l := roots) (i := i) (z := 0) hi) with h | h
    · rw [h, none]
      refine allB_ext fun i _ _ => ?_
      rw [get_none rfl, get_none rfl]
    · obtain ⟨h3, h4⟩ := root _ (getD_mem hi) h
      have hk := hkr _ (getD_mem hi) h
      rw [h3]
      generalize roots.getD i 0 = r at h h4 hk
      obtain ⟨r0, rl, rf⟩ := root_lt h
      refine allB_ext fun i h5 h6 => ?_
      rw [get_root right h4 h5 h6, get_root ha h h5 h6]
      unfold numB
      rw [Int.toNat_natCast, h2 _ rl hk]
      unfold goK
      simp only [rf, Bool.false_eq_true, if_false]
      have l4 := (knot_of ha rl).1
      have hm := getD_mem (l := (a.getD r.toNat z47).f1) (i := (i / 4).toNat) (z := 0) (by omega)
      rw [getD_map' (by omega)]
      rcases kid_mem ha rl rf hm with h7 | ⟨⟨h7, h8⟩, h9⟩
      · rw [h7, show goB K (-1) = -1 from rfl, if_pos (by decide), if_pos (by decide)]
      · have hkn := (hkk _ rl hk rf _ hm h7).2
        unfold goB
        rw [if_pos h7, if_neg (by omega), if_neg (by omega), Int.toNat_natCast, h2 _ (by omega) hkn]
        unfold goK
        simp only [h9, if_true]
  · obtain ⟨r, h3, rfl⟩ := List.mem_map.1 hx
    rcases hr r h3 with h | h
    · left; rw [h]; exact none
    · obtain ⟨h4, h5⟩ := root r h3 h
      rw [h4]; exact .inr h5
  · obtain ⟨j, hj, hk, rfl⟩ := cnt_find K a.length m (by omega)
    obtain ⟨r, h3, h4, h5⟩ := (hki j).1 hk
    obtain ⟨h6, h7⟩ := root r h3 h4
    obtain ⟨r0, rl, rf⟩ := root_lt h4
    have hkr2 := hkr r h3 h4
    refine keep_iff.2 ⟨(cnt K r.toNat : Int), List.mem_map.2 ⟨r, h3, h6⟩, h7, ?_⟩
    rcases h5 with h5 | h5
    · left; rw [← h5, Int.toNat_natCast]
    · right
      rw [Int.toNat_natCast, h2 _ rl hkr2]
      unfold goK
      simp only [rf, Bool.false_eq_true, if_false]
      refine List.mem_map.2 ⟨(j : Int), h5, ?_⟩
      unfold goB
      rw [if_pos (by omega), Int.toNat_natCast]
/-- Swept again it is the same. -/
theorem swept_again {b : List S47} {now : List Int} (hb : arenaB b = true) (hr : ∀ x ∈ now, x = -1 ∨ rootB b x = true) (hk : ∀ m, m < b.length → keepB b now m = true) : (sweepB b now).1.length = b.length ∧ (sweepB b now).2 = now := by
  have hok : sweepOk b now = true := by
    unfold sweepOk
    rw [hb, Bool.true_and, List.all_eq_true]
    intro x hx
    rw [Bool.or_eq_true, decide_eq_true_eq]
    exact hr x hx
  have hs := sw_spec b (keepB b now) (keep_kids hb) b.length 0 (List.replicate b.length 0) [] (by omega) (by simp) rfl (fun j hj => absurd hj (Nat.not_lt_zero _)) (fun j hj => absurd hj (Nat.not_lt_zero _))
  have e : sweepB b now = ((swAll b (keepB b now) b.length 0 (List.replicate b.length 0) []).2, now.map (movB (swAll b (keepB b now) b.length 0 (List.replicate b.length 0) []).1)) := if_pos hok
  rw [e]
  generalize swAll b (keepB b now) b.length 0 (List.replicate b.length 0) [] = W at hs
  generalize keepB b now = K at hs hk
  obtain ⟨P, c⟩ := W
  obtain ⟨hp, hc, h1, h2⟩ := hs
  simp only at hp hc h1 h2 ⊢
  have same : ∀ j, j ≤ b.length → cnt K j = j := fun j hj => cnt_all j fun m hm => hk m (by omega)
  refine ⟨by rw [hc, same _ (Nat.le_refl _)], ?_⟩
  rw [show now = now.map id from (List.map_id now).symm, List.map_map]
  refine List.map_congr_left fun x hx => ?_
  show movB P x = x
  unfold movB
  rcases hr x hx with h | h
  · rw [h]; rfl
  · obtain ⟨r0, rl, rf⟩ := root_lt h
    rw [if_pos r0, h1 _ rl (hk _ rl), same _ (by omega)]
    omega
end Go.Proofs.Ytjpjikhokpfhmaa.Pu

/- The program's SweepArena tells what the sweep keeps. -/
namespace Go.Proofs.Ytjpjikhokpfhmaa.Pu
set_option linter.unusedVariables false
set_option linter.unusedSimpArgs false
open Go.RowKit Go.Proofs.Ytjpjikhokpfhmaa.PT Go.Proofs.YtjpjikhokpfhmaaW.PrintWords

theorem iSweep3 (roots pos : List Int) (out : List S47) (hr : roots.length ≤ 1048576) (hok : ∀ m, m < roots.length → roots.getD m 0 ≥ 0 → roots.getD m 0 < (pos.length : Int)) :
    ∀ (d m : Nat), m + d = roots.length → Ev (fun k => impl_SweepArena.l3 k (upd (movB pos) roots m) pos roots (roots.length : Int) (m : Int) out) (out, roots.map (movB pos)) := by
  intro d
  induction d with
  | zero =>
    intro m hm
    obtain rfl : m = roots.length := by omega
    refine ev_some fun k => ?_
    simp only [impl_SweepArena.l3]
    rw [if_neg (by omega), upd_full]
  | succ d ih =>
    intro m hm
    have hml : m < roots.length := by omega
    refine Ev.step (fun k => ?_) (ih (m + 1) (by omega))
    simp only [impl_SweepArena.l3]
    rw [if_pos (by omega), if_pos (by omega), if_pos (by omega), rd_nat, upd_len, Int.toNat_natCast, wsucc (n := roots.length) hml (by omega)]
    by_cases h : roots.getD m 0 ≥ 0
    · have e : rd pos (roots.getD m 0) = movB pos (roots.getD m 0) := by unfold movB; rw [if_pos h]; rfl
      have h2 := hok m hml h
      rw [if_pos h, if_pos (by omega), if_pos (by omega), if_pos (by omega), e, upd_set _ _ _ hml]
    · rw [if_neg h, upd_id _ _ _ (by unfold movB; rw [if_neg h])]
theorem iSweep1 (a : List S47) (roots acc : List Int) (K : Nat → Bool) (hn : a.length ≤ 1048576) (hr : roots.length ≤ 1048576) (ha : arenaB a = true) (hok : ∀ m, m < roots.length → roots.getD m 0 ≥ 0 → roots.getD m 0 < (a.length : Int))
    (hacc : acc.length ≤ 9223372036854775807) (hK : ∀ j : Nat, j < a.length → ((j : Int) ∈ acc ↔ K j = true)) :
    ∀ (d i : Nat) (pos : List Int) (out : List S47), i + d = a.length → pos.length = a.length → out.length ≤ i → Ev (fun k => impl_SweepArena.l1 k roots roots acc pos a (a.length : Int) (i : Int) out) (swRes roots (swAll a K d i pos out)) := by
  intro d
  induction d with
  | zero =>
    intro i pos out hi hp ho
    have h := iSweep3 roots pos out hr (by rw [hp]; exact hok) roots.length 0 (by omega)
    rw [upd_zero] at h
    refine Ev.step (fun k => ?_) h
    simp only [impl_SweepArena.l1]
    rw [if_neg (by omega)]; rfl
  | succ d ih =>
    intro i pos out hi hp ho
    have hil : i < a.length := by omega
    obtain ⟨h4, _⟩ := knot_of ha hil
    unfold swAll
    refine Ev.step (f := fun k => (impl_hasInt.f k acc (i : Int)).bind fun t => if t = true then impl_SweepArena.l2 k roots roots acc (pos.set i (out.length : Int)) a (a.length : Int) (i : Int) (a.getD i z47).f1 ((a.getD i z47).f1.length : Int) 0 out (a.getD i z47).f0 (a.getD i z47).f1 (a.getD i z47).f0 (a.getD i z47).f1 else impl_SweepArena.l1 k roots roots acc pos a (a.length : Int) ((i + 1 : Nat) : Int) out) (fun k => ?_) (ev_bind (iHasInt_ev acc _ hacc) ?_)
    · simp only [impl_SweepArena.l1]
      rw [if_pos (by omega), if_pos (by omega), if_pos (by omega), rdIK_nat, iCopyInts_eq (by omega), Int.toNat_natCast, wsucc (n := a.length) hil (by omega)]
      simp only [if_pos (show (i : Int) < (pos.length : Int) by omega), Option.bind_some]
    · by_cases h : K i = true
      · rw [if_pos h, decide_eq_true ((hK i hil).2 h)]
        simp only [if_true]
        have he := ih (i + 1) (pos.set i (out.length : Int)) (out ++ [⟨(a.getD i z47).f0, swKids (a.getD i z47).f0 pos (a.getD i z47).f1⟩]) (by omega) (by rw [List.length_set]; exact hp) (by simp; omega)
        have kid := fun (hf : (a.getD i z47).f0 = false) {j : Nat} (hj : j < 4) => kid_of ha hil hf hj
        generalize (a.getD i z47).f1 = kids at he h4 kid ⊢
        generalize (a.getD i z47).f0 = leaf at he kid ⊢
        have hpl : (pos.set i (out.length : Int)).length = a.length := by rw [List.length_set]; exact hp
        have main : ∀ (e j : Nat), j + e = 4 → Ev (fun k => impl_SweepArena.l2 k roots roots acc (pos.set i (out.length : Int)) a (a.length : Int) (i : Int) kids (kids.length : Int) (j : Int) out leaf kids leaf (if leaf = true then kids else upd (movB pos) kids j)) (swRes roots (swAll a K d (i + 1) (pos.set i (out.length : Int)) (out ++ [⟨leaf, swKids leaf pos kids⟩]))) := by
          intro e
          induction e with
          | zero =>
            intro j hj
            obtain rfl : j = 4 := by omega
            refine Ev.step (fun k => ?_) he
            simp only [impl_SweepArena.l2]
            rw [if_neg (by omega), if_pos (by omega), wsucc (n := a.length) hil (by omega)]
            have e2 : (if leaf = true then kids else upd (movB pos) kids 4) = swKids leaf pos kids := by
              unfold swKids
              rw [show upd (movB pos) kids 4 = kids.map (movB pos) by rw [← h4, upd_full]]
            rw [e2]
          | succ e ihe =>
            intro j hj
            have hjl : j < kids.length := by omega
            refine Ev.step (fun k => ?_) (ihe (j + 1) (by omega))
            simp only [impl_SweepArena.l2]
            rw [if_pos (by omega), if_pos (by omega), if_pos (by omega), rd_nat, wsucc (i := j) (n := 4) (by omega) (by omega), Int.toNat_natCast]
            cases leaf with
            | true => rw [if_pos rfl, if_pos rfl, if_pos rfl]
            | false =>
              rw [if_neg (show ¬ false = true by decide), if_neg (show ¬ false = true by decide), if_neg (show ¬ false = true by decide), upd_len]
              have hk := kid rfl (j := j) (by omega)
              by_cases h : kids.getD j 0 ≥ 0
              · have e : rd (pos.set i (out.length : Int)) (kids.getD j 0) = movB pos (kids.getD j 0) := by
                  unfold movB
                  rw [if_pos h]
                  show (pos.set i (out.length : Int)).getD (kids.getD j 0).toNat 0 = _
                  rw [getD_set _ _ _ (by omega), if_neg (by omega)]
                rw [if_pos h, if_pos (by omega), if_pos (by omega), if_pos (by omega), e, upd_set _ _ _ hjl]
              · rw [if_neg h, upd_id _ _ _ (by unfold movB; rw [if_neg h])]
        have h5 := main 4 0 rfl
        rw [upd_zero, ite_self] at h5
        exact h5
      · rw [if_neg h, decide_eq_false (fun e => h ((hK i hil).1 e))]
        exact ih (i + 1) pos out (by omega) hp (by omega)
theorem iSweep_ev (a : List S47) (roots : List Int) (hn : a.length ≤ 1048576) (hx : ∀ x ∈ a, x.f1.length ≤ 1048576) (hr : roots.length ≤ 1048576) : Ev (fun k => impl_SweepArena.f k a roots) (sweepB a roots) := by
  have cp : Ev (fun k => (impl_copyArena.f k a).bind fun t => some (t, roots)) (a, roots) := ev_bind (iCopyArena_ev a hn hx) (Ev.now _)
  have l0 : ∀ (d m : Nat) (acc : List Int), m + d = roots.length → acc.length ≤ 1048577 * m → (∀ j : Nat, j < a.length → (((j : Int) ∈ acc ∨ (roots.drop m).any (fun r => keptB a r j) = true) ↔ keepB a roots j = true)) → (∀ r ∈ roots.take m, (decide (r = -1) || rootB a r) = true) →
      Ev (fun k => impl_SweepArena.l0 k roots roots acc roots (roots.length : Int) (m : Int) a) (if (arenaB a && (roots.drop m).all fun r => decide (r = -1) || rootB a r) = true then swRes roots (swAll a (keepB a roots) a.length 0 (List.replicate a.length 0) []) else (a, roots)) := by
    intro d
    induction d with
    | zero =>
      intro m acc hm hl hK hq
      rw [List.drop_eq_nil_of_le (by omega), List.all_nil, Bool.and_true]
      refine Ev.step (f := fun k => (impl_ArenaOk.f k a).bind fun t => if t = true then impl_SweepArena.l1 k roots roots acc (List.replicate a.length 0) a (a.length : Int) 0 [] else (impl_copyArena.f k a).bind fun t => some (t, roots)) (fun k => ?_) (ev_bind (iArena_ev a (by omega)) ?_)
      · simp only [impl_SweepArena.l0]
        rw [if_neg (by omega), Int.toNat_natCast]
        simp only [if_pos (show (0 : Int) ≤ (a.length : Int) by omega), if_pos (show a.length ≤ 35184372088832 by omega)]
      · by_cases h : arenaB a = true
        · simp only [if_pos h]
          refine iSweep1 a roots acc (keepB a roots) hn hr h (okRoots_lt ?_) (by omega) (fun j hj => ?_) a.length 0 (List.replicate a.length 0) [] (by omega) (by simp) (by simp)
          · rw [List.take_of_length_le (by omega)] at hq
            rw [List.all_eq_true]
            exact hq
          · have h2 := hK j hj
            rw [List.drop_eq_nil_of_le (by omega)] at h2
            simpa using h2
        · simp only [if_neg h]
          exact cp
    | succ d ih =>
      intro m acc hm hl hK hq
      have hml : m < roots.length := by omega
      have st : ∀ k, impl_SweepArena.l0 (k + 1) roots roots acc roots (roots.length : Int) (m : Int) a = impl_SweepArena.j1 k roots roots acc (roots.getD m 0) roots (roots.length : Int) (m : Int) (!(decide (roots.getD m 0 = -1) || rootB a (roots.getD m 0))) a := fun k => by
        simp only [impl_SweepArena.l0]
        rw [if_pos (by omega), if_pos (by omega), if_pos (by omega), rd_nat, iRoot_eq a _ (by omega), Option.bind_some]
        by_cases h : roots.getD m 0 = -1
        · rw [if_pos h, decide_eq_true h]; rfl
        · rw [if_neg h, decide_eq_false h, Bool.false_or]
      rw [drop_cons 0 hml, List.all_cons]
      by_cases h : (decide (roots.getD m 0 = -1) || rootB a (roots.getD m 0)) = true
      · rw [h, Bool.true_and]
        obtain ⟨L, h1, h2, h3⟩ := iKnots_ev a (roots.getD m 0) hn hx
        refine Ev.step (f := fun k => impl_SweepArena.j1 k roots roots acc (roots.getD m 0) roots (roots.length : Int) (m : Int) false a) (fun k => by rw [st k, h]; rfl) (Ev.step (f := fun k => (impl_knotsOf.f k a (roots.getD m 0)).bind fun t => if acc.length + t.length < 17592186044416 then impl_SweepArena.l0 k roots roots (acc ++ t) roots (roots.length : Int) ((m + 1 : Nat) : Int) a else none) (fun k => ?_) (ev_bind h1 ?_))
        · simp only [impl_SweepArena.j1]
          rw [if_neg (by decide), wsucc (n := roots.length) hml (by omega)]
        · simp only [if_pos (show acc.length + L.length < 17592186044416 by omega)]
          refine ih (m + 1) (acc ++ L) (by omega) (by rw [List.length_append]; omega) (fun j hj => ?_) (fun r hr2 => ?_)
          · rw [← hK j hj, drop_cons (l := roots) (i := m) 0 hml, List.any_cons, List.mem_append, h3 j hj, Bool.or_eq_true, or_assoc]
          · rw [List.take_succ_eq_append_getElem hml, List.mem_append, List.mem_singleton] at hr2
            rcases hr2 with h5 | h5
            · exact hq r h5
            · rw [h5]
              rw [List.getD_eq_getElem?_getD, List.getElem?_eq_getElem hml] at h
              exact h
      · rw [Bool.eq_false_iff.mpr h, Bool.false_and, Bool.and_false, if_neg (by decide)]
        refine Ev.step (f := fun k => impl_SweepArena.j1 k roots roots acc (roots.getD m 0) roots (roots.length : Int) (m : Int) true a) (fun k => by rw [st k, Bool.eq_false_iff.mpr h]; rfl) (Ev.step (fun k => ?_) cp)
        simp only [impl_SweepArena.j1]
        rw [if_pos trivial]
  unfold impl_SweepArena.f sweepB sweepOk
  simp only [iCopyInts_eq hr, Option.bind_some]
  have h := l0 roots.length 0 [] (by omega) (by simp) (fun j hj => by rw [List.drop_zero]; simp [keepB]) (by simp)
  rw [List.drop_zero] at h
  exact h
end Go.Proofs.Ytjpjikhokpfhmaa.Pu

/- FnSweepTrees: a drawn arena that is swept has the same trees, and no knot that no tree has. -/
namespace Go.Proofs.Ytjpjikhokpfhmaa.Pure
set_option linter.unusedVariables false
set_option linter.unusedSimpArgs false
open Go.RowKit Go.Proofs.Ytjpjikhokpfhmaa.PT Go.Proofs.YtjpjikhokpfhmaaW.PrintWords Go.Proofs.Ytjpjikhokpfhmaa.Pu

theorem FnSweepTrees : laws_FnSweepTrees.Pure := by
  intro l hl _ hx
  refine Ev.rounds (g := fun k => laws_FnSweepTrees.f k l) ?_
  unfold maxLen at hl
  unfold laws_FnSweepTrees.f laws_big.f
  refine ev_bind (Ev.now (decide ((l.length : Int) > 1048576))) ?_
  by_cases hbig : (l.length : Int) > 1048576
  · simp only [decide_eq_true hbig, if_true]; exact Ev.now _
  · simp only [decide_eq_false hbig, Bool.false_eq_true, if_false]
    obtain ⟨a, roots, hf, ⟨ha, hr⟩, ⟨r1, r8⟩, a14⟩ := forest_ev l (by omega)
    obtain ⟨p, hp, p12, pb⟩ := places_ev l (by omega)
    refine ev_bind hf (ev_bind hp ?_)
    have last : ∀ some_ : List Int, some_.length ≤ 8 → (∀ x ∈ some_, x = -1 ∨ rootB a x = true) → Ev (fun k => laws_FnSweepTrees.l0 k roots p some_ (roots.length : Int) a) true := by
      intro some_ hl hs
      obtain ⟨b1, b2, b3, b4, b5, b6⟩ := swept ha hs
      refine Ev.step (f := fun k => (impl_SweepArena.f k a some_).bind fun bt455 => (impl_ArenaOk.f k bt455.1).bind fun t462 => if t462 = true then (if (bt455.2.length : Int) = (some_.length : Int) then laws_FnSweepTrees.j1 k some_ bt455.2 (decide ((bt455.1.length : Int) > (a.length : Int))) a bt455.1 else laws_FnSweepTrees.j1 k some_ bt455.2 true a bt455.1) else laws_FnSweepTrees.j1 k some_ bt455.2 true a bt455.1) (fun k => by simp only [laws_FnSweepTrees.l0]; rw [if_neg (by omega)]) ?_
      refine ev_bind (iSweep_ev a some_ (by omega) (woods_le ha) (by omega)) ?_
      generalize sweepB a some_ = B at b1 b2 b3 b4 b5 b6 ⊢
      obtain ⟨b, now⟩ := B
      simp only at b1 b2 b3 b4 b5 b6 ⊢
      refine ev_bind (iArena_ev b (by omega)) ?_
      simp only [if_pos b1]
      simp only [if_pos (show (now.length : Int) = (some_.length : Int) by omega), decide_eq_false (show ¬ (b.length : Int) > (a.length : Int) by omega)]
      obtain ⟨c1, c2⟩ := swept_again b1 b5 b6
      have fin : Ev (fun k => laws_FnSweepTrees.l1 k some_ now (some_.length : Int) a b) true := by
        refine Ev.step (f := fun k => (impl_SweepArena.f k b now).bind fun bt463 => if (bt463.1.length : Int) = (b.length : Int) then (laws_sameInts.f k bt463.2 now).bind fun t470 => some t470 else some false) (fun k => by simp only [laws_FnSweepTrees.l1]; rw [if_neg (by omega)]) ?_
        refine ev_bind (iSweep_ev b now (by omega) (woods_le b1) (by omega)) ?_
        simp only [if_pos (show ((sweepB b now).1.length : Int) = (b.length : Int) by omega)]
        exact ev_bind (same_ev' c2 (by rw [c2]; omega)) (Ev.now _)
      have all : ∀ (d i : Nat), i + d = some_.length → Ev (fun k => laws_FnSweepTrees.l1 k some_ now (i : Int) a b) true := by
        intro d
        induction d with
        | zero => intro i hi; rw [show i = some_.length by omega]; exact fin
        | succ d ih =>
          intro i hi
          refine Ev.step (f := fun k => (impl_AllAt.f k b (now.getD i 0)).bind fun t472 => (spec_AllAt.f k a (some_.getD i 0)).bind fun t476 => (laws_sameInts.f k t472 t476).bind fun t479 => if t479 = true then laws_FnSweepTrees.l1 k some_ now ((i + 1 : Nat) : Int) a b else some false) (fun k => ?_) (ev_bind (iAllAt_ev b _ (by omega)) (ev_bind (sAllAt_ev a _ (by omega)) (ev_bind (same_ev' (b4 i (by omega)) (by rw [allB_len]; omega)) ?_)))
          · simp only [laws_FnSweepTrees.l1]
            rw [if_pos (by omega), if_pos (by omega), if_pos (by omega), rd_nat, rd_nat, wsucc (n := some_.length) (by omega) (by omega)]
          · simp only [if_true]; exact ih (i + 1) (by omega)
      refine Ev.step (fun k => ?_) (all some_.length 0 (by omega))
      simp only [laws_FnSweepTrees.j1]
      rfl
    have main : ∀ (d i : Nat) (acc : List Int), i + d = roots.length → acc.length ≤ i → (∀ x ∈ acc, x = -1 ∨ rootB a x = true) → Ev (fun k => laws_FnSweepTrees.l0 k roots p acc (i : Int) a) true := by
      intro d
      induction d with
      | zero => intro i acc hi hl hs; rw [show i = roots.length by omega]; exact last acc (by omega) hs
      | succ d ih =>
        intro i acc hi hl hs
        obtain ⟨m0, m1⟩ := mod_lt (x := (i : Int)) (n := 12) (by omega) (by omega)
        by_cases h : Int.tmod (rd p (Int.tmod (i : Int) 12)) 2 = 0
        · refine Ev.step (fun k => ?_) (ih (i + 1) (acc ++ [roots.getD i 0]) (by omega) (by simp; omega) (fun x hx => by
            rcases List.mem_append.1 hx with hx | hx
            · exact hs x hx
            · obtain rfl := List.mem_singleton.1 hx; exact hr _ (getD_mem (by omega))))
          simp only [laws_FnSweepTrees.l0]
          rw [if_pos (by omega), if_pos m0, if_pos (by omega), if_pos h, if_pos (by omega), if_pos (by omega), rd_nat, wsucc (n := roots.length) (by omega) (by omega)]
        · refine Ev.step (fun k => ?_) (ih (i + 1) acc (by omega) (by omega) hs)
          simp only [laws_FnSweepTrees.l0]
          rw [if_pos (by omega), if_pos m0, if_pos (by omega), if_neg h, wsucc (n := roots.length) (by omega) (by omega)]
    exact main roots.length 0 [] (by omega) (Nat.zero_le _) (fun x hx => by cases hx)
end Go.Proofs.Ytjpjikhokpfhmaa.Pure

/- Functions of the translation as plain Lean functions, and for each that its call comes to just what its Lean function answers; its conditions stand in each theorem. Written by a program of this session. -/
namespace Go.Proofs.Ytjpjikhokpfhmaa.fnSweepTrees
open Go.ChangeShapes Go.WideShapes Go.ChangeAt Go.RowKit
open Go.ChangeMaps (open_string shut_string)
set_option linter.unusedVariables false
theorem own : ownKnob Try.prog.godebug = none := by kernel_rfl
theorem laidOut : laidOutB Try.prog = true := by kernel_rfl
def IsRow (k : IntKind) (w : World) (a : Option Addr) (len cap : Nat) (zs : List Int) : Prop :=
  (a = none ∧ len = 0 ∧ cap = 0 ∧ zs = []) ∨
  ∃ x, a = some x ∧ len ≤ cap ∧ cap ≤ maxLen ∧ zs.length = cap ∧ (∀ i, i < zs.length → w.cell? (x.add i) = some (.int k (zs.getD i 0))) ∧ ∀ n ∈ zs, (Lit.int k n).wf = true
set_option maxRecDepth 100000 in
theorem lifted (os : Os) (started : os.Started) (H : Type) (enc : TypeId × Value → H) :
    ReturnsInHanded {} Try.checked os 5 .any (Rows.fnSweepTreesSpec.pre6 enc Try.prog Try.f5 Rows.fnSweepTreesRow.domain false) (Rows.fnSweepTreesSpec.post enc Try.prog Try.f5 false true false false) := by
  refine returnsInHanded_of_change_sized (C := Try.checked) own started (by kernel_rfl) Try.func5
    (ChangeSpec.witness6 (enc := enc) (C := Try.checked) false ⟨#[], #[.slice none 0 0], []⟩ 8 (by kernel_rfl) (by kernel_rfl) (by kernel_rfl) (by kernel_rfl)) ?_
  intro W base args ds gs before hval0 hW hcnd hsz0 _
  have hsz : (DataW.weightsEach Try.prog (Try.f5.params.toList ++ Rows.fnSweepTreesSpec.plain.varTypes Try.prog) (ds ++ gs)).all (· ≤ reachBytes) = true := hsz0
  have hval : ∀ (j : Nat) t v, Try.f5.params[j]? = some t → args[j]? = some v → Value.okWide Try.prog W .any base t v := hval0
  have hW' := hW
  obtain ⟨p, q, hA0, hV, rfl, hfz, hnd⟩ := hW
  have hA : DataW.TrodAll enc Try.prog W 0 (fun _ => true) true Try.f5.params.toList args.toList ds p := hA0
  rw [Try.params5] at hA hval hsz
  obtain ⟨v0, vs0, d0, ds0, p0, q0, hargs, rfl, rfl, h0, r0⟩ := trodAll_cons hA
  obtain ⟨rfl, rfl, rfl⟩ := trodAll_nil r0
  obtain rfl : args = #[v0] := by cases args; simp_all
  obtain ⟨rfl, rfl⟩ := trodVars_none hV
  obtain ⟨a0, len0, cap0, rfl⟩ := okWide_slice Try.underlying22 (hval 0 22 v0 rfl rfl)
  have k0 := h0
  have lt0 : ∀ x ∈ p0, x.block < W.heap.size := by obtain ⟨m, hm⟩ := k0; exact DataW.trod_lt m _ _ _ hm
  obtain ⟨z0, w0⟩ : ∃ zs, IsRow .u8 W a0 len0 cap0 zs := by
    obtain ⟨fuel, hf⟩ := h0
    rcases open_ints Try.underlying22 Try.underlying5 (by kernel_rfl) hf with ⟨hcs, _⟩ | ⟨x, l, c, zs, hcs, _, hl, hm, hz, _, hcell, hwz⟩
    · simp [Value.cells] at hcs
      obtain ⟨rfl, rfl, rfl⟩ := hcs
      exact ⟨[], .inl ⟨rfl, rfl, rfl, rfl⟩⟩
    · simp [Value.cells] at hcs
      obtain ⟨rfl, rfl, rfl⟩ := hcs
      exact ⟨zs, .inr ⟨_, rfl, hl, hm, by simpa using hz, hcell, hwz⟩⟩
  have y0 : len0 * 1 ≤ 140737488351232 := Go.Proofs.YtjpjikhokpfhmaaW.PrintWords.sized_ints hsz (j := 0) (t := 22) rfl rfl Try.underlying22 Try.underlying5 (by kernel_rfl) (by kernel_rfl) h0
  clear hA0 hval0 hsz0 hsz
  refine (PT.laws_FnSweepTrees.walk Pure.FnSweepTrees a0 len0 cap0 z0 W w0 y0).mono fun e W' ⟨he, bel⟩ => ?_
  subst he
  exact ⟨_, rfl, _, _, _, [], _, [], hW', trodAll_mk1 (shut_bool Try.underlying4 _), (trodAll_cons_mk (Below.trod laidOut (by kernel_rfl) (of_decide_eq_true (by kernel_rfl)) k0 bel lt0) trodAll_mk0), rfl, bel.frame _, fun h => by cases h⟩
theorem over : Rows.fnSweepTreesRow.holds Try.pinned (OpenSpec.ofChange Rows.fnSweepTreesSpec) :=
  OpenClaim.holds_of_wide 5 Try.f5 rfl rfl rfl rfl rfl rfl rfl ⟨rfl, rfl, rfl, rfl, rfl⟩ rfl rfl rfl rfl rfl (by kernel_rfl) Try.func5 (by kernel_rfl)
    (of_decide_eq_true (by kernel_rfl)) (by unfold Func.isWrapper; first | (rw [if_pos (by decide +kernel)]; kernel_rfl) | (rw [if_neg (by decide +kernel)]; exact ⟨rfl, rfl⟩))
    (fun os started H enc _ => lifted os started H enc)
theorem proved : Rows.FnSweepTreesSaid := over
#print axioms proved
end Go.Proofs.Ytjpjikhokpfhmaa.fnSweepTrees
namespace Go.Proofs.Ytjpjikhokpfhmaa
/-- The row, under a short name, for the claim. -/
theorem fnSweepTrees_holds : Rows.FnSweepTreesSaid := fnSweepTrees.proved
end Go.Proofs.Ytjpjikhokpfhmaa
