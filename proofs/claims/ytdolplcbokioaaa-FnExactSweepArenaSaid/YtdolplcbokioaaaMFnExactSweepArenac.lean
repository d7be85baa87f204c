/- FnExactSweepArena: functions of the translation as Lean functions with what their calls come to, plain lemmas on them, and, at the end, the row. Parts of one proof, merged by a program of this session; each part's own sentence stands at its head. -/
import Derived.Test.YtdolplcbokioaaaMFnExactSweepArenab
namespace Go.Proofs.Ytdolplcbokioaaa.PB
open Go.RowKit Go.Proofs.YtdolplcbokioaaaW.PrintWords Go.Proofs.YtdolplcbokioaaaW.PrintLast Go.Proofs.YtdolplcbokioaaaW.PrintMore
attribute [local go_sem] max2_int min2_int max_two min_two max_three min_three max_four min_four   -- for this text's walks alone
set_option linter.unusedVariables false
set_option linter.unusedSimpArgs false
def impl_knotsOf.l0 : Nat → List Int → List Int → Int → Int → List (S133) → Option (List Int)
 | 0,_,_,_,_,_=>none
 | k + 1,x5,x19,x20,x21,x630000=>if x21 < x20 then (if 0 ≤ x21 then (if x21 < (x19.length : Int) then ((impl_in.f (rd x19 x21) 0 (wrap64 ((x630000.length : Int) - 1))).bind fun t636=>(if t636 = true then ((impl_hasInt.f k x5 (rd x19 x21)).bind fun t637=>(if t637 = true then (impl_knotsOf.l0 k x5 x19 x20 (wrap64 (x21 + 1)) x630000) else (if x5.length < 17592186044416 then (impl_knotsOf.l0 k (x5 ++ [rd x19 x21]) x19 x20 (wrap64 (x21 + 1)) x630000) else (none)))) else (impl_knotsOf.l0 k x5 x19 x20 (wrap64 (x21 + 1)) x630000))) else (none)) else (none)) else (some x5)
def impl_knotsOf.f (k : Nat) (l0_0 : List (S133)) (a1 : Int) : Option (List Int):=(impl_isRoot.f l0_0 a1).bind fun t630=>(if t630 = true then (if 0 ≤ a1 then (if a1 < (l0_0.length : Int) then (impl_knotsOf.l0 k (([a1] : List Int)) ((rd_T133 l0_0 a1).f1) (((rd_T133 l0_0 a1).f1).length : Int) 0 l0_0) else (none)) else (none)) else (some ([] : List Int)))
theorem impl_knotsOf.mono_l : ∀ k,(∀ y0 y1 y2 y3 y4,LeO (impl_knotsOf.l0 k y0 y1 y2 y3 y4) (impl_knotsOf.l0 (k + 1) y0 y1 y2 y3 y4))
 | 0=>fun _ _ _ _ _ r h=>by simp [impl_knotsOf.l0] at h
 | k + 1=>by
  have ih0:=impl_knotsOf.mono_l k;intro y0 y1 y2 y3 y4;unfold impl_knotsOf.l0
  repeat' first
  | (with_reducible exact ih0 _ _ _ _ _)
  | (with_reducible exact impl_hasInt.mono _ _ _)
  | (with_reducible exact LeO.refl _)
  | (with_reducible exact LeO.none _)
  | (with_reducible refine LeO.ite ?_ ?_)
  | (with_reducible refine LeO.bind ?_ (fun _=>?_))
  | exact ih0 _ _ _ _ _
  | exact impl_hasInt.mono _ _ _
  | exact LeO.none _
  | refine LeO.ite ?_ ?_
  | refine LeO.bind ?_ (fun _=>?_)
theorem impl_knotsOf.mono : ∀ a0 a1 k,LeO (impl_knotsOf.f k a0 a1) (impl_knotsOf.f (k + 1) a0 a1):=by
 intro a0 a1 k;have ih0:=impl_knotsOf.mono_l k;unfold impl_knotsOf.f
 repeat' first
   | (with_reducible exact ih0 _ _ _ _ _)
   | (with_reducible exact impl_hasInt.mono _ _ _)
   | (with_reducible exact LeO.refl _)
   | (with_reducible exact LeO.none _)
   | (with_reducible refine LeO.ite ?_ ?_)
   | (with_reducible refine LeO.bind ?_ (fun _=>?_))
   | exact ih0 _ _ _ _ _
   | exact impl_hasInt.mono _ _ _
   | exact LeO.none _
   | refine LeO.ite ?_ ?_
   | refine LeO.bind ?_ (fun _=>?_)
set_option maxHeartbeats 8000000 in
set_option maxRecDepth 100000 in
theorem impl_knotsOf.calls (k : Nat) (A0_0 : Option Addr) (c0_0 : Nat) (l0_0 : List (S133)) (a1 : Int) (r : List Int) (w : World) (hr0_0 : Kd.C k133 w A0_0 l0_0.length l0_0) (hc0_0 : l0_0.length ≤ c0_0) (h : impl_knotsOf.f k l0_0 a1 = some r) :
  Calls Try.prog 94 #[.agg #[.slice A0_0 l0_0.length c0_0],.int .i64 a1] w fun e w'=>∃ v0_ : Value,e = .returned (v0_) ∧ Kd.R (Kd.int .i64) 3 w' w.heap.size (fun _=>True) v0_ r ∧ Below w.heap.size w w':=by
 have hu44:=Try.underlying44;have HR0_0:=Aside0.mk hr0_0;have HC0_0:=Aside0.mk hc0_0;clear hr0_0 hc0_0;have HB:=Aside0.mk (Below.refl w.heap.size w);have H : ((impl_isRoot.f l0_0 a1).bind fun t630=>(if t630 = true then (if 0 ≤ a1 then (if a1 < (l0_0.length : Int) then (impl_knotsOf.l0 k (([a1] : List Int)) ((rd_T133 l0_0 a1).f1) (((rd_T133 l0_0 a1).f1).length : Int) 0 l0_0) else (none)) else (none)) else (some ([] : List Int)))) = some r:=h;clear h;replace H:=Option.bind_eq_some_iff.mp H;obtain ⟨t630,A30,H⟩:=H;replace H : (if t630 = true then (if 0 ≤ a1 then (if a1 < (l0_0.length : Int) then (impl_knotsOf.l0 k (([a1] : List Int)) ((rd_T133 l0_0 a1).f1) (((rd_T133 l0_0 a1).f1).length : Int) 0 l0_0) else (none)) else (none)) else (some ([] : List Int))) = some r:=H;have A3:=Aside0.mk A30;clear A30
 by_cases c4 : t630 = true
 ·subst c4;have H1 : (if 0 ≤ a1 then (if a1 < (l0_0.length : Int) then (impl_knotsOf.l0 k (([a1] : List Int)) ((rd_T133 l0_0 a1).f1) (((rd_T133 l0_0 a1).f1).length : Int) 0 l0_0) else (none)) else (none)) = some r:=by rw [if_pos rfl] at H;exact H
  clear H;have H:=H1;clear H1;obtain ⟨y631,hy631⟩ : ∃ y_ : List Int,y_ = (([a1] : List Int)):=⟨_,rfl⟩;replace H : (if 0 ≤ a1 then (if a1 < (l0_0.length : Int) then (impl_knotsOf.l0 k y631 ((rd_T133 l0_0 a1).f1) (((rd_T133 l0_0 a1).f1).length : Int) 0 l0_0) else (none)) else (none)) = some r:=by first | (rw [hy631];with_reducible exact H) | (have H2_:=(Option.bind_some _ _).symm.trans H;rw [hy631];with_reducible exact H2_) | (have H2_:=(Option.bind_some _ _).symm.trans H;with_reducible exact H2_) | with_reducible exact H | (rw [hy631];exact H) | exact H
  have Ny631:=Aside0.mk hy631;clear hy631
  by_cases c5 : 0 ≤ a1
  ·rw [if_pos c5] at H;have c5b0 : decide (0 ≤ a1) = true:=decide_eq_true c5;clear c5
   by_cases c6 : a1 < (l0_0.length : Int)
   ·rw [if_pos c6] at H;have c6b0 : decide (a1 < (l0_0.length : Int)) = true:=decide_eq_true c6;clear c6;have H':=Aside0.mk H;clear H
    go_enter Try.func94,Try.ntmps94
    go_wp2_with (first | ((with_reducible refine gate_dst (N:=2) rfl ?_);refine box_event ?hg (N:=2) ?hd (cs:=#[.slice A0_0 l0_0.length c0_0]) (t:=44) ?hr ?_;(case hd=>rfl);(case hg=>rfl);(case hr=>first | (go_simp;done) | (go_simp;rfl));intro gb629 hg w7 hbox hb;have n0_:=Aside0.mk (below_step (hs HB) hb);have n1_:=Aside0.mk (hbox);have n2_:=Aside0.mk ((by rw [hg];exact (below_size (hs HB)) : w.heap.size ≤ gb629));have n3_:=Aside0.mk ((by rw [hg];exact (below_size (hs HB)) : w.heap.size ≤ gb629));clear HB;have HB:=n0_;have BK629:=n1_;have GW629:=n2_;have GE629:=n3_;clear n0_ n1_ n2_ n3_;clear hb hbox hg;have hcz8_0 : w7.cell? ⟨gb629,0,none⟩ = some (.slice A0_0 l0_0.length c0_0):=(blk_cell BK629.out 0).trans rfl;have hfz8_0:=blk_frozen BK629.out 0) | ((with_reducible refine gate_callee (f:=92) rfl ?_);refine goesL_ (some 10) rfl rfl Try.func92 (by kernel_rfl) rfl #[.agg #[.slice A0_0 l0_0.length c0_0],.int .i64 a1] rfl (by (try simp only [List.map_toArray,List.map_cons,List.map_nil]);first | done | rfl | (simp only [List.length_drop,List.length_take];rfl)) ?_;(with_reducible refine (impl_isRoot.calls _ _ l0_0 a1 true _ ?side1 ?side2 A3.out).mono ?_);(case side1=>repeat (first | exact (Kd.C_below HR0_0.out HB.out) | (with_reducible refine Kd.C_alloc ?_ _) | (with_reducible refine Kd.C_drewN ?_ _) | (with_reducible refine Kd.C_drew ?_)));(case side2=>exact HC0_0.out);rintro e w9 ⟨rfl,hb⟩;refine ⟨_,rfl,?_⟩;have n0_:=Aside0.mk (blk_below (g:=gb629) (o:=.cells #[.slice A0_0 l0_0.length c0_0] 44 (0,0)) (bs BK629) hb);have n1_:=Aside0.mk (below_step (hs1 HB GE629) hb);clear BK629;clear HB;have BK629:=n0_;have HB:=n1_;clear n0_ n1_;(try clear hb);(try clear hb2);(try clear hk);(try clear hi)) | ((with_reducible refine gate_dst (N:=13) rfl ?_);refine Kd.R_lit (Kd.int .i64) _ 3 ?hg (N:=13) ?hd (xs:=([a1] : List Int)) (inner:=[.int .i64 a1]) (ok:=fun _=>True) (okp:=fun _=>True) ?hr ?hp (fun _ hk=>hk) trivial (Below.refl _ _) (Nat.le_refl _) (by simp) ?_;(case hd=>rfl);(case hg=>rfl);(case hr=>first | (go_simp;done) | (go_simp;rfl));(case hp=>exact (Reps.one (show Kd.M (Kd.int .i64) _ _ _ a1 [.int .i64 a1] from rfl) (Reps.none _ _)));intro v632 w10 ho11 hb hg_ hnew_;clear hg_ hnew_;(first | rw [← Ny631.out] at ho11 | (simp only [Int.reduceToNat] at ho11;rw [← Ny631.out] at ho11));have n0_:=Aside0.mk (Kd.R_lower ho11 (below_size (hs1 HB GE629)));have n1_:=Aside0.mk (blk_below (g:=gb629) (o:=.cells #[.slice A0_0 l0_0.length c0_0] 44 (0,0)) (bs BK629) hb);have n2_:=Aside0.mk (below_step (hs1 HB GE629) hb);clear BK629;clear HB;have HO633:=n0_;have BK629:=n1_;have HB:=n2_;clear n0_ n1_ n2_;clear hb ho11;have hcz12_0 : w10.cell? ⟨gb629,0,none⟩ = some (.slice A0_0 l0_0.length c0_0):=(blk_cell BK629.out 0).trans rfl;have hfz12_0:=blk_frozen BK629.out 0;have p634 : 0 ≤ (a1 : Int):=of_decide_eq_true (by first | (with_reducible assumption) | assumption);have q634 : a1 < (l0_0.length : Int):=of_decide_eq_true (by first | (with_reducible assumption) | assumption);obtain ⟨ad634,A634_1,c634_1,e634,hx634_0,hx634_1,hl634_1,hi634_1⟩:=at_T133 HR0_0.out a1 p634 q634;cases e634;replace hx634_0:=(HB.out.cell (World.block_lt_of_cell? w _ hx634_0)).trans hx634_0;replace hx634_1:=(HB.out.cell (World.block_lt_of_cell? w _ hx634_1)).trans hx634_1;have HR634_1:=Aside0.mk hi634_1;have HC634_1:=Aside0.mk hl634_1;clear hi634_1 hl634_1;replace p634:=eq_true p634;replace q634:=eq_true q634));go_loopg [5,21] k (fun kq v5 v21 w'=>∃ (x5_1 : List Int) (x21_1 : Int),v21 = .int .i64 x21_1 ∧ Aside0 (impl_knotsOf.l0 kq x5_1 ((rd_T133 l0_0 a1).f1) (((rd_T133 l0_0 a1).f1).length : Int) x21_1 l0_0 = some r) ∧ Aside0 (kq ≤ k) ∧ Aside0 (Kd.R (Kd.int .i64) 3 w' w.heap.size (fun _=>True) v5 x5_1) ∧ Aside0 (w'.heap[gb629]? = some (.cells #[(.slice (some ad634) l0_0.length c0_0)] 44 (0,0))) ∧ Aside0 (Below w.heap.size w w'));case atStart=>exact ⟨(y631),(0),(by first | rfl | (simp;done) | (simp [*];done)),H',⟨Nat.le_refl _⟩,⟨rs HO633⟩,⟨bs BK629⟩,⟨hs1 HB GE629⟩⟩
    case round =>
     clear H'
     try clear p2
     try clear c4
     try clear c5
     try clear c5b0
     try clear c6
     try clear c6b0
     try clear p6
     try clear q6
     try clear hx6
     try clear c9
     try clear hcz12_0
     try clear hcz8_0
     try clear hfz12_0
     try clear hfz8_0
     try clear hx634_0
     try clear hx634_1
     try clear p634
     try clear q634
     obtain ⟨x5_1,x21_1,rfl,HA,HK1,HO_5,BK629,HB⟩:=hrel;cases gk with
     | zero=>exact absurd HA.out (by simp [impl_knotsOf.l0])
     | succ k1 =>
      have H:=HA.out;clear HA;simp only [impl_knotsOf.l0] at H
      by_cases c13 : x21_1 < (((rd_T133 l0_0 a1).f1).length : Int)
      ·rw [if_pos c13] at H;have c13b0 : decide (x21_1 < (((rd_T133 l0_0 a1).f1).length : Int)) = true:=decide_eq_true c13;clear c13
       by_cases c14 : 0 ≤ x21_1
       ·rw [if_pos c14] at H;have c14b0 : decide (0 ≤ x21_1) = true:=decide_eq_true c14;clear c14
        by_cases c15 : x21_1 < (((rd_T133 l0_0 a1).f1).length : Int)
        ·rw [if_pos c15] at H;have c15b0 : decide (x21_1 < (((rd_T133 l0_0 a1).f1).length : Int)) = true:=decide_eq_true c15;clear c15;replace H:=Option.bind_eq_some_iff.mp H;obtain ⟨t636,A160,H⟩:=H;replace H : (if t636 = true then ((impl_hasInt.f k1 x5_1 (rd ((rd_T133 l0_0 a1).f1) x21_1)).bind fun t637=>(if t637 = true then (impl_knotsOf.l0 k1 x5_1 ((rd_T133 l0_0 a1).f1) (((rd_T133 l0_0 a1).f1).length : Int) (wrap64 (x21_1 + 1)) l0_0) else (if x5_1.length < 17592186044416 then (impl_knotsOf.l0 k1 (x5_1 ++ [rd ((rd_T133 l0_0 a1).f1) x21_1]) ((rd_T133 l0_0 a1).f1) (((rd_T133 l0_0 a1).f1).length : Int) (wrap64 (x21_1 + 1)) l0_0) else (none)))) else (impl_knotsOf.l0 k1 x5_1 ((rd_T133 l0_0 a1).f1) (((rd_T133 l0_0 a1).f1).length : Int) (wrap64 (x21_1 + 1)) l0_0)) = some r:=H;have A16:=Aside0.mk A160;clear A160
         by_cases c17 : t636 = true
         ·subst c17;have H1 : ((impl_hasInt.f k1 x5_1 (rd ((rd_T133 l0_0 a1).f1) x21_1)).bind fun t637=>(if t637 = true then (impl_knotsOf.l0 k1 x5_1 ((rd_T133 l0_0 a1).f1) (((rd_T133 l0_0 a1).f1).length : Int) (wrap64 (x21_1 + 1)) l0_0) else (if x5_1.length < 17592186044416 then (impl_knotsOf.l0 k1 (x5_1 ++ [rd ((rd_T133 l0_0 a1).f1) x21_1]) ((rd_T133 l0_0 a1).f1) (((rd_T133 l0_0 a1).f1).length : Int) (wrap64 (x21_1 + 1)) l0_0) else (none)))) = some r:=by rw [if_pos rfl] at H;exact H
          clear H;have H:=H1;clear H1;replace H:=Option.bind_eq_some_iff.mp H;obtain ⟨t637,A180,H⟩:=H;replace H : (if t637 = true then (impl_knotsOf.l0 k1 x5_1 ((rd_T133 l0_0 a1).f1) (((rd_T133 l0_0 a1).f1).length : Int) (wrap64 (x21_1 + 1)) l0_0) else (if x5_1.length < 17592186044416 then (impl_knotsOf.l0 k1 (x5_1 ++ [rd ((rd_T133 l0_0 a1).f1) x21_1]) ((rd_T133 l0_0 a1).f1) (((rd_T133 l0_0 a1).f1).length : Int) (wrap64 (x21_1 + 1)) l0_0) else (none))) = some r:=H;have A18:=Aside0.mk A180;clear A180
          by_cases c19 : t637 = true
          ·subst c19;have H1 : (impl_knotsOf.l0 k1 x5_1 ((rd_T133 l0_0 a1).f1) (((rd_T133 l0_0 a1).f1).length : Int) (wrap64 (x21_1 + 1)) l0_0) = some r:=by rw [if_pos rfl] at H;exact H
           clear H;have H:=H1;clear H1;have H':=Aside0.mk H;clear H;have p635 : 0 ≤ (x21_1 : Int):=of_decide_eq_true (by first | (with_reducible assumption) | assumption);have q635 : x21_1 < (((rd_T133 l0_0 a1).f1).length : Int):=of_decide_eq_true (by first | (with_reducible assumption) | assumption);obtain ⟨ad635,e635,hx635_0⟩:=Kd.at_int HR634_1.out x21_1 p635 q635;cases e635;replace hx635_0:=(HB.out.cell (World.block_lt_of_cell? w _ hx635_0)).trans hx635_0;replace p635:=eq_true p635;replace q635:=eq_true q635;have hcz20_0 : wr.cell? ⟨gb629,0,none⟩ = some (.slice (some ad634) l0_0.length c0_0):=(blk_cell BK629.out 0).trans rfl;have hfz20_0:=blk_frozen BK629.out 0;go_wp2_with (first | ((with_reducible refine gate_callee (f:=84) rfl ?_);refine goesL_ (some 30) rfl rfl Try.func84 (by kernel_rfl) rfl #[.int .i64 (rd ((rd_T133 l0_0 a1).f1) x21_1),.int .i64 0,.int .i64 (wrap64 ((l0_0.length : Int) - 1))] rfl (by (try simp only [List.map_toArray,List.map_cons,List.map_nil]);first | done | rfl | (simp only [List.length_drop,List.length_take];rfl)) ?_;(with_reducible refine (impl_in.calls (rd ((rd_T133 l0_0 a1).f1) x21_1) 0 (wrap64 ((l0_0.length : Int) - 1)) true _ A16.out).mono ?_);rintro e w' ⟨rfl,⟨nd,rfl⟩⟩;refine ⟨_,rfl,?_⟩;obtain ⟨Ao21,co21,eo21⟩:=Kd.R_slice HO_5.out;subst eo21) | (go_at_call 87;(with_reducible refine (impl_hasInt.calls k1 _ _ x5_1 (rd ((rd_T133 l0_0 a1).f1) x21_1) true _ ?side1 ?side2 A18.out).mono ?_);(case side1=>repeat (first | exact (Kd.R_reads' HO_5.out).2.2 | (with_reducible refine Kd.C_alloc ?_ _) | (with_reducible refine Kd.C_drewN ?_ _) | (with_reducible refine Kd.C_drew ?_)));(case side2=>exact (Kd.R_reads' HO_5.out).2.1);rintro e w' ⟨rfl,⟨nd,rfl⟩⟩));go_roundg k1;case measure=>have:=HK1.out;omega
           case rel=>exact ⟨(x5_1),(wrap64 (x21_1 + 1)),(by first | rfl | (simp;done) | (simp [*];done)),H',⟨by have:=HK1.out;omega⟩,⟨rs HO_5⟩,⟨bs BK629⟩,⟨hs1 HB GE629⟩⟩
          replace c19:=Bool.eq_false_iff.mpr c19;subst c19;have H1 : (if x5_1.length < 17592186044416 then (impl_knotsOf.l0 k1 (x5_1 ++ [rd ((rd_T133 l0_0 a1).f1) x21_1]) ((rd_T133 l0_0 a1).f1) (((rd_T133 l0_0 a1).f1).length : Int) (wrap64 (x21_1 + 1)) l0_0) else (none)) = some r:=by rw [if_neg (show ¬ (false = true) by decide)] at H;exact H
          clear H;have H:=H1;clear H1
          by_cases c22 : x5_1.length < 17592186044416
          ·rw [if_pos c22] at H;have LMc22:=Aside0.mk c22;clear c22;obtain ⟨y638,hy638⟩ : ∃ y_ : List Int,y_ = (x5_1 ++ [rd ((rd_T133 l0_0 a1).f1) x21_1]):=⟨_,rfl⟩;replace H : (impl_knotsOf.l0 k1 y638 ((rd_T133 l0_0 a1).f1) (((rd_T133 l0_0 a1).f1).length : Int) (wrap64 (x21_1 + 1)) l0_0) = some r:=by first | (rw [hy638];with_reducible exact H) | (have H2_:=(Option.bind_some _ _).symm.trans H;rw [hy638];with_reducible exact H2_) | (have H2_:=(Option.bind_some _ _).symm.trans H;with_reducible exact H2_) | with_reducible exact H | (rw [hy638];exact H) | exact H
           have Ny638:=Aside0.mk hy638;clear hy638;have H':=Aside0.mk H;clear H;have p635 : 0 ≤ (x21_1 : Int):=of_decide_eq_true (by first | (with_reducible assumption) | assumption);have q635 : x21_1 < (((rd_T133 l0_0 a1).f1).length : Int):=of_decide_eq_true (by first | (with_reducible assumption) | assumption);obtain ⟨ad635,e635,hx635_0⟩:=Kd.at_int HR634_1.out x21_1 p635 q635;cases e635;replace hx635_0:=(HB.out.cell (World.block_lt_of_cell? w _ hx635_0)).trans hx635_0;replace p635:=eq_true p635;replace q635:=eq_true q635;have hcz23_0 : wr.cell? ⟨gb629,0,none⟩ = some (.slice (some ad634) l0_0.length c0_0):=(blk_cell BK629.out 0).trans rfl;have hfz23_0:=blk_frozen BK629.out 0;go_wp2_with (first | ((with_reducible refine gate_callee (f:=84) rfl ?_);refine goesL_ (some 30) rfl rfl Try.func84 (by kernel_rfl) rfl #[.int .i64 (rd ((rd_T133 l0_0 a1).f1) x21_1),.int .i64 0,.int .i64 (wrap64 ((l0_0.length : Int) - 1))] rfl (by (try simp only [List.map_toArray,List.map_cons,List.map_nil]);first | done | rfl | (simp only [List.length_drop,List.length_take];rfl)) ?_;(with_reducible refine (impl_in.calls (rd ((rd_T133 l0_0 a1).f1) x21_1) 0 (wrap64 ((l0_0.length : Int) - 1)) true _ A16.out).mono ?_);rintro e w' ⟨rfl,⟨nd,rfl⟩⟩;refine ⟨_,rfl,?_⟩;obtain ⟨Ao24,co24,eo24⟩:=Kd.R_slice HO_5.out;subst eo24) | (go_at_call 87;(with_reducible refine (impl_hasInt.calls k1 _ _ x5_1 (rd ((rd_T133 l0_0 a1).f1) x21_1) false _ ?side1 ?side2 A18.out).mono ?_);(case side1=>repeat (first | exact (Kd.R_reads' HO_5.out).2.2 | (with_reducible refine Kd.C_alloc ?_ _) | (with_reducible refine Kd.C_drewN ?_ _) | (with_reducible refine Kd.C_drew ?_)));(case side2=>exact (Kd.R_reads' HO_5.out).2.1);rintro e w' ⟨rfl,⟨nd,rfl⟩⟩) | ((with_reducible refine gate_builtin (b:=.append) (xs:=#[.tmp 37,.tmp 39]) rfl ?_);at_builtin;refine Kd.R_append (Kd.int .i64) (w0:=w) w.heap.size rfl (.tmp 37) (.tmp 39) 26 3 (.int .i64 0) 8 rfl Try.underlying26 info3 rfl (by decide) (by omega) (.slice Ao24 x5_1.length co24) x5_1 (rd ((rd_T133 l0_0 a1).f1) x21_1) [.int .i64 (rd ((rd_T133 l0_0 a1).f1) x21_1)] (fun _=>True) (fun _=>False) rfl rfl ?aP (fun _ hk=>hk.elim) ?aF ?aO ?aB ?aS ?aL ?_;(case aP=>exact rfl);(case aB=>exact (hs1 HB GE629));(case aF=>exact (fun _ _=>trivial));(case aO=>exact (rs HO_5));(case aS=>exact (below_size (hs1 HB GE629)));(case aL=>have:=LMc22.out;omega);intro v639 w25 ho hb hg hat;rw [← Ny638.out] at ho;have n0_:=Aside0.mk (blk_grown (g:=gb629) (o:=.cells #[.slice (some ad634) l0_0.length c0_0] 44 (0,0)) (bs BK629) hg (Kd.R_ne HO_5.out BK629.out (by decide)));have n1_:=Aside0.mk (hb);have n2_:=Aside0.mk (ho);clear BK629;clear HB;clear HO_5;have BK629:=n0_;have HB:=n1_;have HO640:=n2_;clear n0_ n1_ n2_;clear ho hb hg hat));go_roundg k1;case measure=>have:=HK1.out;omega
           case rel=>exact ⟨(y638),(wrap64 (x21_1 + 1)),(by first | rfl | (simp;done) | (simp [*];done)),H',⟨by have:=HK1.out;omega⟩,⟨rs HO640⟩,⟨bs BK629⟩,⟨hs1 HB GE629⟩⟩
          rw [if_neg c22] at H;exact absurd H (by simp)
         replace c17:=Bool.eq_false_iff.mpr c17;subst c17;have H1 : (impl_knotsOf.l0 k1 x5_1 ((rd_T133 l0_0 a1).f1) (((rd_T133 l0_0 a1).f1).length : Int) (wrap64 (x21_1 + 1)) l0_0) = some r:=by rw [if_neg (show ¬ (false = true) by decide)] at H;exact H
         clear H;have H:=H1;clear H1;have H':=Aside0.mk H;clear H;have p635 : 0 ≤ (x21_1 : Int):=of_decide_eq_true (by first | (with_reducible assumption) | assumption);have q635 : x21_1 < (((rd_T133 l0_0 a1).f1).length : Int):=of_decide_eq_true (by first | (with_reducible assumption) | assumption);obtain ⟨ad635,e635,hx635_0⟩:=Kd.at_int HR634_1.out x21_1 p635 q635;cases e635;replace hx635_0:=(HB.out.cell (World.block_lt_of_cell? w _ hx635_0)).trans hx635_0;replace p635:=eq_true p635;replace q635:=eq_true q635;have hcz26_0 : wr.cell? ⟨gb629,0,none⟩ = some (.slice (some ad634) l0_0.length c0_0):=(blk_cell BK629.out 0).trans rfl;have hfz26_0:=blk_frozen BK629.out 0;go_wp2_with (first | ((with_reducible refine gate_callee (f:=84) rfl ?_);refine goesL_ (some 30) rfl rfl Try.func84 (by kernel_rfl) rfl #[.int .i64 (rd ((rd_T133 l0_0 a1).f1) x21_1),.int .i64 0,.int .i64 (wrap64 ((l0_0.length : Int) - 1))] rfl (by (try simp only [List.map_toArray,List.map_cons,List.map_nil]);first | done | rfl | (simp only [List.length_drop,List.length_take];rfl)) ?_;(with_reducible refine (impl_in.calls (rd ((rd_T133 l0_0 a1).f1) x21_1) 0 (wrap64 ((l0_0.length : Int) - 1)) false _ A16.out).mono ?_);rintro e w' ⟨rfl,⟨nd,rfl⟩⟩;refine ⟨_,rfl,?_⟩));go_roundg k1;case measure=>have:=HK1.out;omega
         case rel=>exact ⟨(x5_1),(wrap64 (x21_1 + 1)),(by first | rfl | (simp;done) | (simp [*];done)),H',⟨by have:=HK1.out;omega⟩,⟨rs HO_5⟩,⟨bs BK629⟩,⟨hs1 HB GE629⟩⟩
        rw [if_neg c15] at H;exact absurd H (by simp)
       rw [if_neg c14] at H;exact absurd H (by simp)
      rw [if_neg c13] at H;have c13b0 : decide (x21_1 < (((rd_T133 l0_0 a1).f1).length : Int)) = false:=decide_eq_false c13;clear c13;obtain rfl:=Option.some.inj H
      go_wp2
      go_ret
      exact ⟨_,by first | rfl | (simp [errW_none,errW_some] <;> rfl) | (simp [*,errW_none,errW_some] <;> rfl),rs HO_5,hs1 HB GE629⟩
   rw [if_neg c6] at H;exact absurd H (by simp)
  rw [if_neg c5] at H;exact absurd H (by simp)
 replace c4:=Bool.eq_false_iff.mpr c4;subst c4;have H1 : (some ([] : List Int)) = some r:=by rw [if_neg (show ¬ (false = true) by decide)] at H;exact H
 clear H;have H:=H1;clear H1;obtain rfl:=Option.some.inj H
 go_enter Try.func94,Try.ntmps94
 go_wp2_with (first | ((with_reducible refine gate_dst (N:=2) rfl ?_);refine box_event ?hg (N:=2) ?hd (cs:=#[.slice A0_0 l0_0.length c0_0]) (t:=44) ?hr ?_;(case hd=>rfl);(case hg=>rfl);(case hr=>first | (go_simp;done) | (go_simp;rfl));intro gb629 hg w27 hbox hb;have n0_:=Aside0.mk (below_step (hs HB) hb);have n1_:=Aside0.mk (hbox);have n2_:=Aside0.mk ((by rw [hg];exact (below_size (hs HB)) : w.heap.size ≤ gb629));have n3_:=Aside0.mk ((by rw [hg];exact (below_size (hs HB)) : w.heap.size ≤ gb629));clear HB;have HB:=n0_;have BK629:=n1_;have GW629:=n2_;have GE629:=n3_;clear n0_ n1_ n2_ n3_;clear hb hbox hg;have hcz28_0 : w27.cell? ⟨gb629,0,none⟩ = some (.slice A0_0 l0_0.length c0_0):=(blk_cell BK629.out 0).trans rfl;have hfz28_0:=blk_frozen BK629.out 0) | ((with_reducible refine gate_callee (f:=92) rfl ?_);refine goesL_ (some 10) rfl rfl Try.func92 (by kernel_rfl) rfl #[.agg #[.slice A0_0 l0_0.length c0_0],.int .i64 a1] rfl (by (try simp only [List.map_toArray,List.map_cons,List.map_nil]);first | done | rfl | (simp only [List.length_drop,List.length_take];rfl)) ?_;(with_reducible refine (impl_isRoot.calls _ _ l0_0 a1 false _ ?side1 ?side2 A3.out).mono ?_);(case side1=>repeat (first | exact (Kd.C_below HR0_0.out HB.out) | (with_reducible refine Kd.C_alloc ?_ _) | (with_reducible refine Kd.C_drewN ?_ _) | (with_reducible refine Kd.C_drew ?_)));(case side2=>exact HC0_0.out);rintro e w29 ⟨rfl,hb⟩;refine ⟨_,rfl,?_⟩;have n0_:=Aside0.mk (blk_below (g:=gb629) (o:=.cells #[.slice A0_0 l0_0.length c0_0] 44 (0,0)) (bs BK629) hb);have n1_:=Aside0.mk (below_step (hs1 HB GE629) hb);clear BK629;clear HB;have BK629:=n0_;have HB:=n1_;clear n0_ n1_;(try clear hb);(try clear hb2);(try clear hk);(try clear hi)))
 go_ret
 exact ⟨_,by first | rfl | (simp [errW_none,errW_some] <;> rfl) | (simp [*,errW_none,errW_some] <;> rfl),by first | exact Kd.R_nil _ _ _ _ _ | exact Kd.N_nil _ _ _ _ _ | exact Kd.V_nil _ _ _ _ _ | exact Kd.Q_nil _ _ _ _ _ | exact Kd.S_nil _ _ _ _ _,hs1 HB GE629⟩
end Go.Proofs.Ytdolplcbokioaaa.PB

namespace Go.Proofs.Ytdolplcbokioaaa.PB
open Go.RowKit Go.Proofs.YtdolplcbokioaaaW.PrintWords Go.Proofs.YtdolplcbokioaaaW.PrintLast Go.Proofs.YtdolplcbokioaaaW.PrintMore
attribute [local go_sem] max2_int min2_int max_two min_two max_three min_three max_four min_four   -- for this text's walks alone
set_option linter.unusedVariables false
set_option linter.unusedSimpArgs false
mutual
def impl_SweepArena.l0 : Nat → List Int → List Int → List Int → List Int → Int → Int → List (S133) → Option ((List (S133)) × List Int)
 | 0,_,_,_,_,_,_,_=>none
 | k + 1,x1,x6,x7,x21,x22,x23,x642000=>if x23 < x22 then (if 0 ≤ x23 then (if x23 < (x21.length : Int) then (if (rd x21 x23) = (-1) then (impl_SweepArena.j1 k x1 x6 x7 (rd x21 x23) x21 x22 x23 false x642000) else ((impl_isRoot.f x642000 (rd x21 x23)).bind fun t647=>(impl_SweepArena.j1 k x1 x6 x7 (rd x21 x23) x21 x22 x23 (!t647) x642000))) else (none)) else (none)) else ((impl_ArenaOk.f k x642000).bind fun t657=>(if t657 = true then (if 0 ≤ (x642000.length : Int) then (if ((x642000.length : Int) : Int).toNat ≤ 35184372088832 then (impl_SweepArena.l1 k x1 x6 x7 (List.replicate ((x642000.length : Int) : Int).toNat 0) x642000 (x642000.length : Int) 0 ([] : List (S133))) else (none)) else (none)) else ((impl_copyArena.f k x642000).bind fun t658=>(some (t658,x6)))))
def impl_SweepArena.j1 : Nat → List Int → List Int → List Int → Int → List Int → Int → Int → Bool → List (S133) → Option ((List (S133)) × List Int)
 | 0,_,_,_,_,_,_,_,_,_=>none
 | k + 1,x1,x6,x7,x9,x21,x22,x23,x34,x642000=>if x34 = true then ((impl_copyArena.f k x642000).bind fun t648=>(some (t648,x6))) else ((impl_knotsOf.f k x642000 x9).bind fun t651=>(if x7.length + t651.length < 17592186044416 then (impl_SweepArena.l0 k x1 x6 (x7 ++ t651) x21 x22 (wrap64 (x23 + 1)) x642000) else (none)))
def impl_SweepArena.l1 : Nat → List Int → List Int → List Int → List Int → List (S133) → Int → Int → List (S133) → Option ((List (S133)) × List Int)
 | 0,_,_,_,_,_,_,_,_=>none
 | k + 1,x1,x6,x7,x11,x55,x56,x57,x662000=>if x57 < x56 then (if 0 ≤ x57 then (if x57 < (x55.length : Int) then ((impl_hasInt.f k x7 x57).bind fun t667=>(if t667 = true then (if x57 < (x11.length : Int) then ((impl_copyInts.f ((rd_T133 x55 x57).f1)).bind fun t669=>(impl_SweepArena.l2 k x1 x6 x7 (x11.set (x57 : Int).toNat (x662000.length : Int)) x55 x56 x57 ((rd_T133 x55 x57).f1) (((rd_T133 x55 x57).f1).length : Int) 0 x662000 ((rd_T133 x55 x57).f0) ((rd_T133 x55 x57).f1) ((rd_T133 x55 x57).f0) t669)) else (none)) else (impl_SweepArena.l1 k x1 x6 x7 x11 x55 x56 (wrap64 (x57 + 1)) x662000))) else (none)) else (none)) else (impl_SweepArena.l3 k x6 x11 x1 (x1.length : Int) 0 x662000)
def impl_SweepArena.l2 : Nat → List Int → List Int → List Int → List Int → List (S133) → Int → Int → List Int → Int → Int → List (S133) → Bool → List Int → Bool → List Int → Option ((List (S133)) × List Int)
 | 0,_,_,_,_,_,_,_,_,_,_,_,_,_,_,_=>none
 | k + 1,x1,x6,x7,x11,x55,x56,x57,x79,x80,x81,x662000,x667000,x667001,x673000,x673001=>if x81 < x80 then (if 0 ≤ x81 then (if x81 < (x79.length : Int) then (if x667000 = true then (impl_SweepArena.l2 k x1 x6 x7 x11 x55 x56 x57 x79 x80 (wrap64 (x81 + 1)) x662000 x667000 x667001 x673000 x673001) else (if (rd x79 x81) ≥ 0 then (if 0 ≤ (rd x79 x81) then (if (rd x79 x81) < (x11.length : Int) then (if x81 < (x673001.length : Int) then (impl_SweepArena.l2 k x1 x6 x7 x11 x55 x56 x57 x79 x80 (wrap64 (x81 + 1)) x662000 x667000 x667001 x673000 (x673001.set (x81 : Int).toNat (rd x11 (rd x79 x81)))) else (none)) else (none)) else (none)) else (impl_SweepArena.l2 k x1 x6 x7 x11 x55 x56 x57 x79 x80 (wrap64 (x81 + 1)) x662000 x667000 x667001 x673000 x673001))) else (none)) else (none)) else (if x662000.length < 4398046511104 then (impl_SweepArena.l1 k x1 x6 x7 x11 x55 x56 (wrap64 (x57 + 1)) (x662000 ++ [(⟨x673000,x673001⟩ : S133)])) else (none))
def impl_SweepArena.l3 : Nat → List Int → List Int → List Int → Int → Int → List (S133) → Option ((List (S133)) × List Int)
 | 0,_,_,_,_,_,_=>none
 | k + 1,x6,x11,x109,x110,x111,x662000=>if x111 < x110 then (if 0 ≤ x111 then (if x111 < (x109.length : Int) then (if (rd x109 x111) ≥ 0 then (if 0 ≤ (rd x109 x111) then (if (rd x109 x111) < (x11.length : Int) then (if x111 < (x6.length : Int) then (impl_SweepArena.l3 k (x6.set (x111 : Int).toNat (rd x11 (rd x109 x111))) x11 x109 x110 (wrap64 (x111 + 1)) x662000) else (none)) else (none)) else (none)) else (impl_SweepArena.l3 k x6 x11 x109 x110 (wrap64 (x111 + 1)) x662000)) else (none)) else (none)) else (some (x662000,x6))
end
def impl_SweepArena.f (k : Nat) (l0_0 : List (S133)) (l1 : List Int) : Option ((List (S133)) × List Int):=(impl_copyInts.f l1).bind fun t643=>(impl_SweepArena.l0 k l1 t643 ([] : List Int) l1 (l1.length : Int) 0 l0_0)
theorem impl_SweepArena.mono_l : ∀ k,(∀ y0 y1 y2 y3 y4 y5 y6,LeO (impl_SweepArena.l0 k y0 y1 y2 y3 y4 y5 y6) (impl_SweepArena.l0 (k + 1) y0 y1 y2 y3 y4 y5 y6)) ∧ (∀ y0 y1 y2 y3 y4 y5 y6 y7 y8,LeO (impl_SweepArena.j1 k y0 y1 y2 y3 y4 y5 y6 y7 y8) (impl_SweepArena.j1 (k + 1) y0 y1 y2 y3 y4 y5 y6 y7 y8)) ∧ (∀ y0 y1 y2 y3 y4 y5 y6 y7,LeO (impl_SweepArena.l1 k y0 y1 y2 y3 y4 y5 y6 y7) (impl_SweepArena.l1 (k + 1) y0 y1 y2 y3 y4 y5 y6 y7)) ∧ (∀ y0 y1 y2 y3 y4 y5 y6 y7 y8 y9 y10 y11 y12 y13 y14,LeO (impl_SweepArena.l2 k y0 y1 y2 y3 y4 y5 y6 y7 y8 y9 y10 y11 y12 y13 y14) (impl_SweepArena.l2 (k + 1) y0 y1 y2 y3 y4 y5 y6 y7 y8 y9 y10 y11 y12 y13 y14)) ∧ (∀ y0 y1 y2 y3 y4 y5,LeO (impl_SweepArena.l3 k y0 y1 y2 y3 y4 y5) (impl_SweepArena.l3 (k + 1) y0 y1 y2 y3 y4 y5))
 | 0=>⟨fun _ _ _ _ _ _ _ r h=>by simp [impl_SweepArena.l0] at h,fun _ _ _ _ _ _ _ _ _ r h=>by simp [impl_SweepArena.j1] at h,fun _ _ _ _ _ _ _ _ r h=>by simp [impl_SweepArena.l1] at h,fun _ _ _ _ _ _ _ _ _ _ _ _ _ _ _ r h=>by simp [impl_SweepArena.l2] at h,fun _ _ _ _ _ _ r h=>by simp [impl_SweepArena.l3] at h⟩
 | k + 1=>by
  obtain ⟨ih0,ih1,ih2,ih3,ih4⟩:=impl_SweepArena.mono_l k;refine ⟨?_,?_,?_,?_,?_⟩
  ·intro y0 y1 y2 y3 y4 y5 y6;unfold impl_SweepArena.l0
   repeat' first
   | (with_reducible exact ih0 _ _ _ _ _ _ _)
   | (with_reducible exact ih1 _ _ _ _ _ _ _ _ _)
   | (with_reducible exact ih2 _ _ _ _ _ _ _ _)
   | (with_reducible exact ih3 _ _ _ _ _ _ _ _ _ _ _ _ _ _ _)
   | (with_reducible exact ih4 _ _ _ _ _ _)
   | (with_reducible exact impl_ArenaOk.mono _ _)
   | (with_reducible exact impl_copyArena.mono _ _)
   | (with_reducible exact impl_hasInt.mono _ _ _)
   | (with_reducible exact impl_knotsOf.mono _ _ _)
   | (with_reducible exact LeO.refl _)
   | (with_reducible exact LeO.none _)
   | (with_reducible refine LeO.ite ?_ ?_)
   | (with_reducible refine LeO.bind ?_ (fun _=>?_))
   | exact ih0 _ _ _ _ _ _ _
   | exact ih1 _ _ _ _ _ _ _ _ _
   | exact ih2 _ _ _ _ _ _ _ _
   | exact ih3 _ _ _ _ _ _ _ _ _ _ _ _ _ _ _
   | exact ih4 _ _ _ _ _ _
   | exact impl_ArenaOk.mono _ _
   | exact impl_copyArena.mono _ _
   | exact impl_hasInt.mono _ _ _
   | exact impl_knotsOf.mono _ _ _
   | exact LeO.none _
   | refine LeO.ite ?_ ?_
   | refine LeO.bind ?_ (fun _=>?_)
  ·intro y0 y1 y2 y3 y4 y5 y6 y7 y8;unfold impl_SweepArena.j1
   repeat' first
   | (with_reducible exact ih0 _ _ _ _ _ _ _)
   | (with_reducible exact ih1 _ _ _ _ _ _ _ _ _)
   | (with_reducible exact ih2 _ _ _ _ _ _ _ _)
   | (with_reducible exact ih3 _ _ _ _ _ _ _ _ _ _ _ _ _ _ _)
   | (with_reducible exact ih4 _ _ _ _ _ _)
   | (with_reducible exact impl_ArenaOk.mono _ _)
   | (with_reducible exact impl_copyArena.mono _ _)
   | (with_reducible exact impl_hasInt.mono _ _ _)
   | (with_reducible exact impl_knotsOf.mono _ _ _)
   | (with_reducible exact LeO.refl _)
   | (with_reducible exact LeO.none _)
   | (with_reducible refine LeO.ite ?_ ?_)
   | (with_reducible refine LeO.bind ?_ (fun _=>?_))
   | exact ih0 _ _ _ _ _ _ _
   | exact ih1 _ _ _ _ _ _ _ _ _
   | exact ih2 _ _ _ _ _ _ _ _
   | exact ih3 _ _ _ _ _ _ _ _ _ _ _ _ _ _ _
   | exact ih4 _ _ _ _ _ _
   | exact impl_ArenaOk.mono _ _
   | exact impl_copyArena.mono _ _
   | exact impl_hasInt.mono _ _ _
   | exact impl_knotsOf.mono _ _ _
   | exact LeO.none _
   | refine LeO.ite ?_ ?_
   | refine LeO.bind ?_ (fun _=>?_)
  ·intro y0 y1 y2 y3 y4 y5 y6 y7;unfold impl_SweepArena.l1
   repeat' first
   | (with_reducible exact ih0 _ _ _ _ _ _ _)
   | (with_reducible exact ih1 _ _ _ _ _ _ _ _ _)
   | (with_reducible exact ih2 _ _ _ _ _ _ _ _)
   | (with_reducible exact ih3 _ _ _ _ _ _ _ _ _ _ _ _ _ _ _)
   | (with_reducible exact ih4 _ _ _ _ _ _)
   | (with_reducible exact impl_ArenaOk.mono _ _)
   | (with_reducible exact impl_copyArena.mono _ _)
   | (with_reducible exact impl_hasInt.mono _ _ _)
   | (with_reducible exact impl_knotsOf.mono _ _ _)
   | (with_reducible exact LeO.refl _)
   | (with_reducible exact LeO.none _)
   | (with_reducible refine LeO.ite ?_ ?_)
   | (with_reducible refine LeO.bind ?_ (fun _=>?_))
   | exact ih0 _ _ _ _ _ _ _
   | exact ih1 _ _ _ _ _ _ _ _ _
   | exact ih2 _ _ _ _ _ _ _ _
   | exact ih3 _ _ _ _ _ _ _ _ _ _ _ _ _ _ _
   | exact ih4 _ _ _ _ _ _
   | exact impl_ArenaOk.mono _ _
   | exact impl_copyArena.mono _ _
   | exact impl_hasInt.mono _ _ _
   | exact impl_knotsOf.mono _ _ _
   | exact LeO.none _
   | refine LeO.ite ?_ ?_
   | refine LeO.bind ?_ (fun _=>?_)
  ·intro y0 y1 y2 y3 y4 y5 y6 y7 y8 y9 y10 y11 y12 y13 y14;unfold impl_SweepArena.l2
   repeat' first
   | (with_reducible exact ih0 _ _ _ _ _ _ _)
   | (with_reducible exact ih1 _ _ _ _ _ _ _ _ _)
   | (with_reducible exact ih2 _ _ _ _ _ _ _ _)
   | (with_reducible exact ih3 _ _ _ _ _ _ _ _ _ _ _ _ _ _ _)
   | (with_reducible exact ih4 _ _ _ _ _ _)
   | (with_reducible exact impl_ArenaOk.mono _ _)
   | (with_reducible exact impl_copyArena.mono _ _)
   | (with_reducible exact impl_hasInt.mono _ _ _)
   | (with_reducible exact impl_knotsOf.mono _ _ _)
   | (with_reducible exact LeO.refl _)
   | (with_reducible exact LeO.none _)
   | (with_reducible refine LeO.ite ?_ ?_)
   | (with_reducible refine LeO.bind ?_ (fun _=>?_))
   | exact ih0 _ _ _ _ _ _ _
   | exact ih1 _ _ _ _ _ _ _ _ _
   | exact ih2 _ _ _ _ _ _ _ _
   | exact ih3 _ _ _ _ _ _ _ _ _ _ _ _ _ _ _
   | exact ih4 _ _ _ _ _ _
   | exact impl_ArenaOk.mono _ _
   | exact impl_copyArena.mono _ _
   | exact impl_hasInt.mono _ _ _
   | exact impl_knotsOf.mono _ _ _
   | exact LeO.none _
   | refine LeO.ite ?_ ?_
   | refine LeO.bind ?_ (fun _=>?_)
  intro y0 y1 y2 y3 y4 y5;unfold impl_SweepArena.l3
  repeat' first
  | (with_reducible exact ih0 _ _ _ _ _ _ _)
  | (with_reducible exact ih1 _ _ _ _ _ _ _ _ _)
  | (with_reducible exact ih2 _ _ _ _ _ _ _ _)
  | (with_reducible exact ih3 _ _ _ _ _ _ _ _ _ _ _ _ _ _ _)
  | (with_reducible exact ih4 _ _ _ _ _ _)
  | (with_reducible exact impl_ArenaOk.mono _ _)
  | (with_reducible exact impl_copyArena.mono _ _)
  | (with_reducible exact impl_hasInt.mono _ _ _)
  | (with_reducible exact impl_knotsOf.mono _ _ _)
  | (with_reducible exact LeO.refl _)
  | (with_reducible exact LeO.none _)
  | (with_reducible refine LeO.ite ?_ ?_)
  | (with_reducible refine LeO.bind ?_ (fun _=>?_))
  | exact ih0 _ _ _ _ _ _ _
  | exact ih1 _ _ _ _ _ _ _ _ _
  | exact ih2 _ _ _ _ _ _ _ _
  | exact ih3 _ _ _ _ _ _ _ _ _ _ _ _ _ _ _
  | exact ih4 _ _ _ _ _ _
  | exact impl_ArenaOk.mono _ _
  | exact impl_copyArena.mono _ _
  | exact impl_hasInt.mono _ _ _
  | exact impl_knotsOf.mono _ _ _
  | exact LeO.none _
  | refine LeO.ite ?_ ?_
  | refine LeO.bind ?_ (fun _=>?_)
theorem impl_SweepArena.mono : ∀ a0 a1 k,LeO (impl_SweepArena.f k a0 a1) (impl_SweepArena.f (k + 1) a0 a1):=by
 intro a0 a1 k;obtain ⟨ih0,ih1,ih2,ih3,ih4⟩:=impl_SweepArena.mono_l k;unfold impl_SweepArena.f
 repeat' first
   | (with_reducible exact ih0 _ _ _ _ _ _ _)
   | (with_reducible exact ih1 _ _ _ _ _ _ _ _ _)
   | (with_reducible exact ih2 _ _ _ _ _ _ _ _)
   | (with_reducible exact ih3 _ _ _ _ _ _ _ _ _ _ _ _ _ _ _)
   | (with_reducible exact ih4 _ _ _ _ _ _)
   | (with_reducible exact impl_ArenaOk.mono _ _)
   | (with_reducible exact impl_copyArena.mono _ _)
   | (with_reducible exact impl_hasInt.mono _ _ _)
   | (with_reducible exact impl_knotsOf.mono _ _ _)
   | (with_reducible exact LeO.refl _)
   | (with_reducible exact LeO.none _)
   | (with_reducible refine LeO.ite ?_ ?_)
   | (with_reducible refine LeO.bind ?_ (fun _=>?_))
   | exact ih0 _ _ _ _ _ _ _
   | exact ih1 _ _ _ _ _ _ _ _ _
   | exact ih2 _ _ _ _ _ _ _ _
   | exact ih3 _ _ _ _ _ _ _ _ _ _ _ _ _ _ _
   | exact ih4 _ _ _ _ _ _
   | exact impl_ArenaOk.mono _ _
   | exact impl_copyArena.mono _ _
   | exact impl_hasInt.mono _ _ _
   | exact impl_knotsOf.mono _ _ _
   | exact LeO.none _
   | refine LeO.ite ?_ ?_
   | refine LeO.bind ?_ (fun _=>?_)
def impl_SweepArena.T19 : Bool × List (List Nat × List Nat):=(true,[([],[]),([0],[0]),([],[]),([2],[2]),([3],[3]),([1,4],[1,4]),([],[]),([6,5,4,0,1,2,3,4,5,6],[5,6])])
def impl_SweepArena.B19 : List Nat:=[0,1,0,4,12,31,0,127]
theorem impl_SweepArena.tab19 : rtab .any (opsOf Try.f24 19) = impl_SweepArena.T19:=by kernel_rfl
theorem impl_SweepArena.bits19 : waitsOk impl_SweepArena.T19.2 impl_SweepArena.B19 = true:=by kernel_rfl
def impl_SweepArena.T24 : Bool × List (List Nat × List Nat):=(true,[([],[]),([0],[0]),([],[]),([],[]),([],[]),([3,4],[3,4]),([5],[5]),([1,2,0,1,2,3,4,5,6],[1,2]),([7,6,0,1,2,3,4,5,6],[6,7])])
def impl_SweepArena.B24 : List Nat:=[0,1,0,0,0,24,56,127,255]
theorem impl_SweepArena.tab24 : rtab .any (opsOf Try.f24 24) = impl_SweepArena.T24:=by kernel_rfl
theorem impl_SweepArena.bits24 : waitsOk impl_SweepArena.T24.2 impl_SweepArena.B24 = true:=by kernel_rfl
set_option maxHeartbeats 8000000 in
set_option maxRecDepth 100000 in
theorem impl_SweepArena.calls (k : Nat) (A0_0 : Option Addr) (c0_0 : Nat) (l0_0 : List (S133)) (A1 : Option Addr) (c1 : Nat) (l1 : List Int) (r1 : List (S133)) (r2 : List Int) (w : World) (hr0_0 : Kd.C k133 w A0_0 l0_0.length l0_0) (hc0_0 : l0_0.length ≤ c0_0) (hr1 : Kd.C (Kd.int .i64) w A1 l1.length l1) (hc1 : l1.length ≤ c1) (h : impl_SweepArena.f k l0_0 l1 = some (r1,r2)) :
  Calls Try.prog 24 #[.agg #[.slice A0_0 l0_0.length c0_0],.slice A1 l1.length c1] w fun e w'=>∃ v0_ v1_ : Value,e = .returned (.tuple #[.agg #[v0_],v1_]) ∧ Kd.S k133 133 w' w.heap.size (fun k_=>some k_ ≠ (v1_ : Value).ownBlock) v0_ r1 ∧ Kd.R (Kd.int .i64) 3 w' w.heap.size (fun _=>True) v1_ r2 ∧ Below w.heap.size w w':=by
 have hu44:=Try.underlying44;have hu133:=Try.underlying133;have HR0_0:=Aside0.mk hr0_0;have HC0_0:=Aside0.mk hc0_0;clear hr0_0 hc0_0;have HR1:=Aside0.mk hr1;have HC1:=Aside0.mk hc1;clear hr1 hc1;have HB:=Aside0.mk (Below.refl w.heap.size w);have H : ((impl_copyInts.f l1).bind fun t643=>(impl_SweepArena.l0 k l1 t643 ([] : List Int) l1 (l1.length : Int) 0 l0_0)) = some (r1,r2):=h;clear h;replace H:=Option.bind_eq_some_iff.mp H;obtain ⟨t643,A30,H⟩:=H;replace H : (impl_SweepArena.l0 k l1 t643 ([] : List Int) l1 (l1.length : Int) 0 l0_0) = some (r1,r2):=H;have A3:=Aside0.mk A30;clear A30;have H':=Aside0.mk H;clear H
 go_enter Try.func24,Try.ntmps24
 go_wp2_with (first | ((with_reducible refine gate_dst (N:=2) rfl ?_);refine box_event ?hg (N:=2) ?hd (cs:=#[.slice A0_0 l0_0.length c0_0]) (t:=44) ?hr ?_;(case hd=>rfl);(case hg=>rfl);(case hr=>first | (go_simp;done) | (go_simp;rfl));intro gb641 hg w4 hbox hb;have n0_:=Aside0.mk (below_step (hs HB) hb);have n1_:=Aside0.mk (hbox);have n2_:=Aside0.mk ((by rw [hg];exact (below_size (hs HB)) : w.heap.size ≤ gb641));have n3_:=Aside0.mk ((by rw [hg];exact (below_size (hs HB)) : w.heap.size ≤ gb641));clear HB;have HB:=n0_;have BK641:=n1_;have GW641:=n2_;have GE641:=n3_;clear n0_ n1_ n2_ n3_;clear hb hbox hg) | ((with_reducible refine gate_dst (N:=4) rfl ?_);refine box_event ?hg (N:=4) ?hd (cs:=#[.slice none 0 0]) (t:=44) ?hr ?_;(case hd=>rfl);(case hg=>rfl);(case hr=>first | (go_simp;done) | (go_simp;rfl));intro gb642 hg w5 hbox hb;have n0_:=Aside0.mk (blk_below (g:=gb641) (o:=.cells #[.slice A0_0 l0_0.length c0_0] 44 (0,0)) (bs BK641) hb);have n1_:=Aside0.mk (below_step (hs1 HB GE641) hb);have n2_:=Aside0.mk (hbox);have n3_:=Aside0.mk ((by rw [hg];exact (below_size (hs1 HB GE641)) : w.heap.size ≤ gb642));have n4_:=Aside0.mk ((by rw [hg];exact (below_size (hs1 HB GE641)) : w.heap.size ≤ gb642));have n5_:=Aside0.mk ((by rw [hg];exact Nat.ne_of_lt (blk_lt (g:=gb641) (o:=.cells #[.slice A0_0 l0_0.length c0_0] 44 (0,0)) (bs BK641)) : gb641 ≠ gb642));have n6_:=Aside0.mk ((by rw [hg];exact Nat.ne_of_gt (blk_lt (g:=gb641) (o:=.cells #[.slice A0_0 l0_0.length c0_0] 44 (0,0)) (bs BK641)) : gb642 ≠ gb641));clear BK641;clear HB;have BK641:=n0_;have HB:=n1_;have BK642:=n2_;have GW642:=n3_;have GE642:=n4_;have NB641_642:=n5_;have NB642_641:=n6_;clear n0_ n1_ n2_ n3_ n4_ n5_ n6_;clear hb hbox hg) | ((with_reducible refine gate_callee (f:=91) rfl ?_);refine goesL_ (some 20) rfl rfl Try.func91 (by kernel_rfl) rfl #[.slice A1 l1.length c1] rfl (by (try simp only [List.map_toArray,List.map_cons,List.map_nil]);first | done | rfl | (simp only [List.length_drop,List.length_take];rfl)) ?_;(with_reducible refine (impl_copyInts.calls _ _ l1 t643 _ ?side1 ?side2 A3.out).mono ?_);(case side1=>repeat (first | exact (Kd.C_below HR1.out HB.out) | (with_reducible refine Kd.C_alloc ?_ _) | (with_reducible refine Kd.C_drewN ?_ _) | (with_reducible refine Kd.C_drew ?_)));(case side2=>exact HC1.out);rintro e w6 ⟨v644,rfl,ho0,hb⟩;refine ⟨_,rfl,?_⟩;have n0_:=Aside0.mk (Kd.R_lower ho0 (below_size (hs2 HB GE641 GE642)));have n1_:=Aside0.mk (blk_below (g:=gb641) (o:=.cells #[.slice A0_0 l0_0.length c0_0] 44 (0,0)) (bs BK641) hb);have n2_:=Aside0.mk (blk_below (g:=gb642) (o:=.cells #[.slice none 0 0] 44 (0,0)) (bs BK642) hb);have n3_:=Aside0.mk (below_step (hs2 HB GE641 GE642) hb);clear BK641;clear BK642;clear HB;have HO645:=n0_;have BK641:=n1_;have BK642:=n2_;have HB:=n3_;clear n0_ n1_ n2_ n3_;(try clear hb);(try clear hb2);(try clear hk);(try clear hi);(try clear ho0)));go_loopg [7,23] k (fun kq v7 v23 w'=>∃ (x7_1 : List Int) (x23_1 : Int),v23 = .int .i64 x23_1 ∧ Aside0 (impl_SweepArena.l0 kq l1 t643 x7_1 l1 (l1.length : Int) x23_1 l0_0 = some (r1,r2)) ∧ Aside0 (kq ≤ k) ∧ Aside0 (Kd.R (Kd.int .i64) 3 w' w.heap.size (fun k_=>some k_ ≠ (v7 : Value).ownBlock) v644 t643) ∧ Aside0 (Kd.R (Kd.int .i64) 3 w' w.heap.size (fun k_=>some k_ ≠ (v644 : Value).ownBlock) v7 x7_1) ∧ Aside0 (w'.heap[gb641]? = some (.cells #[(.slice A0_0 l0_0.length c0_0)] 44 (0,0))) ∧ Aside0 (w'.heap[gb642]? = some (.cells #[(.slice none 0 0)] 44 (0,0))) ∧ Aside0 (Below w.heap.size w w'));case atStart=>exact ⟨(([] : List Int)),(0),(by first | rfl | (simp;done) | (simp [*];done)),H',⟨Nat.le_refl _⟩,⟨by (with_reducible repeat (first | apply Kd.R_alloc | apply Kd.R_drewN | apply Kd.R_drew));exact Kd.R_mono HO645.out (fun _ hk=>(by simp [Value.ownBlock]))⟩,⟨by first | exact Kd.R_nil _ _ _ _ _ | exact Kd.N_nil _ _ _ _ _ | exact Kd.V_nil _ _ _ _ _ | exact Kd.Q_nil _ _ _ _ _ | exact Kd.S_nil _ _ _ _ _⟩,⟨bs BK641⟩,⟨bs BK642⟩,⟨hs2 HB GE641 GE642⟩⟩
 case round =>
  clear H'
  try clear c1
  try clear c2
  try clear p2
  obtain ⟨x7_1,x23_1,rfl,HA,HK1,HO_6,HO_7,BK641,BK642,HB⟩:=hrel;cases gk with
  | zero=>exact absurd HA.out (by simp [impl_SweepArena.l0])
  | succ k1 =>
   have H:=HA.out;clear HA;simp only [impl_SweepArena.l0] at H
   by_cases c7 : x23_1 < (l1.length : Int)
   ·rw [if_pos c7] at H;have c7b0 : decide (x23_1 < (l1.length : Int)) = true:=decide_eq_true c7;clear c7
    by_cases c8 : 0 ≤ x23_1
    ·rw [if_pos c8] at H;have c8b0 : decide (0 ≤ x23_1) = true:=decide_eq_true c8;clear c8
     by_cases c9 : x23_1 < (l1.length : Int)
     ·rw [if_pos c9] at H;have c9b0 : decide (x23_1 < (l1.length : Int)) = true:=decide_eq_true c9;clear c9;have HC10:=Aside0.mk H;clear H;have p646 : 0 ≤ (x23_1 : Int):=of_decide_eq_true (by first | (with_reducible assumption) | assumption);have q646 : x23_1 < (l1.length : Int):=of_decide_eq_true (by first | (with_reducible assumption) | assumption);obtain ⟨ad646,e646,hx646_0⟩:=Kd.at_int HR1.out x23_1 p646 q646;cases e646;replace hx646_0:=(HB.out.cell (World.block_lt_of_cell? w _ hx646_0)).trans hx646_0;replace p646:=eq_true p646;replace q646:=eq_true q646;go_upto_region 6 with (fail);go_cut [34] (fun v34 wc=>∃ (kq : Nat) (x34_9 : Bool),v34 = .bool x34_9 ∧ Aside0 (impl_SweepArena.j1 kq l1 t643 x7_1 (rd l1 x23_1) l1 (l1.length : Int) x23_1 x34_9 l0_0 = some (r1,r2)) ∧ Aside0 (kq ≤ k1) ∧ Aside0 (Kd.R (Kd.int .i64) 3 wc w.heap.size (fun k_=>some k_ ≠ (u7 : Value).ownBlock) v644 t643) ∧ Aside0 (Kd.R (Kd.int .i64) 3 wc w.heap.size (fun k_=>some k_ ≠ (v644 : Value).ownBlock) u7 x7_1) ∧ Aside0 (wc.heap[gb641]? = some (.cells #[(.slice A0_0 l0_0.length c0_0)] 44 (0,0))) ∧ Aside0 (wc.heap[gb642]? = some (.cells #[(.slice none 0 0)] 44 (0,0))) ∧ Aside0 (Below w.heap.size w wc))
      case first =>
       have H:=HC10.out;clear HC10
       by_cases c11 : (rd l1 x23_1) = (-1)
       ·rw [if_pos c11] at H;have c11b0 : ((rd l1 x23_1) == (-1)) = true:=beq_iff_eq.mpr c11;have c11b1 : ((rd l1 x23_1) != (-1)) = false:=bne_eq_false_iff_eq.mpr c11;clear c11
        (first | rw [c11b0] | (simp only [i64_w,i32_w];rw [c11b0]) | skip)
        have H':=Aside0.mk H;clear H
        go_wp2
        go_meet
        case rel=>exact ⟨_,(false),(by first | rfl | (simp;done) | (simp [*];done)),H',⟨by have:=HK1.out;first | omega | exact Nat.le_refl _⟩,⟨rs HO_6⟩,⟨rs HO_7⟩,⟨bs BK641⟩,⟨bs BK642⟩,⟨hs2 HB GE641 GE642⟩⟩
       rw [if_neg c11] at H;have c11b0 : ((rd l1 x23_1) == (-1)) = false:=beq_eq_false_iff_ne.mpr c11;have c11b1 : ((rd l1 x23_1) != (-1)) = true:=bne_iff_ne.mpr c11
       (first | rw [c11b0] | (simp only [i64_w,i32_w];rw [c11b0]) | skip)
       replace H:=Option.bind_eq_some_iff.mp H;obtain ⟨t647,A120,H⟩:=H;replace H : (impl_SweepArena.j1 k1 l1 t643 x7_1 (rd l1 x23_1) l1 (l1.length : Int) x23_1 (!t647) l0_0) = some (r1,r2):=H;have A12:=Aside0.mk A120;clear A120;have H':=Aside0.mk H;clear H;have hnb13:=NB641_642.out;have hnc13:=NB642_641.out;have hcz14_0 : wr.cell? ⟨gb641,0,none⟩ = some (.slice A0_0 l0_0.length c0_0):=(blk_cell BK641.out 0).trans rfl;have hfz14_0:=blk_frozen BK641.out 0;go_wp2_with (first | (go_at_call 92;(with_reducible refine (impl_isRoot.calls _ _ l0_0 (rd l1 x23_1) t647 _ ?side1 ?side2 A12.out).mono ?_);(case side1=>repeat (first | exact (Kd.C_below HR0_0.out HB.out) | (with_reducible refine Kd.C_alloc ?_ _) | (with_reducible refine Kd.C_drewN ?_ _) | (with_reducible refine Kd.C_drew ?_)));(case side2=>exact HC0_0.out);rintro e w15 ⟨rfl,hb⟩;have n0_:=Aside0.mk (Kd.R_below (rs HO_6) hb);have n1_:=Aside0.mk (Kd.R_below (rs HO_7) hb);have n2_:=Aside0.mk (blk_below (g:=gb641) (o:=.cells #[.slice A0_0 l0_0.length c0_0] 44 (0,0)) (bs BK641) hb);have n3_:=Aside0.mk (blk_below (g:=gb642) (o:=.cells #[.slice none 0 0] 44 (0,0)) (bs BK642) hb);have n4_:=Aside0.mk (below_step (hs2 HB GE641 GE642) hb);clear HO_6;clear HO_7;clear BK641;clear BK642;clear HB;have HO_6:=n0_;have HO_7:=n1_;have BK641:=n2_;have BK642:=n3_;have HB:=n4_;clear n0_ n1_ n2_ n3_ n4_;(try clear hb);(try clear hb2);(try clear hk);(try clear hi)))
       go_meet
       case rel=>exact ⟨_,(!t647),(by first | rfl | (simp;done) | (simp [*];done)),H',⟨by have:=HK1.out;first | omega | exact Nat.le_refl _⟩,⟨rs HO_6⟩,⟨rs HO_7⟩,⟨bs BK641⟩,⟨bs BK642⟩,⟨hs2 HB GE641 GE642⟩⟩
      case rest =>
       clear HC10
       try clear c1
       try clear c2
       try clear p2
       try clear p6
       try clear q6
       try clear hx6
       try clear c7
       try clear c7b0
       try clear c8
       try clear c8b0
       try clear c9
       try clear c9b0
       try clear c11
       try clear c11b0
       try clear c11b1
       try clear c13
       try clear hcz14_0
       try clear hfz14_0
       try clear hx646_0
       try clear p2
       try clear p646
       try clear q646
       obtain ⟨kq,x34_9,rfl,HA,HJ9,HO_6,HO_7,BK641,BK642,HB⟩:=hcut;cases kq with
       | zero=>exact absurd HA.out (by simp [impl_SweepArena.j1])
       | succ kj9 =>
        have H:=HA.out;clear HA;simp only [impl_SweepArena.j1] at H
        by_cases c16 : x34_9 = true
        ·subst c16;have H1 : ((impl_copyArena.f kj9 l0_0).bind fun t648=>(some (t648,t643))) = some (r1,r2):=by rw [if_pos rfl] at H;exact H
         clear H;have H:=H1;clear H1;replace H:=Option.bind_eq_some_iff.mp H;obtain ⟨t648,A170,H⟩:=H;replace H : (some (t648,t643)) = some (r1,r2):=H;have A17:=Aside0.mk A170;clear A170;simp only [Option.some.injEq,Prod.mk.injEq] at H;obtain ⟨rfl,rfl⟩:=H;have hnb18:=NB641_642.out;have hnc18:=NB642_641.out;have hcz19_0 : wc.cell? ⟨gb641,0,none⟩ = some (.slice A0_0 l0_0.length c0_0):=(blk_cell BK641.out 0).trans rfl;have hfz19_0:=blk_frozen BK641.out 0;go_wp2_with (first | ((with_reducible refine gate_callee (f:=93) rfl ?_);refine goesL_ (some 36) rfl rfl Try.func93 (by kernel_rfl) rfl #[.agg #[.slice A0_0 l0_0.length c0_0]] rfl (by (try simp only [List.map_toArray,List.map_cons,List.map_nil]);first | done | rfl | (simp only [List.length_drop,List.length_take];rfl)) ?_;(with_reducible refine (impl_copyArena.calls kj9 _ _ l0_0 t648 _ ?side1 ?side2 A17.out).mono ?_);(case side1=>repeat (first | exact (Kd.C_below HR0_0.out HB.out) | (with_reducible refine Kd.C_alloc ?_ _) | (with_reducible refine Kd.C_drewN ?_ _) | (with_reducible refine Kd.C_drew ?_)));(case side2=>exact HC0_0.out);rintro e w20 ⟨v649,rfl,ho0,hb⟩;refine ⟨_,rfl,?_⟩;have n0_:=Aside0.mk (Kd.R_below (rs HO_6) hb);have n1_:=Aside0.mk (Kd.R_below (rs HO_7) hb);have n2_:=Aside0.mk (Kd.S_lower (Kd.S_new' (Kd.S_new' ho0 (Kd.R_lt (rs HO_6))) (Kd.R_lt (rs HO_7))) (below_size (hs2 HB GE641 GE642)));have n3_:=Aside0.mk (blk_below (g:=gb641) (o:=.cells #[.slice A0_0 l0_0.length c0_0] 44 (0,0)) (bs BK641) hb);have n4_:=Aside0.mk (blk_below (g:=gb642) (o:=.cells #[.slice none 0 0] 44 (0,0)) (bs BK642) hb);have n5_:=Aside0.mk (below_step (hs2 HB GE641 GE642) hb);clear HO_6;clear HO_7;clear BK641;clear BK642;clear HB;have HO_6:=n0_;have HO_7:=n1_;have HO650:=n2_;have BK641:=n3_;have BK642:=n4_;have HB:=n5_;clear n0_ n1_ n2_ n3_ n4_ n5_;(try clear hb);(try clear hb2);(try clear hk);(try clear hi);(try clear ho0);obtain ⟨Ao21,co21,eo21⟩:=Kd.S_slice HO650.out;subst eo21;have hcz22_0 : w20.cell? ⟨gb642,0,none⟩ = some (.slice none 0 0):=(blk_cell BK642.out 0).trans rfl;have hfz22_0:=blk_frozen BK642.out 0));refine bodyPost_ret (results_ct rfl _ _ gb642 44 #[.slice Ao21 t648.length co21] (0,0) _ rfl (by (with_reducible repeat (first | refine blk_drewN ?_ _ | refine blk_drew ?_ | refine blk_alloc ?_ _));refine blk_put (cs:=#[.slice none 0 0]) ?_ 0 _ rfl;(with_reducible repeat (first | refine blk_drewN ?_ _ | refine blk_drew ?_ | refine blk_alloc ?_ _));exact BK642.out) Try.underlying44 rfl (by kernel_rfl)) rfl ?_;exact ⟨_,_,by first | rfl | (simp [errW_none,errW_some] <;> rfl) | (simp [*,errW_none,errW_some] <;> rfl),by (with_reducible repeat (first | apply Kd.S_alloc | apply Kd.S_drewN | apply Kd.S_drew));exact Kd.S_mono (Kd.S_far (p:=⟨gb642,0,none⟩) (Kd.S_types HO650.out BK642.out (by decide)) (fun _ hk=>hk.2) (.slice Ao21 t648.length co21)) (fun _ hk=>hk.1.1.2),by (with_reducible repeat (first | apply Kd.R_alloc | apply Kd.R_drewN | apply Kd.R_drew));exact Kd.R_mono (Kd.R_far (p:=⟨gb642,0,none⟩) (Kd.R_types HO_6.out BK642.out (by decide)) (fun _ hk=>hk.2) (.slice Ao21 t648.length co21)) (fun _ hk=>trivial),hs2 HB GE641 GE642⟩
        replace c16:=Bool.eq_false_iff.mpr c16;subst c16;have H1 : ((impl_knotsOf.f kj9 l0_0 (rd l1 x23_1)).bind fun t651=>(if x7_1.length + t651.length < 17592186044416 then (impl_SweepArena.l0 kj9 l1 t643 (x7_1 ++ t651) l1 (l1.length : Int) (wrap64 (x23_1 + 1)) l0_0) else (none))) = some (r1,r2):=by rw [if_neg (show ¬ (false = true) by decide)] at H;exact H
        clear H;have H:=H1;clear H1;replace H:=Option.bind_eq_some_iff.mp H;obtain ⟨t651,A230,H⟩:=H;replace H : (if x7_1.length + t651.length < 17592186044416 then (impl_SweepArena.l0 kj9 l1 t643 (x7_1 ++ t651) l1 (l1.length : Int) (wrap64 (x23_1 + 1)) l0_0) else (none)) = some (r1,r2):=H;have A23:=Aside0.mk A230;clear A230
        by_cases c24 : x7_1.length + t651.length < 17592186044416
        ·rw [if_pos c24] at H;have LMc24:=Aside0.mk c24;clear c24;obtain ⟨y654,hy654⟩ : ∃ y_ : List Int,y_ = (x7_1 ++ t651):=⟨_,rfl⟩;replace H : (impl_SweepArena.l0 kj9 l1 t643 y654 l1 (l1.length : Int) (wrap64 (x23_1 + 1)) l0_0) = some (r1,r2):=by first | (rw [hy654];with_reducible exact H) | (have H2_:=(Option.bind_some _ _).symm.trans H;rw [hy654];with_reducible exact H2_) | (have H2_:=(Option.bind_some _ _).symm.trans H;with_reducible exact H2_) | with_reducible exact H | (rw [hy654];exact H) | exact H
         have Ny654:=Aside0.mk hy654;clear hy654;have H':=Aside0.mk H;clear H;have hnb25:=NB641_642.out;have hnc25:=NB642_641.out;have hcz26_0 : wc.cell? ⟨gb641,0,none⟩ = some (.slice A0_0 l0_0.length c0_0):=(blk_cell BK641.out 0).trans rfl;have hfz26_0:=blk_frozen BK641.out 0;go_wp2_with (first | ((with_reducible refine gate_callee (f:=94) rfl ?_);refine goesL_ (some 41) rfl rfl Try.func94 (by kernel_rfl) rfl #[.agg #[.slice A0_0 l0_0.length c0_0],.int .i64 (rd l1 x23_1)] rfl (by (try simp only [List.map_toArray,List.map_cons,List.map_nil]);first | done | rfl | (simp only [List.length_drop,List.length_take];rfl)) ?_;(with_reducible refine (impl_knotsOf.calls kj9 _ _ l0_0 (rd l1 x23_1) t651 _ ?side1 ?side2 A23.out).mono ?_);(case side1=>repeat (first | exact (Kd.C_below HR0_0.out HB.out) | (with_reducible refine Kd.C_alloc ?_ _) | (with_reducible refine Kd.C_drewN ?_ _) | (with_reducible refine Kd.C_drew ?_)));(case side2=>exact HC0_0.out);rintro e w27 ⟨v652,rfl,ho0,hb⟩;refine ⟨_,rfl,?_⟩;have n0_:=Aside0.mk (Kd.R_elder' (rs HO_6) (Kd.R_base ho0) hb);have n1_:=Aside0.mk (Kd.R_elder' (rs HO_7) (Kd.R_base ho0) hb);have n2_:=Aside0.mk (Kd.R_lower (Kd.R_new' (Kd.R_new' ho0 (Kd.R_lt (rs HO_6))) (Kd.R_lt (rs HO_7))) (below_size (hs2 HB GE641 GE642)));have n3_:=Aside0.mk (blk_below (g:=gb641) (o:=.cells #[.slice A0_0 l0_0.length c0_0] 44 (0,0)) (bs BK641) hb);have n4_:=Aside0.mk (blk_below (g:=gb642) (o:=.cells #[.slice none 0 0] 44 (0,0)) (bs BK642) hb);have n5_:=Aside0.mk (below_step (hs2 HB GE641 GE642) hb);clear HO_6;clear HO_7;clear BK641;clear BK642;clear HB;have HO_6:=n0_;have HO_7:=n1_;have HO653:=n2_;have BK641:=n3_;have BK642:=n4_;have HB:=n5_;clear n0_ n1_ n2_ n3_ n4_ n5_;(try clear hb);(try clear hb2);(try clear hk);(try clear hi);(try clear ho0);obtain ⟨Ao29,co29,eo29⟩:=Kd.R_slice HO653.out;subst eo29) | ((with_reducible refine gate_builtin (b:=.append) (xs:=#[(.tmp 38),.tmp 41]) rfl ?_);at_builtin;refine Kd.R_append_rows (Kd.int .i64) (w0:=w) w.heap.size rfl (.tmp 38) (.tmp 41) 26 3 (.int .i64 0) 8 rfl Try.underlying26 info3 rfl (by decide) (by omega) u7 x7_1 t651 _ _ _ (fun k_=>some k_ ≠ (v644 : Value).ownBlock ∧ some k_ ≠ (.slice Ao29 t651.length co29 : Value).ownBlock) (fun _=>False) rfl rfl ?aO ?aR (fun _ _ h=>h) (fun _ h=>h.elim) ?aF ?aB ?aS ?aL ?_;(case aR=>repeat (first | exact (Kd.R_reads' HO653.out).2.2 | (with_reducible refine Kd.C_alloc ?_ _) | (with_reducible refine Kd.C_drewN ?_ _) | (with_reducible refine Kd.C_drew ?_)));(case aB=>exact (hs2 HB GE641 GE642));(case aF=>exact (fun k_ hk=>⟨Kd.fresh' (Kd.R_lt (rs HO_6)) k_ hk,Kd.fresh' (Kd.R_lt (rs HO653)) k_ hk⟩));(case aO=>exact (rs HO_7));(case aS=>exact (below_size (hs2 HB GE641 GE642)));(case aL=>have:=LMc24.out;omega);intro v655 w28 ho hb hg hat;rw [← Ny654.out] at ho;have n0_:=Aside0.mk (Kd.R_after (ok:=(fun k_=>some k_ ≠ (.slice Ao29 t651.length co29 : Value).ownBlock)) (by (with_reducible repeat (first | apply Kd.R_alloc | apply Kd.R_drewN | apply Kd.R_drew));exact Kd.R_mono HO_6.out (fun _ hk=>⟨hk.2,hk.1⟩)) hg hat);have n1_:=Aside0.mk (blk_grown (g:=gb641) (o:=.cells #[.slice A0_0 l0_0.length c0_0] 44 (0,0)) (bs BK641) hg (Kd.R_ne HO_7.out BK641.out (by decide)));have n2_:=Aside0.mk (blk_grown (g:=gb642) (o:=.cells #[.slice none 0 0] 44 (0,0)) (bs BK642) hg (Kd.R_ne HO_7.out BK642.out (by decide)));have n3_:=Aside0.mk (Kd.R_after (ok:=(fun k_=>some k_ ≠ (v644 : Value).ownBlock)) (by (with_reducible repeat (first | apply Kd.R_alloc | apply Kd.R_drewN | apply Kd.R_drew));exact Kd.R_mono HO653.out (fun _ hk=>⟨hk.1.2,hk.2⟩)) hg hat);have n4_:=Aside0.mk (hb);have n5_:=Aside0.mk (ho);clear HO_6;clear BK641;clear BK642;clear HO653;clear HB;clear HO_7;have HO_6:=n0_;have BK641:=n1_;have BK642:=n2_;have HO653:=n3_;have HB:=n4_;have HO656:=n5_;clear n0_ n1_ n2_ n3_ n4_ n5_;clear ho hb hg hat));go_roundg kj9;case measure=>have:=HK1.out;have:=HJ9.out;omega
         case rel=>exact ⟨(y654),(wrap64 (x23_1 + 1)),(by first | rfl | (simp;done) | (simp [*];done)),H',⟨by have:=HK1.out;have:=HJ9.out;omega⟩,⟨by (with_reducible repeat (first | apply Kd.R_alloc | apply Kd.R_drewN | apply Kd.R_drew));exact Kd.R_mono HO_6.out (fun _ hk=>hk.2)⟩,⟨by (with_reducible repeat (first | apply Kd.R_alloc | apply Kd.R_drewN | apply Kd.R_drew));exact Kd.R_mono HO656.out (fun _ hk=>hk.1)⟩,⟨bs BK641⟩,⟨bs BK642⟩,⟨hs2 HB GE641 GE642⟩⟩
        rw [if_neg c24] at H;exact absurd H (by simp)
     rw [if_neg c9] at H;exact absurd H (by simp)
    rw [if_neg c8] at H;exact absurd H (by simp)
   rw [if_neg c7] at H;have c7b0 : decide (x23_1 < (l1.length : Int)) = false:=decide_eq_false c7;clear c7;replace H:=Option.bind_eq_some_iff.mp H;obtain ⟨t657,A300,H⟩:=H;replace H : (if t657 = true then (if 0 ≤ (l0_0.length : Int) then (if ((l0_0.length : Int) : Int).toNat ≤ 35184372088832 then (impl_SweepArena.l1 k1 l1 t643 x7_1 (List.replicate ((l0_0.length : Int) : Int).toNat 0) l0_0 (l0_0.length : Int) 0 ([] : List (S133))) else (none)) else (none)) else ((impl_copyArena.f k1 l0_0).bind fun t658=>(some (t658,t643)))) = some (r1,r2):=H;have A30:=Aside0.mk A300;clear A300
   by_cases c31 : t657 = true
   ·subst c31;have H1 : (if 0 ≤ (l0_0.length : Int) then (if ((l0_0.length : Int) : Int).toNat ≤ 35184372088832 then (impl_SweepArena.l1 k1 l1 t643 x7_1 (List.replicate ((l0_0.length : Int) : Int).toNat 0) l0_0 (l0_0.length : Int) 0 ([] : List (S133))) else (none)) else (none)) = some (r1,r2):=by rw [if_pos rfl] at H;exact H
    clear H;have H:=H1;clear H1
    by_cases c32 : 0 ≤ (l0_0.length : Int)
    ·rw [if_pos c32] at H;have c32b0:=eq_true c32;have c32b1 : decide (0 ≤ (l0_0.length : Int)) = true:=decide_eq_true c32;clear c32
     by_cases c33 : ((l0_0.length : Int) : Int).toNat ≤ 35184372088832
     ·rw [if_pos c33] at H;have c33b0:=eq_true c33;have c33b1 : decide (((l0_0.length : Int) : Int).toNat ≤ 35184372088832) = true:=decide_eq_true c33;clear c33;obtain ⟨y662,hy662⟩ : ∃ y_ : List Int,y_ = (List.replicate ((l0_0.length : Int) : Int).toNat 0):=⟨_,rfl⟩;replace H : (impl_SweepArena.l1 k1 l1 t643 x7_1 y662 l0_0 (l0_0.length : Int) 0 ([] : List (S133))) = some (r1,r2):=by first | (rw [hy662];with_reducible exact H) | (have H2_:=(Option.bind_some _ _).symm.trans H;rw [hy662];with_reducible exact H2_) | (have H2_:=(Option.bind_some _ _).symm.trans H;with_reducible exact H2_) | with_reducible exact H | (rw [hy662];exact H) | exact H
      have Ny662:=Aside0.mk hy662;clear hy662;have H':=Aside0.mk H;clear H;have hnb34:=NB641_642.out;have hnc34:=NB642_641.out;have hcz35_0 : wr.cell? ⟨gb641,0,none⟩ = some (.slice A0_0 l0_0.length c0_0):=(blk_cell BK641.out 0).trans rfl;have hfz35_0:=blk_frozen BK641.out 0;go_wp2_with (first | ((with_reducible refine gate_callee (f:=25) rfl ?_);refine goesL_ (some 45) rfl rfl Try.func25 (by kernel_rfl) rfl #[.agg #[.slice A0_0 l0_0.length c0_0]] rfl (by (try simp only [List.map_toArray,List.map_cons,List.map_nil]);first | done | rfl | (simp only [List.length_drop,List.length_take];rfl)) ?_;(with_reducible refine (impl_ArenaOk.calls k1 _ _ l0_0 true _ ?side1 ?side2 A30.out).mono ?_);(case side1=>repeat (first | exact (Kd.C_below HR0_0.out HB.out) | (with_reducible refine Kd.C_alloc ?_ _) | (with_reducible refine Kd.C_drewN ?_ _) | (with_reducible refine Kd.C_drew ?_)));(case side2=>exact HC0_0.out);rintro e w36 ⟨rfl,hb⟩;refine ⟨_,rfl,?_⟩;have n0_:=Aside0.mk (Kd.R_below (rs HO_6) hb);have n1_:=Aside0.mk (Kd.R_below (rs HO_7) hb);have n2_:=Aside0.mk (blk_below (g:=gb641) (o:=.cells #[.slice A0_0 l0_0.length c0_0] 44 (0,0)) (bs BK641) hb);have n3_:=Aside0.mk (blk_below (g:=gb642) (o:=.cells #[.slice none 0 0] 44 (0,0)) (bs BK642) hb);have n4_:=Aside0.mk (below_step (hs2 HB GE641 GE642) hb);clear HO_6;clear HO_7;clear BK641;clear BK642;clear HB;have HO_6:=n0_;have HO_7:=n1_;have BK641:=n2_;have BK642:=n3_;have HB:=n4_;clear n0_ n1_ n2_ n3_ n4_;(try clear hb);(try clear hb2);(try clear hk);(try clear hi)) | ((with_reducible refine gate_dst (N:=10) rfl ?_);refine box_event ?hg (N:=10) ?hd (cs:=#[.slice none 0 0]) (t:=44) ?hr ?_;(case hd=>rfl);(case hg=>rfl);(case hr=>first | (go_simp;done) | (go_simp;rfl));intro gb661 hg w37 hbox hb;have n0_:=Aside0.mk (Kd.R_below (rs HO_6) hb);have n1_:=Aside0.mk (Kd.R_below (rs HO_7) hb);have n2_:=Aside0.mk (blk_below (g:=gb641) (o:=.cells #[.slice A0_0 l0_0.length c0_0] 44 (0,0)) (bs BK641) hb);have n3_:=Aside0.mk (blk_below (g:=gb642) (o:=.cells #[.slice none 0 0] 44 (0,0)) (bs BK642) hb);have n4_:=Aside0.mk (below_step (hs2 HB GE641 GE642) hb);have n5_:=Aside0.mk (hbox);have n6_:=Aside0.mk ((by rw [hg];exact (below_size (hs2 HB GE641 GE642)) : w.heap.size ≤ gb661));have n7_:=Aside0.mk ((by rw [hg];exact (below_size (hs2 HB GE641 GE642)) : w.heap.size ≤ gb661));have n8_:=Aside0.mk ((by rw [hg];exact Nat.ne_of_lt (blk_lt (g:=gb641) (o:=.cells #[.slice A0_0 l0_0.length c0_0] 44 (0,0)) (bs BK641)) : gb641 ≠ gb661));have n9_:=Aside0.mk ((by rw [hg];exact Nat.ne_of_gt (blk_lt (g:=gb641) (o:=.cells #[.slice A0_0 l0_0.length c0_0] 44 (0,0)) (bs BK641)) : gb661 ≠ gb641));have n10_:=Aside0.mk ((by rw [hg];exact Nat.ne_of_lt (blk_lt (g:=gb642) (o:=.cells #[.slice none 0 0] 44 (0,0)) (bs BK642)) : gb642 ≠ gb661));have n11_:=Aside0.mk ((by rw [hg];exact Nat.ne_of_gt (blk_lt (g:=gb642) (o:=.cells #[.slice none 0 0] 44 (0,0)) (bs BK642)) : gb661 ≠ gb642));clear HO_6;clear HO_7;clear BK641;clear BK642;clear HB;have HO_6:=n0_;have HO_7:=n1_;have BK641:=n2_;have BK642:=n3_;have HB:=n4_;have BK661:=n5_;have GW661:=n6_;have GE661:=n7_;have NB641_661:=n8_;have NB661_641:=n9_;have NB642_661:=n10_;have NB661_642:=n11_;clear n0_ n1_ n2_ n3_ n4_ n5_ n6_ n7_ n8_ n9_ n10_ n11_;clear hb hbox hg;have hnb38:=NB641_661.out;have hnc38:=NB661_641.out;have hcz39_0 : w37.cell? ⟨gb641,0,none⟩ = some (.slice A0_0 l0_0.length c0_0):=(blk_cell BK641.out 0).trans rfl;have hfz39_0:=blk_frozen BK641.out 0) | ((with_reducible refine gate_dst (N:=53) rfl ?_);refine Kd.R_make (Kd.int .i64) _ 3 rfl (N:=53) rfl 26 _ _ rfl (l0_0.length : Int) rfl rfl Try.underlying26 (.int .i64 0) 8 info3 rfl (by decide) (by omega) 0 (ok:=fun _=>True) (okp:=fun _=>True) rfl (fun _ hk=>hk) trivial (of_decide_eq_true (by first | (with_reducible assumption) | assumption)) (Nat.le_trans (Nat.mul_le_mul_right _ (of_decide_eq_true (by first | (with_reducible assumption) | assumption) : (l0_0.length : Int).toNat ≤ 35184372088832)) (by omega)) (Below.refl _ _) (Nat.le_refl _) ?_;intro v663 w40 ho41 hb hg_ hnew_;clear hg_ hnew_;(first | rw [← Ny662.out] at ho41 | (simp only [Int.reduceToNat] at ho41;rw [← Ny662.out] at ho41));have n0_:=Aside0.mk (Kd.R_elder' (rs HO_6) (Kd.R_base ho41) hb);have n1_:=Aside0.mk (Kd.R_elder' (rs HO_7) (Kd.R_base ho41) hb);have n2_:=Aside0.mk (Kd.R_lower (Kd.R_new' (Kd.R_new' ho41 (Kd.R_lt (rs HO_6))) (Kd.R_lt (rs HO_7))) (below_size (hs3 HB GE641 GE642 GE661)));have n3_:=Aside0.mk (blk_below (g:=gb641) (o:=.cells #[.slice A0_0 l0_0.length c0_0] 44 (0,0)) (bs BK641) hb);have n4_:=Aside0.mk (blk_below (g:=gb642) (o:=.cells #[.slice none 0 0] 44 (0,0)) (bs BK642) hb);have n5_:=Aside0.mk (blk_below (g:=gb661) (o:=.cells #[.slice none 0 0] 44 (0,0)) (bs BK661) hb);have n6_:=Aside0.mk (below_step (hs3 HB GE641 GE642 GE661) hb);clear HO_6;clear HO_7;clear BK641;clear BK642;clear BK661;clear HB;have HO_6:=n0_;have HO_7:=n1_;have HO664:=n2_;have BK641:=n3_;have BK642:=n4_;have BK661:=n5_;have HB:=n6_;clear n0_ n1_ n2_ n3_ n4_ n5_ n6_;clear hb ho41;have hcz42_0 : w40.cell? ⟨gb641,0,none⟩ = some (.slice A0_0 l0_0.length c0_0):=(blk_cell BK641.out 0).trans rfl;have hfz42_0:=blk_frozen BK641.out 0));go_loopg [57] k1 (fun kq v57 w'=>∃ (x6_2 : List Int) (x7_2 : List Int) (x11_2 : List Int) (x57_2 : Int) (x662000_2 : List (S133)) (u662000 : Value),v57 = .int .i64 x57_2 ∧ Aside0 (impl_SweepArena.l1 kq l1 x6_2 x7_2 x11_2 l0_0 (l0_0.length : Int) x57_2 x662000_2 = some (r1,r2)) ∧ Aside0 (kq ≤ k1) ∧ Aside0 (Kd.R (Kd.int .i64) 3 w' w.heap.size (fun k_=>some k_ ≠ (u7 : Value).ownBlock ∧ some k_ ≠ (v663 : Value).ownBlock) v644 x6_2) ∧ Aside0 (Kd.R (Kd.int .i64) 3 w' w.heap.size (fun k_=>some k_ ≠ (v644 : Value).ownBlock ∧ some k_ ≠ (v663 : Value).ownBlock) u7 x7_2) ∧ Aside0 (Kd.R (Kd.int .i64) 3 w' w.heap.size (fun k_=>some k_ ≠ (v644 : Value).ownBlock ∧ some k_ ≠ (u7 : Value).ownBlock) v663 x11_2) ∧ Aside0 (Kd.S k133 133 w' w.heap.size (fun k_=>some k_ ≠ (v644 : Value).ownBlock ∧ some k_ ≠ (u7 : Value).ownBlock ∧ some k_ ≠ (v663 : Value).ownBlock) u662000 x662000_2) ∧ Aside0 (w'.heap[gb641]? = some (.cells #[(.slice A0_0 l0_0.length c0_0)] 44 (0,0))) ∧ Aside0 (w'.heap[gb642]? = some (.cells #[(.slice none 0 0)] 44 (0,0))) ∧ Aside0 (w'.heap[gb661]? = some (.cells #[u662000] 44 (0,0))) ∧ Aside0 (Below w.heap.size w w'));case atStart=>exact ⟨(t643),(x7_1),(y662),(0),(([] : List (S133))),(.slice none 0 0),(by first | rfl | (simp;done) | (simp [*];done)),H',⟨Nat.le_refl _⟩,⟨rs HO_6⟩,⟨rs HO_7⟩,⟨by (with_reducible repeat (first | apply Kd.R_alloc | apply Kd.R_drewN | apply Kd.R_drew));exact Kd.R_mono HO664.out (fun _ hk=>⟨hk.1.2,hk.2⟩)⟩,⟨by first | exact Kd.S_nil _ _ _ _ _ | exact Kd.N_nil _ _ _ _ _ | exact Kd.V_nil _ _ _ _ _ | exact Kd.Q_nil _ _ _ _ _ | exact Kd.R_nil _ _ _ _ _⟩,⟨bs BK641⟩,⟨bs BK642⟩,⟨bs BK661⟩,⟨hs3 HB GE641 GE642 GE661⟩⟩
      case round =>
       clear H'
       try clear c1
       try clear c2
       try clear p2
       try clear c3
       try clear p6
       try clear q6
       try clear hx6
       try clear c7
       try clear c7b0
       try clear c8
       try clear c8b0
       try clear c9
       try clear c9b0
       try clear c11
       try clear c11b0
       try clear c11b1
       try clear c13
       try clear c16
       try clear c18
       try clear c24
       try clear c25
       try clear c31
       try clear c32
       try clear c32b0
       try clear c32b1
       try clear c33
       try clear c33b0
       try clear c33b1
       try clear c34
       try clear c38
       try clear hcz14_0
       try clear hcz19_0
       try clear hcz22_0
       try clear hcz26_0
       try clear hcz35_0
       try clear hcz39_0
       try clear hcz42_0
       try clear hfz14_0
       try clear hfz19_0
       try clear hfz22_0
       try clear hfz26_0
       try clear hfz35_0
       try clear hfz39_0
       try clear hfz42_0
       try clear hx646_0
       try clear p2
       try clear p6
       try clear p646
       try clear q6
       try clear q646
       obtain ⟨x6_2,x7_2,x11_2,x57_2,x662000_2,u662000,rfl,HA,HK2,HO_6,HO_7,HO_11,HO_662000,BK641,BK642,BK661,HB⟩:=hrel;cases gk with
       | zero=>exact absurd HA.out (by simp [impl_SweepArena.l1])
       | succ k2 =>
        have H:=HA.out;clear HA;simp only [impl_SweepArena.l1] at H
        by_cases c43 : x57_2 < (l0_0.length : Int)
        ·rw [if_pos c43] at H;have c43b0 : decide (x57_2 < (l0_0.length : Int)) = true:=decide_eq_true c43;clear c43
         by_cases c44 : 0 ≤ x57_2
         ·rw [if_pos c44] at H;have c44b0 : decide (0 ≤ x57_2) = true:=decide_eq_true c44;clear c44
          by_cases c45 : x57_2 < (l0_0.length : Int)
          ·rw [if_pos c45] at H;have c45b0 : decide (x57_2 < (l0_0.length : Int)) = true:=decide_eq_true c45;clear c45;replace H:=Option.bind_eq_some_iff.mp H;obtain ⟨t667,A460,H⟩:=H;replace H : (if t667 = true then (if x57_2 < (x11_2.length : Int) then ((impl_copyInts.f ((rd_T133 l0_0 x57_2).f1)).bind fun t669=>(impl_SweepArena.l2 k2 l1 x6_2 x7_2 (x11_2.set (x57_2 : Int).toNat (x662000_2.length : Int)) l0_0 (l0_0.length : Int) x57_2 ((rd_T133 l0_0 x57_2).f1) (((rd_T133 l0_0 x57_2).f1).length : Int) 0 x662000_2 ((rd_T133 l0_0 x57_2).f0) ((rd_T133 l0_0 x57_2).f1) ((rd_T133 l0_0 x57_2).f0) t669)) else (none)) else (impl_SweepArena.l1 k2 l1 x6_2 x7_2 x11_2 l0_0 (l0_0.length : Int) (wrap64 (x57_2 + 1)) x662000_2)) = some (r1,r2):=H;have A46:=Aside0.mk A460;clear A460
           by_cases c47 : t667 = true
           ·subst c47;have H1 : (if x57_2 < (x11_2.length : Int) then ((impl_copyInts.f ((rd_T133 l0_0 x57_2).f1)).bind fun t669=>(impl_SweepArena.l2 k2 l1 x6_2 x7_2 (x11_2.set (x57_2 : Int).toNat (x662000_2.length : Int)) l0_0 (l0_0.length : Int) x57_2 ((rd_T133 l0_0 x57_2).f1) (((rd_T133 l0_0 x57_2).f1).length : Int) 0 x662000_2 ((rd_T133 l0_0 x57_2).f0) ((rd_T133 l0_0 x57_2).f1) ((rd_T133 l0_0 x57_2).f0) t669)) else (none)) = some (r1,r2):=by rw [if_pos rfl] at H;exact H
            clear H;have H:=H1;clear H1
            by_cases c48 : x57_2 < (x11_2.length : Int)
            ·rw [if_pos c48] at H;have c48b0 : decide (x57_2 < (x11_2.length : Int)) = true:=decide_eq_true c48;clear c48;obtain ⟨y668,hy668⟩ : ∃ y_ : List Int,y_ = (x11_2.set (x57_2 : Int).toNat (x662000_2.length : Int)):=⟨_,rfl⟩;replace H : ((impl_copyInts.f ((rd_T133 l0_0 x57_2).f1)).bind fun t669=>(impl_SweepArena.l2 k2 l1 x6_2 x7_2 y668 l0_0 (l0_0.length : Int) x57_2 ((rd_T133 l0_0 x57_2).f1) (((rd_T133 l0_0 x57_2).f1).length : Int) 0 x662000_2 ((rd_T133 l0_0 x57_2).f0) ((rd_T133 l0_0 x57_2).f1) ((rd_T133 l0_0 x57_2).f0) t669)) = some (r1,r2):=by first | (rw [hy668];with_reducible exact H) | (have H2_:=(Option.bind_some _ _).symm.trans H;rw [hy668];with_reducible exact H2_) | (have H2_:=(Option.bind_some _ _).symm.trans H;with_reducible exact H2_) | with_reducible exact H | (rw [hy668];exact H) | exact H
             have Ny668:=Aside0.mk hy668;clear hy668;replace H:=Option.bind_eq_some_iff.mp H;obtain ⟨t669,A500,H⟩:=H;replace H : (impl_SweepArena.l2 k2 l1 x6_2 x7_2 y668 l0_0 (l0_0.length : Int) x57_2 ((rd_T133 l0_0 x57_2).f1) (((rd_T133 l0_0 x57_2).f1).length : Int) 0 x662000_2 ((rd_T133 l0_0 x57_2).f0) ((rd_T133 l0_0 x57_2).f1) ((rd_T133 l0_0 x57_2).f0) t669) = some (r1,r2):=H;have A50:=Aside0.mk A500;clear A500;have H':=Aside0.mk H;clear H;have p665 : 0 ≤ (x57_2 : Int):=of_decide_eq_true (by first | (with_reducible assumption) | assumption);have q665 : x57_2 < (l0_0.length : Int):=of_decide_eq_true (by first | (with_reducible assumption) | assumption);obtain ⟨ad665,A665_1,c665_1,e665,hx665_0,hx665_1,hl665_1,hi665_1⟩:=at_T133 HR0_0.out x57_2 p665 q665;cases e665;replace hx665_0:=(HB.out.cell (World.block_lt_of_cell? w _ hx665_0)).trans hx665_0;replace hx665_1:=(HB.out.cell (World.block_lt_of_cell? w _ hx665_1)).trans hx665_1;have HR665_1:=Aside0.mk hi665_1;have HC665_1:=Aside0.mk hl665_1;clear hi665_1 hl665_1;replace p665:=eq_true p665;replace q665:=eq_true q665
             try go_wp2_with (first | ((with_reducible refine gate_dst (N:=13) rfl ?_);refine box_event ?hg (N:=13) ?hd (cs:=#[.bool false,.slice none 0 0]) (t:=133) ?hr ?_;(case hd=>rfl);(case hg=>rfl);(case hr=>first | (go_simp;done) | (go_simp;rfl));intro gb666 hg w51 hbox hb;have n0_:=Aside0.mk (Kd.R_below (rs HO_6) hb);have n1_:=Aside0.mk (Kd.R_below (rs HO_7) hb);have n2_:=Aside0.mk (Kd.R_below (rs HO_11) hb);have n3_:=Aside0.mk (Kd.S_below (Kd.S_elderB (ss HO_662000) gb666 (Nat.le_of_eq hg.symm)) hb);have n4_:=Aside0.mk (blk_below (g:=gb641) (o:=.cells #[.slice (some ad665) l0_0.length c0_0] 44 (0,0)) (bs BK641) hb);have n5_:=Aside0.mk (blk_below (g:=gb642) (o:=.cells #[.slice none 0 0] 44 (0,0)) (bs BK642) hb);have n6_:=Aside0.mk (blk_below (g:=gb661) (o:=.cells #[u662000] 44 (0,0)) (bs BK661) hb);have n7_:=Aside0.mk (below_step (hs3 HB GE641 GE642 GE661) hb);have n8_:=Aside0.mk (hbox);have n9_:=Aside0.mk ((by rw [hg];exact (below_size (hs3 HB GE641 GE642 GE661)) : w.heap.size ≤ gb666));have n10_:=Aside0.mk ((by rw [hg];exact (below_size (hs3 HB GE641 GE642 GE661)) : w.heap.size ≤ gb666));have n11_:=Aside0.mk ((by rw [hg];exact Nat.ne_of_lt (blk_lt (g:=gb641) (o:=.cells #[.slice (some ad665) l0_0.length c0_0] 44 (0,0)) (bs BK641)) : gb641 ≠ gb666));have n12_:=Aside0.mk ((by rw [hg];exact Nat.ne_of_gt (blk_lt (g:=gb641) (o:=.cells #[.slice (some ad665) l0_0.length c0_0] 44 (0,0)) (bs BK641)) : gb666 ≠ gb641));have n13_:=Aside0.mk ((by rw [hg];exact Nat.ne_of_lt (blk_lt (g:=gb642) (o:=.cells #[.slice none 0 0] 44 (0,0)) (bs BK642)) : gb642 ≠ gb666));have n14_:=Aside0.mk ((by rw [hg];exact Nat.ne_of_gt (blk_lt (g:=gb642) (o:=.cells #[.slice none 0 0] 44 (0,0)) (bs BK642)) : gb666 ≠ gb642));have n15_:=Aside0.mk ((by rw [hg];exact Nat.ne_of_lt (blk_lt (g:=gb661) (o:=.cells #[u662000] 44 (0,0)) (bs BK661)) : gb661 ≠ gb666));have n16_:=Aside0.mk ((by rw [hg];exact Nat.ne_of_gt (blk_lt (g:=gb661) (o:=.cells #[u662000] 44 (0,0)) (bs BK661)) : gb666 ≠ gb661));clear HO_6;clear HO_7;clear HO_11;clear HO_662000;clear BK641;clear BK642;clear BK661;clear HB;have HO_6:=n0_;have HO_7:=n1_;have HO_11:=n2_;have HO_662000:=n3_;have BK641:=n4_;have BK642:=n5_;have BK661:=n6_;have HB:=n7_;have BK666:=n8_;have GW666:=n9_;have GE666:=n10_;have NB641_666:=n11_;have NB666_641:=n12_;have NB642_666:=n13_;have NB666_642:=n14_;have NB661_666:=n15_;have NB666_661:=n16_;clear n0_ n1_ n2_ n3_ n4_ n5_ n6_ n7_ n8_ n9_ n10_ n11_ n12_ n13_ n14_ n15_ n16_;clear hb hbox hg;have hnb52:=NB666_641.out;have hnc52:=NB641_666.out;have hnb53:=NB666_642.out;have hnc53:=NB642_666.out;have hnb54:=NB666_661.out;have hnc54:=NB661_666.out;have hcz55_0 : w51.cell? ⟨gb666,0,none⟩ = some (.bool false):=(blk_cell BK666.out 0).trans rfl;have hcz55_1 : w51.cell? ⟨gb666,1,none⟩ = some (.slice none 0 0):=(blk_cell BK666.out 1).trans rfl;have hfz55_0:=blk_frozen BK666.out 0;have hfz55_1:=blk_frozen BK666.out 1) | ((with_reducible refine gate_store (t:=133) (p:=13) rfl ?_);refine store_event (t:=133) (p:=13) (v:=?vo_w56) (w1:=((w51.setCell ⟨gb666,0,none⟩ (.bool ((rd_T133 l0_0 x57_2).f0))).setCell ⟨gb666,1,none⟩ (.slice A665_1 ((rd_T133 l0_0 x57_2).f1).length c665_1))) ?hg ?ho ?hn ?hr ?_;(case ho=>rfl);(case hg=>rfl);(case hn=>rfl);(case hr=>first | (go_simp;done) | (go_simp;rfl));intro w56 hw;have n0_ : Aside0 (Kd.R (Kd.int .i64) 3 w56 w.heap.size (fun k_=>some k_ ≠ (u7 : Value).ownBlock ∧ some k_ ≠ (v663 : Value).ownBlock) v644 x6_2):=⟨(by rw [hw];exact (by (with_reducible repeat (first | apply Kd.R_alloc | apply Kd.R_drewN | apply Kd.R_drew));exact Kd.R_mono (Kd.R_far (p:=⟨gb666,1,none⟩) (Kd.R_far (p:=⟨gb666,0,none⟩) (Kd.R_types HO_6.out BK666.out (by decide)) (fun _ hk=>hk.2) (.bool ((rd_T133 l0_0 x57_2).f0))) (fun _ hk=>hk.2) (.slice A665_1 ((rd_T133 l0_0 x57_2).f1).length c665_1)) (fun _ hk=>⟨hk.1.1,hk.1.2⟩)))⟩;have n1_ : Aside0 (Kd.R (Kd.int .i64) 3 w56 w.heap.size (fun k_=>some k_ ≠ (v644 : Value).ownBlock ∧ some k_ ≠ (v663 : Value).ownBlock) u7 x7_2):=⟨(by rw [hw];exact (by (with_reducible repeat (first | apply Kd.R_alloc | apply Kd.R_drewN | apply Kd.R_drew));exact Kd.R_mono (Kd.R_far (p:=⟨gb666,1,none⟩) (Kd.R_far (p:=⟨gb666,0,none⟩) (Kd.R_types HO_7.out BK666.out (by decide)) (fun _ hk=>hk.2) (.bool ((rd_T133 l0_0 x57_2).f0))) (fun _ hk=>hk.2) (.slice A665_1 ((rd_T133 l0_0 x57_2).f1).length c665_1)) (fun _ hk=>⟨hk.1.1,hk.1.2⟩)))⟩;have n2_ : Aside0 (Kd.R (Kd.int .i64) 3 w56 w.heap.size (fun k_=>some k_ ≠ (v644 : Value).ownBlock ∧ some k_ ≠ (u7 : Value).ownBlock) v663 x11_2):=⟨(by rw [hw];exact (by (with_reducible repeat (first | apply Kd.R_alloc | apply Kd.R_drewN | apply Kd.R_drew));exact Kd.R_mono (Kd.R_far (p:=⟨gb666,1,none⟩) (Kd.R_far (p:=⟨gb666,0,none⟩) (Kd.R_types HO_11.out BK666.out (by decide)) (fun _ hk=>hk.2) (.bool ((rd_T133 l0_0 x57_2).f0))) (fun _ hk=>hk.2) (.slice A665_1 ((rd_T133 l0_0 x57_2).f1).length c665_1)) (fun _ hk=>⟨hk.1.1,hk.1.2⟩)))⟩;have n3_ : Aside0 (Kd.S k133 133 w56 w.heap.size (fun k_=>some k_ ≠ (v644 : Value).ownBlock ∧ some k_ ≠ (u7 : Value).ownBlock ∧ some k_ ≠ (v663 : Value).ownBlock ∧ k_ ≠ gb666) u662000 x662000_2):=⟨(by rw [hw];exact (by (with_reducible repeat (first | apply Kd.S_alloc | apply Kd.S_drewN | apply Kd.S_drew));exact Kd.S_mono (Kd.S_far (p:=⟨gb666,1,none⟩) (Kd.S_far (p:=⟨gb666,0,none⟩) (Kd.S_mono HO_662000.out (fun k_ hk=>(⟨hk,hk.2⟩ : _ ∧ k_ ≠ gb666))) (fun _ hk=>hk.2) (.bool ((rd_T133 l0_0 x57_2).f0))) (fun _ hk=>hk.2) (.slice A665_1 ((rd_T133 l0_0 x57_2).f1).length c665_1)) (fun _ hk=>⟨hk.1.1.1,⟨hk.1.1.2.1,⟨hk.1.1.2.2,hk.1.2⟩⟩⟩)))⟩;have n4_ : Aside0 (w56.heap[gb641]? = some (.cells #[.slice (some ad665) l0_0.length c0_0] 44 (0,0))):=⟨(by rw [hw];exact (by (with_reducible repeat (first | refine blk_drewN ?_ _ | refine blk_drew ?_ | refine blk_alloc ?_ _));refine blk_far ?_ NB641_666.out _;(with_reducible repeat (first | refine blk_drewN ?_ _ | refine blk_drew ?_ | refine blk_alloc ?_ _));refine blk_far ?_ NB641_666.out _;(with_reducible repeat (first | refine blk_drewN ?_ _ | refine blk_drew ?_ | refine blk_alloc ?_ _));exact BK641.out))⟩;have n5_ : Aside0 (w56.heap[gb642]? = some (.cells #[.slice none 0 0] 44 (0,0))):=⟨(by rw [hw];exact (by (with_reducible repeat (first | refine blk_drewN ?_ _ | refine blk_drew ?_ | refine blk_alloc ?_ _));refine blk_far ?_ NB642_666.out _;(with_reducible repeat (first | refine blk_drewN ?_ _ | refine blk_drew ?_ | refine blk_alloc ?_ _));refine blk_far ?_ NB642_666.out _;(with_reducible repeat (first | refine blk_drewN ?_ _ | refine blk_drew ?_ | refine blk_alloc ?_ _));exact BK642.out))⟩;have n6_ : Aside0 (w56.heap[gb661]? = some (.cells #[u662000] 44 (0,0))):=⟨(by rw [hw];exact (by (with_reducible repeat (first | refine blk_drewN ?_ _ | refine blk_drew ?_ | refine blk_alloc ?_ _));refine blk_far ?_ NB661_666.out _;(with_reducible repeat (first | refine blk_drewN ?_ _ | refine blk_drew ?_ | refine blk_alloc ?_ _));refine blk_far ?_ NB661_666.out _;(with_reducible repeat (first | refine blk_drewN ?_ _ | refine blk_drew ?_ | refine blk_alloc ?_ _));exact BK661.out))⟩;have n7_ : Aside0 (w56.heap[gb666]? = some (.cells #[.bool ((rd_T133 l0_0 x57_2).f0),.slice A665_1 ((rd_T133 l0_0 x57_2).f1).length c665_1] 133 (0,0))):=⟨(by rw [hw];exact (by (with_reducible repeat (first | refine blk_drewN ?_ _ | refine blk_drew ?_ | refine blk_alloc ?_ _));refine blk_put (cs:=#[.bool ((rd_T133 l0_0 x57_2).f0),.slice none 0 0]) ?_ 1 _ rfl;(with_reducible repeat (first | refine blk_drewN ?_ _ | refine blk_drew ?_ | refine blk_alloc ?_ _));refine blk_put (cs:=#[.bool false,.slice none 0 0]) ?_ 0 _ rfl;(with_reducible repeat (first | refine blk_drewN ?_ _ | refine blk_drew ?_ | refine blk_alloc ?_ _));exact BK666.out))⟩;have n8_ : Aside0 (Below w.heap.size w w56):=⟨(by rw [hw];exact (hs4 HB GE641 GE642 GE661 GE666))⟩;clear hw;clear HO_6;clear HO_7;clear HO_11;clear HO_662000;clear BK641;clear BK642;clear BK661;clear BK666;clear HB;have HO_6:=n0_;have HO_7:=n1_;have HO_11:=n2_;have HO_662000:=n3_;have BK641:=n4_;have BK642:=n5_;have BK661:=n6_;have BK666:=n7_;have HB:=n8_;clear n0_ n1_ n2_ n3_ n4_ n5_ n6_ n7_ n8_;obtain ⟨Ao57,co57,eo57⟩:=Kd.R_slice HO_7.out;subst eo57) | ((with_reducible refine gate_callee (f:=87) rfl ?_);refine goesL_ (some 64) rfl rfl Try.func87 (by kernel_rfl) rfl #[.slice Ao57 x7_2.length co57,.int .i64 x57_2] rfl (by (try simp only [List.map_toArray,List.map_cons,List.map_nil]);first | done | rfl | (simp only [List.length_drop,List.length_take];rfl)) ?_;(with_reducible refine (impl_hasInt.calls k2 _ _ x7_2 x57_2 true _ ?side1 ?side2 A46.out).mono ?_);(case side1=>repeat (first | exact (Kd.R_reads' HO_7.out).2.2 | (with_reducible refine Kd.C_alloc ?_ _) | (with_reducible refine Kd.C_drewN ?_ _) | (with_reducible refine Kd.C_drew ?_)));(case side2=>exact (Kd.R_reads' HO_7.out).2.1);rintro e w' ⟨rfl,⟨nd,rfl⟩⟩;refine ⟨_,rfl,?_⟩;(try (rw [drewN_self w56];generalize hq_ : World.drewN w56 _ = w56;have n0_ : Aside0 (Kd.R (Kd.int .i64) 3 w56 w.heap.size (fun k_=>some k_ ≠ (v644 : Value).ownBlock ∧ some k_ ≠ (.slice Ao57 x7_2.length co57 : Value).ownBlock) v663 x11_2):=⟨by rw [← hq_];exact (rs HO_11)⟩;have n1_ : Aside0 (Kd.R (Kd.int .i64) 3 w56 w.heap.size (fun k_=>some k_ ≠ (v663 : Value).ownBlock ∧ some k_ ≠ (.slice Ao57 x7_2.length co57 : Value).ownBlock) v644 x6_2):=⟨by rw [← hq_];exact (by (with_reducible repeat (first | apply Kd.R_alloc | apply Kd.R_drewN | apply Kd.R_drew));exact Kd.R_mono HO_6.out (fun _ hk=>⟨hk.2,hk.1⟩))⟩;have n2_ : Aside0 (Kd.S k133 133 w56 w.heap.size (fun k_=>some k_ ≠ (v663 : Value).ownBlock ∧ some k_ ≠ (v644 : Value).ownBlock ∧ some k_ ≠ (.slice Ao57 x7_2.length co57 : Value).ownBlock ∧ k_ ≠ gb666) u662000 x662000_2):=⟨by rw [← hq_];exact (by (with_reducible repeat (first | apply Kd.S_alloc | apply Kd.S_drewN | apply Kd.S_drew));exact Kd.S_mono HO_662000.out (fun _ hk=>⟨hk.2.2.1,⟨hk.1,⟨hk.2.1,hk.2.2.2⟩⟩⟩))⟩;have n3_ : Aside0 (Kd.R (Kd.int .i64) 3 w56 w.heap.size (fun k_=>some k_ ≠ (v663 : Value).ownBlock ∧ some k_ ≠ (v644 : Value).ownBlock) (.slice Ao57 x7_2.length co57) x7_2):=⟨by rw [← hq_];exact (by (with_reducible repeat (first | apply Kd.R_alloc | apply Kd.R_drewN | apply Kd.R_drew));exact Kd.R_mono HO_7.out (fun _ hk=>⟨hk.2,hk.1⟩))⟩;have n4_ : Aside0 (w56.heap[gb641]? = some (.cells #[.slice (some ad665) l0_0.length c0_0] 44 (0,0))):=⟨by rw [← hq_];exact (bs BK641)⟩;have n5_ : Aside0 (w56.heap[gb642]? = some (.cells #[.slice none 0 0] 44 (0,0))):=⟨by rw [← hq_];exact (bs BK642)⟩;have n6_ : Aside0 (w56.heap[gb661]? = some (.cells #[u662000] 44 (0,0))):=⟨by rw [← hq_];exact (bs BK661)⟩;have n7_ : Aside0 (w56.heap[gb666]? = some (.cells #[.bool ((rd_T133 l0_0 x57_2).f0),.slice A665_1 ((rd_T133 l0_0 x57_2).f1).length c665_1] 133 (0,0))):=⟨by rw [← hq_];exact (bs BK666)⟩;have n8_ : Aside0 (Below w.heap.size w w56):=⟨by rw [← hq_];exact (hs4 HB GE641 GE642 GE661 GE666)⟩;clear HO_11 HO_6 HO_662000 HO_7 BK641 BK642 BK661 BK666 HB hq_;have HO_11:=n0_;have HO_6:=n1_;have HO_662000:=n2_;have HO_7:=n3_;have BK641:=n4_;have BK642:=n5_;have BK661:=n6_;have BK666:=n7_;have HB:=n8_;clear n0_ n1_ n2_ n3_ n4_ n5_ n6_ n7_ n8_));have hnb58:=NB661_641.out;have hnc58:=NB641_661.out;have hnb59:=NB661_642.out;have hnc59:=NB642_661.out;have hcz60_0 : w56.cell? ⟨gb661,0,none⟩ = some (u662000):=(blk_cell BK661.out 0).trans rfl;have hfz60_0:=blk_frozen BK661.out 0;obtain ⟨Ao61,co61,eo61⟩:=Kd.S_slice HO_662000.out;subst eo61;have p49 : 0 ≤ (x57_2 : Int):=of_decide_eq_true (by first | (with_reducible assumption) | assumption);have q49 : (x57_2 : Int) < ((x11_2.length : Int) : Int):=of_decide_eq_true (by first | (with_reducible assumption) | assumption);obtain ⟨go49,co49,eo49,gb49,gl49,cl49,HG49⟩:=Kd.R_form HO_11.out (by omega);(first | cases eo49 | (injection eo49 with ea_ en_ ec_;(first | subst ea_ | (injection ea_ with ea_;subst ea_));subst ec_;clear en_));have GB49:=Aside0.mk gb49;have GG49:=Aside0.mk HG49;clear gb49 gl49 HG49;obtain ⟨hx49_0,hf49_0⟩:=Kd.R_celln 0 HO_11.out (x57_2 : Int) p49 q49;replace p49:=eq_true p49;replace q49:=eq_true q49;obtain ⟨hy62_,hz62_⟩:=Kd.R_celln 0 HO_11.out (x57_2 : Int) (of_decide_eq_true (by first | (with_reducible assumption) | assumption)) (of_decide_eq_true (by first | (with_reducible assumption) | assumption));have HP62:=Kd.R_putg HO_11.out (x57_2 : Int) (x662000_2.length : Int)) | ((with_reducible refine gate_store (t:=3) (p:=71) rfl ?_);refine store_event (t:=3) (p:=71) (v:=?vo_w63) (w1:=(w56.setCell ⟨go49,(x57_2 : Int).toNat,none⟩ (.int .i64 (x662000_2.length : Int)))) ?hg ?ho ?hn ?hr ?_;(case ho=>rfl);(case hg=>rfl);(case hn=>rfl);(case hr=>first | (go_simp;done) | (go_simp;rfl));intro w63 hw;have hg : w56.grownBy w63 (some go49):=(by rw [hw];exact HP62.2);have hp_ : Kd.R (Kd.int .i64) 3 w63 w.heap.size (fun k_=>some k_ ≠ (v644 : Value).ownBlock ∧ some k_ ≠ (.slice Ao57 x7_2.length co57 : Value).ownBlock) (.slice (some ⟨go49,0,none⟩) x11_2.length co49) y668:=(by rw [hw,Ny668.out];exact HP62.1);clear HP62;have n0_:=Aside0.mk (Kd.R_after (v:=(.slice (some ⟨go49,0,none⟩) x11_2.length co49)) (v1:=(.slice (some ⟨go49,0,none⟩) x11_2.length co49)) (ok:=(fun k_=>some k_ ≠ (.slice Ao57 x7_2.length co57 : Value).ownBlock)) (by (with_reducible repeat (first | apply Kd.R_alloc | apply Kd.R_drewN | apply Kd.R_drew));first | exact HO_6.out | exact Kd.R_mono HO_6.out (fun _ hk_=>⟨hk_.2,hk_.1⟩)) hg (.inl rfl));have n1_:=Aside0.mk (Kd.R_after (v:=(.slice (some ⟨go49,0,none⟩) x11_2.length co49)) (v1:=(.slice (some ⟨go49,0,none⟩) x11_2.length co49)) (ok:=(fun k_=>some k_ ≠ (v644 : Value).ownBlock)) (by (with_reducible repeat (first | apply Kd.R_alloc | apply Kd.R_drewN | apply Kd.R_drew));first | exact HO_7.out | exact Kd.R_mono HO_7.out (fun _ hk_=>⟨hk_.2,hk_.1⟩)) hg (.inl rfl));have n2_:=Aside0.mk (hp_);have n3_:=Aside0.mk (Kd.S_after (v:=(.slice (some ⟨go49,0,none⟩) x11_2.length co49)) (v1:=(.slice (some ⟨go49,0,none⟩) x11_2.length co49)) (ok:=(fun k_=>some k_ ≠ (v644 : Value).ownBlock ∧ some k_ ≠ (.slice Ao57 x7_2.length co57 : Value).ownBlock ∧ k_ ≠ gb666)) (by (with_reducible repeat (first | apply Kd.S_alloc | apply Kd.S_drewN | apply Kd.S_drew));exact Kd.S_mono HO_662000.out (fun _ hk=>by obtain ⟨h1_,h2_,h3_,h4_⟩:=hk;refine ⟨⟨?_,?_,?_⟩,?_⟩ <;> assumption)) hg (.inl rfl));have n4_:=Aside0.mk (blk_grown (g:=gb641) (o:=.cells #[.slice (some ad665) l0_0.length c0_0] 44 (0,0)) (bs BK641) hg (Kd.R_ne HO_11.out BK641.out (by decide)));have n5_:=Aside0.mk (blk_grown (g:=gb642) (o:=.cells #[.slice none 0 0] 44 (0,0)) (bs BK642) hg (Kd.R_ne HO_11.out BK642.out (by decide)));have n6_:=Aside0.mk (blk_grown (g:=gb661) (o:=.cells #[.slice Ao61 x662000_2.length co61] 44 (0,0)) (bs BK661) hg (Kd.R_ne HO_11.out BK661.out (by decide)));have n7_:=Aside0.mk (blk_grown (g:=gb666) (o:=.cells #[.bool ((rd_T133 l0_0 x57_2).f0),.slice A665_1 ((rd_T133 l0_0 x57_2).f1).length c665_1] 133 (0,0)) (bs BK666) hg (Kd.R_ne HO_11.out BK666.out (by decide)));have n8_:=Aside0.mk ((by rw [hw];exact below_set (HB.out) GB49.out : Below w.heap.size w w63));clear HO_6;clear HO_7;clear HO_11;clear HO_662000;clear BK641;clear BK642;clear BK661;clear BK666;clear HB;have HO_6:=n0_;have HO_7:=n1_;have HO_11:=n2_;have HO_662000:=n3_;have BK641:=n4_;have BK642:=n5_;have BK661:=n6_;have BK666:=n7_;have HB:=n8_;clear n0_ n1_ n2_ n3_ n4_ n5_ n6_ n7_ n8_;clear hg hw hp_))
             have n0_:=Aside0.mk (Kd.R_drew HO_6.out);have n1_:=Aside0.mk (Kd.R_drew HO_7.out);have n2_:=Aside0.mk (Kd.R_drew HO_11.out);have n3_:=Aside0.mk (Kd.S_drew HO_662000.out);have n4_:=Aside0.mk (blk_drew BK641.out);have n5_:=Aside0.mk (blk_drew BK642.out);have n6_:=Aside0.mk (blk_drew BK661.out);have n7_:=Aside0.mk (blk_drew BK666.out);have n8_:=Aside0.mk (below_drew1 HB.out);clear HO_6;clear HO_7;clear HO_11;clear HO_662000;clear BK641;clear BK642;clear BK661;clear BK666;clear HB;have HO_6:=n0_;have HO_7:=n1_;have HO_11:=n2_;have HO_662000:=n3_;have BK641:=n4_;have BK642:=n5_;have BK661:=n6_;have BK666:=n7_;have HB:=n8_;clear n0_ n1_ n2_ n3_ n4_ n5_ n6_ n7_ n8_;refine start_ (n:=8) (S:=fun w'=>w'.cell? ⟨gb666,0,none⟩ = some (.bool ((rd_T133 l0_0 x57_2).f0)) ∧ w'.cell? ⟨gb666,1,none⟩ = some (.slice A665_1 ((rd_T133 l0_0 x57_2).f1).length c665_1)) (ds:=[]) #[false,false,false,false,false,false,false,false] (by kernel_rfl) rfl rfl ⟨(blk_cell BK666.out 0).trans rfl,(blk_cell BK666.out 1).trans rfl⟩ (fun hHeld=>?_);refine with_tabW impl_SweepArena.tab19 impl_SweepArena.bits19 (fun HT_ HW_=>?_);generalize w63.drew = w64 at HO_6 HO_7 HO_11 HO_662000 BK641 BK642 BK661 BK666 HB hHeld ⊢;refine pure_ (i:=0) (N:=some 72) (v:=?_) (a':=?_) #[true,false,false,false,false,false,false,false] rfl rfl (any_of HT_.out (by kernel_rfl)) (fun _ _ _ h=>h) (Or.inl ⟨by rfl,?_⟩) ?_ ?_;rotate_left
             ·intro w';go_simp;with_reducible rfl
             rotate_left
             ·simp only [Act.put,List.setIfInBounds_toArray,List.set_cons_zero,List.set_cons_succ,i64_w,i32_w];rfl
             refine pure_ (i:=2) (N:=some 74) (v:=?_) (a':=?_) #[true,false,true,false,false,false,false,false] rfl rfl (any_of HT_.out (by kernel_rfl)) (fun _ _ _ h=>h) (Or.inl ⟨by rfl,?_⟩) ?_ ?_;rotate_left
             ·intro w';go_simp;with_reducible rfl
             rotate_left
             ·simp only [Act.put,List.setIfInBounds_toArray,List.set_cons_zero,List.set_cons_succ,i64_w,i32_w];rfl
             refine take_ (i:=1) (N:=some 73) (v:=?_) (a':=?_) #[true,true,true,false,false,false,false,false] rfl rfl (take_ofW HT_.out HW_.out (by kernel_rfl)) (fun _ _ _ h=>h) (Or.inl ⟨by rfl,?_⟩) hHeld ?_ ?_;rotate_left
             ·rintro w' ⟨s0,s1⟩;go_simp;with_reducible rfl
             rotate_left
             ·simp only [Act.put,List.setIfInBounds_toArray,List.set_cons_zero,List.set_cons_succ,i64_w,i32_w];rfl
             refine take_ (i:=3) (N:=some 75) (v:=?_) (a':=?_) #[true,true,true,true,false,false,false,false] rfl rfl (take_ofW HT_.out HW_.out (by kernel_rfl)) (fun _ _ _ h=>h) (Or.inl ⟨by rfl,?_⟩) hHeld ?_ ?_;rotate_left
             ·rintro w' ⟨s0,s1⟩;go_simp;with_reducible rfl
             rotate_left
             ·simp only [Act.put,List.setIfInBounds_toArray,List.set_cons_zero,List.set_cons_succ,i64_w,i32_w];rfl
             refine join_ (σ:=Value × Nat) 1 #[true,true,true,true,true,true,true,false] (fun s_=>[(76,s_.1),(14,.pointer (some ⟨s_.2,0,none⟩)),(77,.agg #[.bool ((rd_T133 l0_0 x57_2).f0),s_.1])]) (fun s_ w'=>(w'.cell? ⟨gb666,0,none⟩ = some (.bool ((rd_T133 l0_0 x57_2).f0)) ∧ w'.cell? ⟨gb666,1,none⟩ = some (.slice A665_1 ((rd_T133 l0_0 x57_2).f1).length c665_1)) ∧ (Kd.R (Kd.int .i64) 3 w' w.heap.size (fun k_=>some k_ ≠ (.slice (some ⟨go49,0,none⟩) x11_2.length co49 : Value).ownBlock ∧ some k_ ≠ (v644 : Value).ownBlock ∧ some k_ ≠ (.slice Ao57 x7_2.length co57 : Value).ownBlock) s_.1 t669) ∧ (Kd.R (Kd.int .i64) 3 w' w.heap.size (fun k_=>some k_ ≠ (s_.1 : Value).ownBlock ∧ some k_ ≠ (v644 : Value).ownBlock ∧ some k_ ≠ (.slice Ao57 x7_2.length co57 : Value).ownBlock) (.slice (some ⟨go49,0,none⟩) x11_2.length co49) y668) ∧ (Kd.R (Kd.int .i64) 3 w' w.heap.size (fun k_=>some k_ ≠ (s_.1 : Value).ownBlock ∧ some k_ ≠ (.slice (some ⟨go49,0,none⟩) x11_2.length co49 : Value).ownBlock ∧ some k_ ≠ (.slice Ao57 x7_2.length co57 : Value).ownBlock) v644 x6_2) ∧ (Kd.S k133 133 w' w.heap.size (fun k_=>some k_ ≠ (s_.1 : Value).ownBlock ∧ some k_ ≠ (.slice (some ⟨go49,0,none⟩) x11_2.length co49 : Value).ownBlock ∧ some k_ ≠ (v644 : Value).ownBlock ∧ some k_ ≠ (.slice Ao57 x7_2.length co57 : Value).ownBlock ∧ k_ ≠ gb666 ∧ k_ ≠ s_.2) (.slice Ao61 x662000_2.length co61) x662000_2) ∧ (Kd.R (Kd.int .i64) 3 w' w.heap.size (fun k_=>some k_ ≠ (s_.1 : Value).ownBlock ∧ some k_ ≠ (.slice (some ⟨go49,0,none⟩) x11_2.length co49 : Value).ownBlock ∧ some k_ ≠ (v644 : Value).ownBlock) (.slice Ao57 x7_2.length co57) x7_2) ∧ (w'.heap[gb641]? = some (.cells #[.slice (some ad665) l0_0.length c0_0] 44 (0,0))) ∧ (w'.heap[gb642]? = some (.cells #[.slice none 0 0] 44 (0,0))) ∧ (w'.heap[gb661]? = some (.cells #[.slice Ao61 x662000_2.length co61] 44 (0,0))) ∧ (w'.heap[gb666]? = some (.cells #[.bool ((rd_T133 l0_0 x57_2).f0),.slice A665_1 ((rd_T133 l0_0 x57_2).f1).length c665_1] 133 (0,0))) ∧ (w'.heap[s_.2]? = some (.cells #[.bool false,.slice none 0 0] 133 (0,0))) ∧ (w.heap.size ≤ s_.2) ∧ (w.heap.size ≤ s_.2) ∧ (gb641 ≠ s_.2) ∧ (s_.2 ≠ gb641) ∧ (gb642 ≠ s_.2) ∧ (s_.2 ≠ gb642) ∧ (gb661 ≠ s_.2) ∧ (s_.2 ≠ gb661) ∧ (gb666 ≠ s_.2) ∧ (s_.2 ≠ gb666) ∧ (Below w.heap.size w w')) ?_ ?_;rotate_left
             ·intro hCont;refine two_ (i:=4) (j:=6) (Ni:=some 76) (Nj:=some 14) #[true,true,true,true,true,false,false,false] #[true,true,true,true,false,false,true,false] rfl rfl rfl rfl (two_of HT_.out (by kernel_rfl)) (by decide) (by decide) (fun K hK=>?_) (fun K hK=>?_)
              ·skip
               refine goes_ Try.func91 (by kernel_rfl) rfl #[.slice A665_1 ((rd_T133 l0_0 x57_2).f1).length c665_1] (by rfl) rfl rfl (by (try simp only [List.map_toArray,List.map_cons,List.map_nil]);first | done | rfl | (simp only [List.length_drop,List.length_take];rfl)) ?_;with_reducible refine (impl_copyInts.calls _ _ ((rd_T133 l0_0 x57_2).f1) t669 _ ?side1 ?side2 A50.out).mono ?_
               (case side1=>repeat (first | exact (Kd.C_below HR665_1.out HB.out) | (with_reducible refine Kd.C_alloc ?_ _) | (with_reducible refine Kd.C_drewN ?_ _) | (with_reducible refine Kd.C_drew ?_)))
               (case side2=>exact HC665_1.out)
               rintro e w65 ⟨v670,rfl,ho0,hb⟩;refine ⟨_,rfl,?_⟩;have n0_:=Aside0.mk (Kd.R_elder' (rs HO_6) (Kd.R_base ho0) hb);have n1_:=Aside0.mk (Kd.R_elder' (rs HO_7) (Kd.R_base ho0) hb);have n2_:=Aside0.mk (Kd.R_elder' (rs HO_11) (Kd.R_base ho0) hb);have n3_:=Aside0.mk (Kd.S_elder' (ss HO_662000) (Kd.R_base ho0) hb);have n4_:=Aside0.mk (Kd.R_lower (Kd.R_new' (Kd.R_new' (Kd.R_new' ho0 (Kd.R_lt (rs HO_6))) (Kd.R_lt (rs HO_7))) (Kd.R_lt (rs HO_11))) (below_size (hs4 HB GE641 GE642 GE661 GE666)));have n5_:=Aside0.mk (blk_below (g:=gb641) (o:=.cells #[.slice (some ad665) l0_0.length c0_0] 44 (0,0)) (bs BK641) hb);have n6_:=Aside0.mk (blk_below (g:=gb642) (o:=.cells #[.slice none 0 0] 44 (0,0)) (bs BK642) hb);have n7_:=Aside0.mk (blk_below (g:=gb661) (o:=.cells #[.slice Ao61 x662000_2.length co61] 44 (0,0)) (bs BK661) hb);have n8_:=Aside0.mk (blk_below (g:=gb666) (o:=.cells #[.bool ((rd_T133 l0_0 x57_2).f0),.slice A665_1 ((rd_T133 l0_0 x57_2).f1).length c665_1] 133 (0,0)) (bs BK666) hb);have n9_:=Aside0.mk (below_step (hs4 HB GE641 GE642 GE661 GE666) hb);clear HO_6;clear HO_7;clear HO_11;clear HO_662000;clear BK641;clear BK642;clear BK661;clear BK666;clear HB;have HO_6:=n0_;have HO_7:=n1_;have HO_11:=n2_;have HO_662000:=n3_;have HO671:=n4_;have BK641:=n5_;have BK642:=n6_;have BK661:=n7_;have BK666:=n8_;have HB:=n9_;clear n0_ n1_ n2_ n3_ n4_ n5_ n6_ n7_ n8_ n9_
               (try clear hb)
               (try clear hb2)
               (try clear hk)
               (try clear hi)
               (try clear ho0)
               obtain ⟨Ao66,co66,eo66⟩:=Kd.R_slice HO671.out
               (first | subst eo66 | (injection eo66 with f1_ f2_ f3_;have f4_:=f1_.symm;have f5_:=f3_.symm;clear f1_ f2_ f3_;subst f4_;subst f5_))
               refine hK.out _ _ ⟨(blk_cell BK666.out 0).trans rfl,(blk_cell BK666.out 1).trans rfl⟩ (fun hHeld=>?_);clear hK K;refine norm_ (a':=?_) ?_ ?_;rotate_left
               ·show Act.put _ (some 76) _ = _;simp only [Act.put,List.setIfInBounds_toArray,List.set_cons_zero,List.set_cons_succ,i64_w,i32_w];rfl
               refine pure_ (i:=5) (N:=some 77) (v:=?_) (a':=?_) #[true,true,true,true,true,true,false,false] rfl rfl (any_of HT_.out (by kernel_rfl)) (fun _ _ _ h=>h) (Or.inl ⟨by rfl,?_⟩) ?_ ?_;rotate_left
               ·intro w';go_simp;with_reducible rfl
               rotate_left
               ·simp only [Act.put,List.setIfInBounds_toArray,List.set_cons_zero,List.set_cons_succ,i64_w,i32_w];rfl
               refine one_ (i:=6) (N:=some 14) #[true,true,true,true,true,true,true,false] rfl rfl (one_of HT_.out (by kernel_rfl)) (by decide) (fun K hK=>?_);refine box_step ?hg (N:=14) ?hd (cs:=#[.bool false,.slice none 0 0]) (t:=133) ?hr ?_;(case hd=>rfl);(case hg=>rfl);(case hr=>first | (go_simp;done) | (go_simp;rfl));intro gb672 hg w67 hbox hb;have n0_:=Aside0.mk (Kd.R_below (rs HO_6) hb);have n1_:=Aside0.mk (Kd.R_below (rs HO_7) hb);have n2_:=Aside0.mk (Kd.R_below (rs HO_11) hb);have n3_:=Aside0.mk (Kd.S_below (Kd.S_elderB (ss HO_662000) gb672 (Nat.le_of_eq hg.symm)) hb);have n4_:=Aside0.mk (Kd.R_below (rs HO671) hb);have n5_:=Aside0.mk (blk_below (g:=gb641) (o:=.cells #[.slice (some ad665) l0_0.length c0_0] 44 (0,0)) (bs BK641) hb);have n6_:=Aside0.mk (blk_below (g:=gb642) (o:=.cells #[.slice none 0 0] 44 (0,0)) (bs BK642) hb);have n7_:=Aside0.mk (blk_below (g:=gb661) (o:=.cells #[.slice Ao61 x662000_2.length co61] 44 (0,0)) (bs BK661) hb);have n8_:=Aside0.mk (blk_below (g:=gb666) (o:=.cells #[.bool ((rd_T133 l0_0 x57_2).f0),.slice A665_1 ((rd_T133 l0_0 x57_2).f1).length c665_1] 133 (0,0)) (bs BK666) hb);have n9_:=Aside0.mk (below_step (hs4 HB GE641 GE642 GE661 GE666) hb);have n10_:=Aside0.mk (hbox);have n11_:=Aside0.mk ((by rw [hg];exact (below_size (hs4 HB GE641 GE642 GE661 GE666)) : w.heap.size ≤ gb672));have n12_:=Aside0.mk ((by rw [hg];exact (below_size (hs4 HB GE641 GE642 GE661 GE666)) : w.heap.size ≤ gb672));have n13_:=Aside0.mk ((by rw [hg];exact Nat.ne_of_lt (blk_lt (g:=gb641) (o:=.cells #[.slice (some ad665) l0_0.length c0_0] 44 (0,0)) (bs BK641)) : gb641 ≠ gb672));have n14_:=Aside0.mk ((by rw [hg];exact Nat.ne_of_gt (blk_lt (g:=gb641) (o:=.cells #[.slice (some ad665) l0_0.length c0_0] 44 (0,0)) (bs BK641)) : gb672 ≠ gb641));have n15_:=Aside0.mk ((by rw [hg];exact Nat.ne_of_lt (blk_lt (g:=gb642) (o:=.cells #[.slice none 0 0] 44 (0,0)) (bs BK642)) : gb642 ≠ gb672));have n16_:=Aside0.mk ((by rw [hg];exact Nat.ne_of_gt (blk_lt (g:=gb642) (o:=.cells #[.slice none 0 0] 44 (0,0)) (bs BK642)) : gb672 ≠ gb642));have n17_:=Aside0.mk ((by rw [hg];exact Nat.ne_of_lt (blk_lt (g:=gb661) (o:=.cells #[.slice Ao61 x662000_2.length co61] 44 (0,0)) (bs BK661)) : gb661 ≠ gb672));have n18_:=Aside0.mk ((by rw [hg];exact Nat.ne_of_gt (blk_lt (g:=gb661) (o:=.cells #[.slice Ao61 x662000_2.length co61] 44 (0,0)) (bs BK661)) : gb672 ≠ gb661));have n19_:=Aside0.mk ((by rw [hg];exact Nat.ne_of_lt (blk_lt (g:=gb666) (o:=.cells #[.bool ((rd_T133 l0_0 x57_2).f0),.slice A665_1 ((rd_T133 l0_0 x57_2).f1).length c665_1] 133 (0,0)) (bs BK666)) : gb666 ≠ gb672));have n20_:=Aside0.mk ((by rw [hg];exact Nat.ne_of_gt (blk_lt (g:=gb666) (o:=.cells #[.bool ((rd_T133 l0_0 x57_2).f0),.slice A665_1 ((rd_T133 l0_0 x57_2).f1).length c665_1] 133 (0,0)) (bs BK666)) : gb672 ≠ gb666));clear HO_6;clear HO_7;clear HO_11;clear HO_662000;clear HO671;clear BK641;clear BK642;clear BK661;clear BK666;clear HB;have HO_6:=n0_;have HO_7:=n1_;have HO_11:=n2_;have HO_662000:=n3_;have HO671:=n4_;have BK641:=n5_;have BK642:=n6_;have BK661:=n7_;have BK666:=n8_;have HB:=n9_;have BK672:=n10_;have GW672:=n11_;have GE672:=n12_;have NB641_672:=n13_;have NB672_641:=n14_;have NB642_672:=n15_;have NB672_642:=n16_;have NB661_672:=n17_;have NB672_661:=n18_;have NB666_672:=n19_;have NB672_666:=n20_;clear n0_ n1_ n2_ n3_ n4_ n5_ n6_ n7_ n8_ n9_ n10_ n11_ n12_ n13_ n14_ n15_ n16_ n17_ n18_ n19_ n20_;clear hb hbox hg;refine hK.out _ _ ⟨(blk_cell BK666.out 0).trans rfl,(blk_cell BK666.out 1).trans rfl⟩ (fun hHeld=>?_);clear hK K;refine norm_ (a':=?_) ?_ ?_;rotate_left
               ·show Act.put _ (some 14) _ = _;simp only [Act.put,List.setIfInBounds_toArray,List.set_cons_zero,List.set_cons_succ,i64_w,i32_w];rfl
               exact norm_ (by simp only [putAll,Act.put,List.setIfInBounds_toArray,List.set_cons_zero,List.set_cons_succ]) (hCont (.slice Ao66 t669.length co66,gb672) _ ⟨hHeld,(by (with_reducible repeat (first | apply Kd.R_alloc | apply Kd.R_drewN | apply Kd.R_drew));exact Kd.R_mono HO671.out (fun _ hk=>⟨hk.2,⟨hk.1.1.2,hk.1.2⟩⟩)),(by (with_reducible repeat (first | apply Kd.R_alloc | apply Kd.R_drewN | apply Kd.R_drew));exact Kd.R_mono HO_11.out (fun _ hk=>⟨hk.2,⟨hk.1.1,hk.1.2⟩⟩)),(by (with_reducible repeat (first | apply Kd.R_alloc | apply Kd.R_drewN | apply Kd.R_drew));exact Kd.R_mono HO_6.out (fun _ hk=>⟨hk.2,⟨hk.1.2,hk.1.1⟩⟩)),(by (with_reducible repeat (first | apply Kd.S_alloc | apply Kd.S_drewN | apply Kd.S_drew));exact Kd.S_mono HO_662000.out (fun _ hk=>⟨hk.1.2,⟨hk.1.1.2,⟨hk.1.1.1.1,⟨hk.1.1.1.2.1,⟨hk.1.1.1.2.2,hk.2⟩⟩⟩⟩⟩)),(by (with_reducible repeat (first | apply Kd.R_alloc | apply Kd.R_drewN | apply Kd.R_drew));exact Kd.R_mono HO_7.out (fun _ hk=>⟨hk.2,⟨hk.1.2,hk.1.1⟩⟩)),(bs BK641),(bs BK642),(bs BK661),(bs BK666),(bs BK672),GW672.out,GE672.out,NB641_672.out,NB672_641.out,NB642_672.out,NB672_642.out,NB661_672.out,NB672_661.out,NB666_672.out,NB672_666.out,(hs5 HB GE641 GE642 GE661 GE666 GE672)⟩)
              skip
              refine box_step ?hg (N:=14) ?hd (cs:=#[.bool false,.slice none 0 0]) (t:=133) ?hr ?_;(case hd=>rfl);(case hg=>rfl);(case hr=>first | (go_simp;done) | (go_simp;rfl));intro gb672 hg w65 hbox hb;have n0_:=Aside0.mk (Kd.R_below (rs HO_6) hb);have n1_:=Aside0.mk (Kd.R_below (rs HO_7) hb);have n2_:=Aside0.mk (Kd.R_below (rs HO_11) hb);have n3_:=Aside0.mk (Kd.S_below (Kd.S_elderB (ss HO_662000) gb672 (Nat.le_of_eq hg.symm)) hb);have n4_:=Aside0.mk (blk_below (g:=gb641) (o:=.cells #[.slice (some ad665) l0_0.length c0_0] 44 (0,0)) (bs BK641) hb);have n5_:=Aside0.mk (blk_below (g:=gb642) (o:=.cells #[.slice none 0 0] 44 (0,0)) (bs BK642) hb);have n6_:=Aside0.mk (blk_below (g:=gb661) (o:=.cells #[.slice Ao61 x662000_2.length co61] 44 (0,0)) (bs BK661) hb);have n7_:=Aside0.mk (blk_below (g:=gb666) (o:=.cells #[.bool ((rd_T133 l0_0 x57_2).f0),.slice A665_1 ((rd_T133 l0_0 x57_2).f1).length c665_1] 133 (0,0)) (bs BK666) hb);have n8_:=Aside0.mk (below_step (hs4 HB GE641 GE642 GE661 GE666) hb);have n9_:=Aside0.mk (hbox);have n10_:=Aside0.mk ((by rw [hg];exact (below_size (hs4 HB GE641 GE642 GE661 GE666)) : w.heap.size ≤ gb672));have n11_:=Aside0.mk ((by rw [hg];exact (below_size (hs4 HB GE641 GE642 GE661 GE666)) : w.heap.size ≤ gb672));have n12_:=Aside0.mk ((by rw [hg];exact Nat.ne_of_lt (blk_lt (g:=gb641) (o:=.cells #[.slice (some ad665) l0_0.length c0_0] 44 (0,0)) (bs BK641)) : gb641 ≠ gb672));have n13_:=Aside0.mk ((by rw [hg];exact Nat.ne_of_gt (blk_lt (g:=gb641) (o:=.cells #[.slice (some ad665) l0_0.length c0_0] 44 (0,0)) (bs BK641)) : gb672 ≠ gb641));have n14_:=Aside0.mk ((by rw [hg];exact Nat.ne_of_lt (blk_lt (g:=gb642) (o:=.cells #[.slice none 0 0] 44 (0,0)) (bs BK642)) : gb642 ≠ gb672));have n15_:=Aside0.mk ((by rw [hg];exact Nat.ne_of_gt (blk_lt (g:=gb642) (o:=.cells #[.slice none 0 0] 44 (0,0)) (bs BK642)) : gb672 ≠ gb642));have n16_:=Aside0.mk ((by rw [hg];exact Nat.ne_of_lt (blk_lt (g:=gb661) (o:=.cells #[.slice Ao61 x662000_2.length co61] 44 (0,0)) (bs BK661)) : gb661 ≠ gb672));have n17_:=Aside0.mk ((by rw [hg];exact Nat.ne_of_gt (blk_lt (g:=gb661) (o:=.cells #[.slice Ao61 x662000_2.length co61] 44 (0,0)) (bs BK661)) : gb672 ≠ gb661));have n18_:=Aside0.mk ((by rw [hg];exact Nat.ne_of_lt (blk_lt (g:=gb666) (o:=.cells #[.bool ((rd_T133 l0_0 x57_2).f0),.slice A665_1 ((rd_T133 l0_0 x57_2).f1).length c665_1] 133 (0,0)) (bs BK666)) : gb666 ≠ gb672));have n19_:=Aside0.mk ((by rw [hg];exact Nat.ne_of_gt (blk_lt (g:=gb666) (o:=.cells #[.bool ((rd_T133 l0_0 x57_2).f0),.slice A665_1 ((rd_T133 l0_0 x57_2).f1).length c665_1] 133 (0,0)) (bs BK666)) : gb672 ≠ gb666));clear HO_6;clear HO_7;clear HO_11;clear HO_662000;clear BK641;clear BK642;clear BK661;clear BK666;clear HB;have HO_6:=n0_;have HO_7:=n1_;have HO_11:=n2_;have HO_662000:=n3_;have BK641:=n4_;have BK642:=n5_;have BK661:=n6_;have BK666:=n7_;have HB:=n8_;have BK672:=n9_;have GW672:=n10_;have GE672:=n11_;have NB641_672:=n12_;have NB672_641:=n13_;have NB642_672:=n14_;have NB672_642:=n15_;have NB661_672:=n16_;have NB672_661:=n17_;have NB666_672:=n18_;have NB672_666:=n19_;clear n0_ n1_ n2_ n3_ n4_ n5_ n6_ n7_ n8_ n9_ n10_ n11_ n12_ n13_ n14_ n15_ n16_ n17_ n18_ n19_;clear hb hbox hg;refine hK.out _ _ ⟨(blk_cell BK666.out 0).trans rfl,(blk_cell BK666.out 1).trans rfl⟩ (fun hHeld=>?_);clear hK K;refine norm_ (a':=?_) ?_ ?_;rotate_left
              ·show Act.put _ (some 14) _ = _;simp only [Act.put,List.setIfInBounds_toArray,List.set_cons_zero,List.set_cons_succ,i64_w,i32_w];rfl
              refine one_ (i:=4) (N:=some 76) #[true,true,true,true,true,false,true,false] rfl rfl (one_of HT_.out (by kernel_rfl)) (by decide) (fun K hK=>?_);refine goes_ Try.func91 (by kernel_rfl) rfl #[.slice A665_1 ((rd_T133 l0_0 x57_2).f1).length c665_1] (by rfl) rfl rfl (by (try simp only [List.map_toArray,List.map_cons,List.map_nil]);first | done | rfl | (simp only [List.length_drop,List.length_take];rfl)) ?_;with_reducible refine (impl_copyInts.calls _ _ ((rd_T133 l0_0 x57_2).f1) t669 _ ?side1 ?side2 A50.out).mono ?_
              (case side1=>repeat (first | exact (Kd.C_below HR665_1.out HB.out) | (with_reducible refine Kd.C_alloc ?_ _) | (with_reducible refine Kd.C_drewN ?_ _) | (with_reducible refine Kd.C_drew ?_)))
              (case side2=>exact HC665_1.out)
              rintro e w66 ⟨v670,rfl,ho0,hb⟩;refine ⟨_,rfl,?_⟩;have n0_:=Aside0.mk (Kd.R_elder' (rs HO_6) (Kd.R_base ho0) hb);have n1_:=Aside0.mk (Kd.R_elder' (rs HO_7) (Kd.R_base ho0) hb);have n2_:=Aside0.mk (Kd.R_elder' (rs HO_11) (Kd.R_base ho0) hb);have n3_:=Aside0.mk (Kd.S_elder' (ss HO_662000) (Kd.R_base ho0) hb);have n4_:=Aside0.mk (Kd.R_lower (Kd.R_new' (Kd.R_new' (Kd.R_new' ho0 (Kd.R_lt (rs HO_6))) (Kd.R_lt (rs HO_7))) (Kd.R_lt (rs HO_11))) (below_size (hs5 HB GE641 GE642 GE661 GE666 GE672)));have n5_:=Aside0.mk (blk_below (g:=gb641) (o:=.cells #[.slice (some ad665) l0_0.length c0_0] 44 (0,0)) (bs BK641) hb);have n6_:=Aside0.mk (blk_below (g:=gb642) (o:=.cells #[.slice none 0 0] 44 (0,0)) (bs BK642) hb);have n7_:=Aside0.mk (blk_below (g:=gb661) (o:=.cells #[.slice Ao61 x662000_2.length co61] 44 (0,0)) (bs BK661) hb);have n8_:=Aside0.mk (blk_below (g:=gb666) (o:=.cells #[.bool ((rd_T133 l0_0 x57_2).f0),.slice A665_1 ((rd_T133 l0_0 x57_2).f1).length c665_1] 133 (0,0)) (bs BK666) hb);have n9_:=Aside0.mk (blk_below (g:=gb672) (o:=.cells #[.bool false,.slice none 0 0] 133 (0,0)) (bs BK672) hb);have n10_:=Aside0.mk (below_step (hs5 HB GE641 GE642 GE661 GE666 GE672) hb);clear HO_6;clear HO_7;clear HO_11;clear HO_662000;clear BK641;clear BK642;clear BK661;clear BK666;clear BK672;clear HB;have HO_6:=n0_;have HO_7:=n1_;have HO_11:=n2_;have HO_662000:=n3_;have HO671:=n4_;have BK641:=n5_;have BK642:=n6_;have BK661:=n7_;have BK666:=n8_;have BK672:=n9_;have HB:=n10_;clear n0_ n1_ n2_ n3_ n4_ n5_ n6_ n7_ n8_ n9_ n10_
              (try clear hb)
              (try clear hb2)
              (try clear hk)
              (try clear hi)
              (try clear ho0)
              obtain ⟨Ao67,co67,eo67⟩:=Kd.R_slice HO671.out
              (first | subst eo67 | (injection eo67 with f1_ f2_ f3_;have f4_:=f1_.symm;have f5_:=f3_.symm;clear f1_ f2_ f3_;subst f4_;subst f5_))
              refine hK.out _ _ ⟨(blk_cell BK666.out 0).trans rfl,(blk_cell BK666.out 1).trans rfl⟩ (fun hHeld=>?_);clear hK K;refine norm_ (a':=?_) ?_ ?_;rotate_left
              ·show Act.put _ (some 76) _ = _;simp only [Act.put,List.setIfInBounds_toArray,List.set_cons_zero,List.set_cons_succ,i64_w,i32_w];rfl
              refine pure_ (i:=5) (N:=some 77) (v:=?_) (a':=?_) #[true,true,true,true,true,true,true,false] rfl rfl (any_of HT_.out (by kernel_rfl)) (fun _ _ _ h=>h) (Or.inl ⟨by rfl,?_⟩) ?_ ?_;rotate_left
              ·intro w';go_simp;with_reducible rfl
              rotate_left
              ·simp only [Act.put,List.setIfInBounds_toArray,List.set_cons_zero,List.set_cons_succ,i64_w,i32_w];rfl
              exact norm_ (by simp only [putAll,Act.put,List.setIfInBounds_toArray,List.set_cons_zero,List.set_cons_succ]) (hCont (.slice Ao67 t669.length co67,gb672) _ ⟨hHeld,(by (with_reducible repeat (first | apply Kd.R_alloc | apply Kd.R_drewN | apply Kd.R_drew));exact Kd.R_mono HO671.out (fun _ hk=>⟨hk.2,⟨hk.1.1.2,hk.1.2⟩⟩)),(by (with_reducible repeat (first | apply Kd.R_alloc | apply Kd.R_drewN | apply Kd.R_drew));exact Kd.R_mono HO_11.out (fun _ hk=>⟨hk.2,⟨hk.1.1,hk.1.2⟩⟩)),(by (with_reducible repeat (first | apply Kd.R_alloc | apply Kd.R_drewN | apply Kd.R_drew));exact Kd.R_mono HO_6.out (fun _ hk=>⟨hk.2,⟨hk.1.2,hk.1.1⟩⟩)),(by (with_reducible repeat (first | apply Kd.S_alloc | apply Kd.S_drewN | apply Kd.S_drew));exact Kd.S_mono HO_662000.out (fun _ hk=>⟨hk.2,⟨hk.1.1.2,⟨hk.1.1.1.1,⟨hk.1.1.1.2.1,⟨hk.1.1.1.2.2,hk.1.2⟩⟩⟩⟩⟩)),(by (with_reducible repeat (first | apply Kd.R_alloc | apply Kd.R_drewN | apply Kd.R_drew));exact Kd.R_mono HO_7.out (fun _ hk=>⟨hk.2,⟨hk.1.2,hk.1.1⟩⟩)),(bs BK641),(bs BK642),(bs BK661),(bs BK666),(bs BK672),GW672.out,GE672.out,NB641_672.out,NB672_641.out,NB642_672.out,NB672_642.out,NB661_672.out,NB672_661.out,NB666_672.out,NB672_666.out,(hs5 HB GE641 GE642 GE661 GE666 GE672)⟩)
             rintro ⟨v670,gb672⟩ w68 ⟨hS_,h0_,h1_,h2_,h3_,h4_,h5_,h6_,h7_,h8_,h9_,h10_,h11_,h12_,h13_,h14_,h15_,h16_,h17_,h18_,h19_,h20_⟩;have n0_ : Aside0 (Kd.R (Kd.int .i64) 3 w68 w.heap.size (fun k_=>some k_ ≠ (.slice (some ⟨go49,0,none⟩) x11_2.length co49 : Value).ownBlock ∧ some k_ ≠ (v644 : Value).ownBlock ∧ some k_ ≠ (.slice Ao57 x7_2.length co57 : Value).ownBlock) v670 t669):=⟨h0_⟩;have n1_ : Aside0 (Kd.R (Kd.int .i64) 3 w68 w.heap.size (fun k_=>some k_ ≠ (v670 : Value).ownBlock ∧ some k_ ≠ (v644 : Value).ownBlock ∧ some k_ ≠ (.slice Ao57 x7_2.length co57 : Value).ownBlock) (.slice (some ⟨go49,0,none⟩) x11_2.length co49) y668):=⟨h1_⟩;have n2_ : Aside0 (Kd.R (Kd.int .i64) 3 w68 w.heap.size (fun k_=>some k_ ≠ (v670 : Value).ownBlock ∧ some k_ ≠ (.slice (some ⟨go49,0,none⟩) x11_2.length co49 : Value).ownBlock ∧ some k_ ≠ (.slice Ao57 x7_2.length co57 : Value).ownBlock) v644 x6_2):=⟨h2_⟩;have n3_ : Aside0 (Kd.S k133 133 w68 w.heap.size (fun k_=>some k_ ≠ (v670 : Value).ownBlock ∧ some k_ ≠ (.slice (some ⟨go49,0,none⟩) x11_2.length co49 : Value).ownBlock ∧ some k_ ≠ (v644 : Value).ownBlock ∧ some k_ ≠ (.slice Ao57 x7_2.length co57 : Value).ownBlock ∧ k_ ≠ gb666 ∧ k_ ≠ gb672) (.slice Ao61 x662000_2.length co61) x662000_2):=⟨h3_⟩;have n4_ : Aside0 (Kd.R (Kd.int .i64) 3 w68 w.heap.size (fun k_=>some k_ ≠ (v670 : Value).ownBlock ∧ some k_ ≠ (.slice (some ⟨go49,0,none⟩) x11_2.length co49 : Value).ownBlock ∧ some k_ ≠ (v644 : Value).ownBlock) (.slice Ao57 x7_2.length co57) x7_2):=⟨h4_⟩;have n5_ : Aside0 (w68.heap[gb641]? = some (.cells #[.slice (some ad665) l0_0.length c0_0] 44 (0,0))):=⟨h5_⟩;have n6_ : Aside0 (w68.heap[gb642]? = some (.cells #[.slice none 0 0] 44 (0,0))):=⟨h6_⟩;have n7_ : Aside0 (w68.heap[gb661]? = some (.cells #[.slice Ao61 x662000_2.length co61] 44 (0,0))):=⟨h7_⟩;have n8_ : Aside0 (w68.heap[gb666]? = some (.cells #[.bool ((rd_T133 l0_0 x57_2).f0),.slice A665_1 ((rd_T133 l0_0 x57_2).f1).length c665_1] 133 (0,0))):=⟨h8_⟩;have n9_ : Aside0 (w68.heap[gb672]? = some (.cells #[.bool false,.slice none 0 0] 133 (0,0))):=⟨h9_⟩;have n10_ : Aside0 (w.heap.size ≤ gb672):=⟨h10_⟩;have n11_ : Aside0 (w.heap.size ≤ gb672):=⟨h11_⟩;have n12_ : Aside0 (gb641 ≠ gb672):=⟨h12_⟩;have n13_ : Aside0 (gb672 ≠ gb641):=⟨h13_⟩;have n14_ : Aside0 (gb642 ≠ gb672):=⟨h14_⟩;have n15_ : Aside0 (gb672 ≠ gb642):=⟨h15_⟩;have n16_ : Aside0 (gb661 ≠ gb672):=⟨h16_⟩;have n17_ : Aside0 (gb672 ≠ gb661):=⟨h17_⟩;have n18_ : Aside0 (gb666 ≠ gb672):=⟨h18_⟩;have n19_ : Aside0 (gb672 ≠ gb666):=⟨h19_⟩;have n20_ : Aside0 (Below w.heap.size w w68):=⟨h20_⟩;clear HO_6;clear HO_7;clear HO_11;clear HO_662000;clear BK641;clear BK642;clear BK661;clear BK666;clear HB;clear h0_ h1_ h2_ h3_ h4_ h5_ h6_ h7_ h8_ h9_ h10_ h11_ h12_ h13_ h14_ h15_ h16_ h17_ h18_ h19_ h20_;have HO671:=n0_;have HO_11:=n1_;have HO_6:=n2_;have HO_662000:=n3_;have HO_7:=n4_;have BK641:=n5_;have BK642:=n6_;have BK661:=n7_;have BK666:=n8_;have BK672:=n9_;have GW672:=n10_;have GE672:=n11_;have NB641_672:=n12_;have NB672_641:=n13_;have NB642_672:=n14_;have NB672_642:=n15_;have NB661_672:=n16_;have NB672_661:=n17_;have NB666_672:=n18_;have NB672_666:=n19_;have HB:=n20_;clear n0_ n1_ n2_ n3_ n4_ n5_ n6_ n7_ n8_ n9_ n10_ n11_ n12_ n13_ n14_ n15_ n16_ n17_ n18_ n19_ n20_;have hHeld : w68.cell? ⟨gb666,0,none⟩ = some (.bool ((rd_T133 l0_0 x57_2).f0)) ∧ w68.cell? ⟨gb666,1,none⟩ = some (.slice A665_1 ((rd_T133 l0_0 x57_2).f1).length c665_1):=hS_;obtain ⟨Ao69,co69,eo69⟩:=Kd.R_slice HO671.out
             (first | subst eo69 | (injection eo69 with f1_ f2_ f3_;have f4_:=f1_.symm;have f5_:=f3_.symm;clear f1_ f2_ f3_;subst f4_;subst f5_))
             refine norm_ (a':=?_) ?_ ?_;rotate_left
             ·simp only [putAll,Act.put,List.setIfInBounds_toArray,List.set_cons_zero,List.set_cons_succ];rfl
             refine one_ (i:=7) (N:=none) #[true,true,true,true,true,true,true,true] rfl rfl (one_of HT_.out (by kernel_rfl)) (by decide) (fun K hK=>?_);have hs70 : w68.cell? ⟨gb672,0,none⟩ = some (.bool false):=(blk_cell BK672.out 0).trans rfl;have hfs70:=blk_frozen BK672.out 0;have hns70_0:=NB641_672.out;have hns70_1:=NB642_672.out;have hns70_2:=NB661_672.out;have hns70_3:=NB666_672.out;have hms70_0:=NB672_641.out;have hms70_1:=NB672_642.out;have hms70_2:=NB672_661.out;have hms70_3:=NB672_666.out;have hs71 : w68.cell? ⟨gb672,1,none⟩ = some (.slice none 0 0):=(blk_cell BK672.out 1).trans rfl;have hfs71:=blk_frozen BK672.out 1;have hns71_0:=NB641_672.out;have hns71_1:=NB642_672.out;have hns71_2:=NB661_672.out;have hns71_3:=NB666_672.out;have hms71_0:=NB672_641.out;have hms71_1:=NB672_642.out;have hms71_2:=NB672_661.out;have hms71_3:=NB672_666.out;refine skip_ (w1:=?_) (by rfl) rfl ?_ ?_;rotate_left
             ·go_simp;rfl
             refine hK.out _ _ ⟨((cell_far (p:=⟨gb672,_,none⟩) NB666_672.out _).trans (((cell_far (p:=⟨gb672,_,none⟩) NB666_672.out _).trans (hHeld.1)))),((cell_far (p:=⟨gb672,_,none⟩) NB666_672.out _).trans (((cell_far (p:=⟨gb672,_,none⟩) NB666_672.out _).trans (hHeld.2))))⟩ (fun hHeld=>?_);clear hK K;refine done_ (done_of HT_.out (by kernel_rfl)) ?_;have hnb72:=NB666_672.out;have hnc72:=NB672_666.out;have hcz73_0 : w68.cell? ⟨gb666,0,none⟩ = some (.bool ((rd_T133 l0_0 x57_2).f0)):=(blk_cell BK666.out 0).trans rfl;have hcz73_1 : w68.cell? ⟨gb666,1,none⟩ = some (.slice A665_1 ((rd_T133 l0_0 x57_2).f1).length c665_1):=(blk_cell BK666.out 1).trans rfl;have hfz73_0:=blk_frozen BK666.out 0;have hfz73_1:=blk_frozen BK666.out 1
             try go_wp2
             (try generalize (Value.agg #[.bool ((rd_T133 l0_0 x57_2).f0),.slice A665_1 ((rd_T133 l0_0 x57_2).f1).length c665_1]) = gd61)
             (try generalize (Value.agg #[.bool ((rd_T133 l0_0 x57_2).f0),.slice Ao69 t669.length co69]) = gd77)
             obtain ⟨gdx_,hgdx_⟩ : ∃ v_ : Value,v_ = (Value.bool (rd_T133 l0_0 x57_2).f0):=⟨_,rfl⟩
             (first | (conv=>arg 4;rw [← hgdx_]) | (conv=>arg 5;rw [← hgdx_]) | skip)
             have Ngdx_:=Aside0.mk hgdx_;clear hgdx_;go_loopg [81] k2 (fun kq v81 w'=>∃ (x6_3 : List Int) (x7_3 : List Int) (x11_3 : List Int) (x81_3 : Int) (x673001_3 : List Int) (u673001 : Value),v81 = .int .i64 x81_3 ∧ Aside0 (impl_SweepArena.l2 kq l1 x6_3 x7_3 x11_3 l0_0 (l0_0.length : Int) x57_2 ((rd_T133 l0_0 x57_2).f1) (((rd_T133 l0_0 x57_2).f1).length : Int) x81_3 x662000_2 ((rd_T133 l0_0 x57_2).f0) ((rd_T133 l0_0 x57_2).f1) ((rd_T133 l0_0 x57_2).f0) x673001_3 = some (r1,r2)) ∧ Aside0 (kq ≤ k2) ∧ Aside0 (Kd.R (Kd.int .i64) 3 w' w.heap.size (fun k_=>some k_ ≠ ((.slice Ao57 x7_2.length co57) : Value).ownBlock ∧ some k_ ≠ ((.slice (some ⟨go49,0,none⟩) x11_2.length co49) : Value).ownBlock ∧ some k_ ≠ (u673001 : Value).ownBlock) v644 x6_3) ∧ Aside0 (Kd.R (Kd.int .i64) 3 w' w.heap.size (fun k_=>some k_ ≠ (v644 : Value).ownBlock ∧ some k_ ≠ ((.slice (some ⟨go49,0,none⟩) x11_2.length co49) : Value).ownBlock ∧ some k_ ≠ (u673001 : Value).ownBlock) (.slice Ao57 x7_2.length co57) x7_3) ∧ Aside0 (Kd.R (Kd.int .i64) 3 w' w.heap.size (fun k_=>some k_ ≠ (v644 : Value).ownBlock ∧ some k_ ≠ ((.slice Ao57 x7_2.length co57) : Value).ownBlock ∧ some k_ ≠ (u673001 : Value).ownBlock) (.slice (some ⟨go49,0,none⟩) x11_2.length co49) x11_3) ∧ Aside0 (Kd.S k133 133 w' w.heap.size (fun k_=>some k_ ≠ (v644 : Value).ownBlock ∧ some k_ ≠ ((.slice Ao57 x7_2.length co57) : Value).ownBlock ∧ some k_ ≠ ((.slice (some ⟨go49,0,none⟩) x11_2.length co49) : Value).ownBlock ∧ some k_ ≠ (u673001 : Value).ownBlock ∧ k_ ≠ gb666 ∧ k_ ≠ gb672) (.slice Ao61 x662000_2.length co61) x662000_2) ∧ Aside0 (Kd.R (Kd.int .i64) 3 w' w.heap.size (fun k_=>some k_ ≠ (v644 : Value).ownBlock ∧ some k_ ≠ ((.slice Ao57 x7_2.length co57) : Value).ownBlock ∧ some k_ ≠ ((.slice (some ⟨go49,0,none⟩) x11_2.length co49) : Value).ownBlock) u673001 x673001_3) ∧ Aside0 (w'.heap[gb641]? = some (.cells #[(.slice (some ad665) l0_0.length c0_0)] 44 (0,0))) ∧ Aside0 (w'.heap[gb642]? = some (.cells #[(.slice none 0 0)] 44 (0,0))) ∧ Aside0 (w'.heap[gb661]? = some (.cells #[(.slice Ao61 x662000_2.length co61)] 44 (0,0))) ∧ Aside0 (w'.heap[gb666]? = some (.cells #[.bool ((rd_T133 l0_0 x57_2).f0),(.slice A665_1 ((rd_T133 l0_0 x57_2).f1).length c665_1)] 133 (0,0))) ∧ Aside0 (w'.heap[gb672]? = some (.cells #[.bool ((rd_T133 l0_0 x57_2).f0),u673001] 133 (0,0))) ∧ Aside0 (Below w.heap.size w w'));case atStart=>exact ⟨(x6_2),(x7_2),(y668),(0),(t669),(.slice Ao69 t669.length co69),(by first | rfl | (simp;done) | (simp [*];done)),H',⟨Nat.le_refl _⟩,⟨by (with_reducible repeat (first | apply Kd.R_alloc | apply Kd.R_drewN | apply Kd.R_drew));exact Kd.R_mono (Kd.R_far (p:=⟨gb672,1,none⟩) (Kd.R_far (p:=⟨gb672,0,none⟩) (Kd.R_types HO_6.out BK672.out (by decide)) (fun _ hk=>hk.2) (.bool ((rd_T133 l0_0 x57_2).f0))) (fun _ hk=>hk.2) (.slice Ao69 t669.length co69)) (fun _ hk=>⟨hk.1.2.2,⟨hk.1.2.1,hk.1.1⟩⟩)⟩,⟨by (with_reducible repeat (first | apply Kd.R_alloc | apply Kd.R_drewN | apply Kd.R_drew));exact Kd.R_mono (Kd.R_far (p:=⟨gb672,1,none⟩) (Kd.R_far (p:=⟨gb672,0,none⟩) (Kd.R_types HO_7.out BK672.out (by decide)) (fun _ hk=>hk.2) (.bool ((rd_T133 l0_0 x57_2).f0))) (fun _ hk=>hk.2) (.slice Ao69 t669.length co69)) (fun _ hk=>⟨hk.1.2.2,⟨hk.1.2.1,hk.1.1⟩⟩)⟩,⟨by (with_reducible repeat (first | apply Kd.R_alloc | apply Kd.R_drewN | apply Kd.R_drew));exact Kd.R_mono (Kd.R_far (p:=⟨gb672,1,none⟩) (Kd.R_far (p:=⟨gb672,0,none⟩) (Kd.R_types HO_11.out BK672.out (by decide)) (fun _ hk=>hk.2) (.bool ((rd_T133 l0_0 x57_2).f0))) (fun _ hk=>hk.2) (.slice Ao69 t669.length co69)) (fun _ hk=>⟨hk.1.2.1,⟨hk.1.2.2,hk.1.1⟩⟩)⟩,⟨by (with_reducible repeat (first | apply Kd.S_alloc | apply Kd.S_drewN | apply Kd.S_drew));exact Kd.S_mono (Kd.S_far (p:=⟨gb672,1,none⟩) (Kd.S_far (p:=⟨gb672,0,none⟩) (Kd.S_mono HO_662000.out (fun k_ hk=>(⟨hk,hk.2.2.2.2.2⟩ : _ ∧ k_ ≠ gb672))) (fun _ hk=>hk.2) (.bool ((rd_T133 l0_0 x57_2).f0))) (fun _ hk=>hk.2) (.slice Ao69 t669.length co69)) (fun _ hk=>⟨hk.1.2.2.1,⟨hk.1.2.2.2.1,⟨hk.1.2.1,⟨hk.1.1,⟨hk.1.2.2.2.2.1,hk.1.2.2.2.2.2⟩⟩⟩⟩⟩)⟩,⟨by (with_reducible repeat (first | apply Kd.R_alloc | apply Kd.R_drewN | apply Kd.R_drew));exact Kd.R_mono (Kd.R_far (p:=⟨gb672,1,none⟩) (Kd.R_far (p:=⟨gb672,0,none⟩) (Kd.R_types HO671.out BK672.out (by decide)) (fun _ hk=>hk.2) (.bool ((rd_T133 l0_0 x57_2).f0))) (fun _ hk=>hk.2) (.slice Ao69 t669.length co69)) (fun _ hk=>⟨hk.1.2.1,⟨hk.1.2.2,hk.1.1⟩⟩)⟩,⟨by (with_reducible repeat (first | refine blk_drewN ?_ _ | refine blk_drew ?_ | refine blk_alloc ?_ _));refine blk_far ?_ NB641_672.out _;(with_reducible repeat (first | refine blk_drewN ?_ _ | refine blk_drew ?_ | refine blk_alloc ?_ _));refine blk_far ?_ NB641_672.out _;(with_reducible repeat (first | refine blk_drewN ?_ _ | refine blk_drew ?_ | refine blk_alloc ?_ _));exact BK641.out⟩,⟨by (with_reducible repeat (first | refine blk_drewN ?_ _ | refine blk_drew ?_ | refine blk_alloc ?_ _));refine blk_far ?_ NB642_672.out _;(with_reducible repeat (first | refine blk_drewN ?_ _ | refine blk_drew ?_ | refine blk_alloc ?_ _));refine blk_far ?_ NB642_672.out _;(with_reducible repeat (first | refine blk_drewN ?_ _ | refine blk_drew ?_ | refine blk_alloc ?_ _));exact BK642.out⟩,⟨by (with_reducible repeat (first | refine blk_drewN ?_ _ | refine blk_drew ?_ | refine blk_alloc ?_ _));refine blk_far ?_ NB661_672.out _;(with_reducible repeat (first | refine blk_drewN ?_ _ | refine blk_drew ?_ | refine blk_alloc ?_ _));refine blk_far ?_ NB661_672.out _;(with_reducible repeat (first | refine blk_drewN ?_ _ | refine blk_drew ?_ | refine blk_alloc ?_ _));exact BK661.out⟩,⟨by (with_reducible repeat (first | refine blk_drewN ?_ _ | refine blk_drew ?_ | refine blk_alloc ?_ _));refine blk_far ?_ NB666_672.out _;(with_reducible repeat (first | refine blk_drewN ?_ _ | refine blk_drew ?_ | refine blk_alloc ?_ _));refine blk_far ?_ NB666_672.out _;(with_reducible repeat (first | refine blk_drewN ?_ _ | refine blk_drew ?_ | refine blk_alloc ?_ _));exact BK666.out⟩,⟨by (with_reducible repeat (first | refine blk_drewN ?_ _ | refine blk_drew ?_ | refine blk_alloc ?_ _));refine blk_put (cs:=#[.bool ((rd_T133 l0_0 x57_2).f0),.slice none 0 0]) ?_ 1 _ rfl;(with_reducible repeat (first | refine blk_drewN ?_ _ | refine blk_drew ?_ | refine blk_alloc ?_ _));refine blk_put (cs:=#[.bool false,.slice none 0 0]) ?_ 0 _ rfl;(with_reducible repeat (first | refine blk_drewN ?_ _ | refine blk_drew ?_ | refine blk_alloc ?_ _));exact BK672.out⟩,⟨hs5 HB GE641 GE642 GE661 GE666 GE672⟩⟩
             case round =>
              clear H'
              try clear c1
              try clear c2
              try clear p2
              try clear c3
              try clear c4
              try clear p4
              try clear q4
              try clear hx4
              try clear hf4
              try clear c5
              try clear c6
              try clear p6
              try clear q6
              try clear hx6
              try clear c7
              try clear c7b0
              try clear c8
              try clear c8b0
              try clear c9
              try clear c9b0
              try clear c11
              try clear c11b0
              try clear c11b1
              try clear c13
              try clear c16
              try clear c18
              try clear c24
              try clear c25
              try clear c31
              try clear c32
              try clear c32b0
              try clear c32b1
              try clear c33
              try clear c33b0
              try clear c33b1
              try clear c34
              try clear c38
              try clear c43
              try clear c43b0
              try clear c44
              try clear c44b0
              try clear c45
              try clear c45b0
              try clear c47
              try clear c48
              try clear c48b0
              try clear p49
              try clear q49
              try clear hx49
              try clear hf49
              try clear c52
              try clear c53
              try clear c54
              try clear c58
              try clear c59
              try clear p64
              try clear q64
              try clear hx64
              try clear c66
              try clear p66
              try clear q66
              try clear hx66
              try clear c72
              try clear hcz14_0
              try clear hcz19_0
              try clear hcz22_0
              try clear hcz26_0
              try clear hcz35_0
              try clear hcz39_0
              try clear hcz42_0
              try clear hcz55_0
              try clear hcz55_1
              try clear hcz60_0
              try clear hcz73_0
              try clear hcz73_1
              try clear hfz14_0
              try clear hfz19_0
              try clear hfz22_0
              try clear hfz26_0
              try clear hfz35_0
              try clear hfz39_0
              try clear hfz42_0
              try clear hfz55_0
              try clear hfz55_1
              try clear hfz60_0
              try clear hfz73_0
              try clear hfz73_1
              try clear hx49_0
              try clear hx646_0
              try clear hx665_0
              try clear hx665_1
              try clear p2
              try clear p49
              try clear p6
              try clear p646
              try clear p665
              try clear q49
              try clear q6
              try clear q646
              try clear q665
              obtain ⟨x6_3,x7_3,x11_3,x81_3,x673001_3,u673001,rfl,HA,HK3,HO_6,HO_7,HO_11,HO_662000,HO_673001,BK641,BK642,BK661,BK666,BK672,HB⟩:=hrel;have hl7_3:=(Kd.R_reads' HO_7.out).1;rw [hl7_3] at HO_7
              (try simp only [hl7_3])
              (try simp only [hl7_3] at BK641)
              (try simp only [hl7_3] at BK642)
              (try simp only [hl7_3] at BK661)
              (try simp only [hl7_3] at BK666)
              (try simp only [hl7_3] at BK672)
              (try simp only [hl7_3] at HO_6)
              (try simp only [hl7_3] at HO_11)
              (try simp only [hl7_3] at HO_662000)
              (try simp only [hl7_3] at HO_673001)
              have hl11_3:=(Kd.R_reads' HO_11.out).1;rw [hl11_3] at HO_11
              (try simp only [hl11_3])
              (try simp only [hl11_3] at BK641)
              (try simp only [hl11_3] at BK642)
              (try simp only [hl11_3] at BK661)
              (try simp only [hl11_3] at BK666)
              (try simp only [hl11_3] at BK672)
              (try simp only [hl11_3] at HO_6)
              (try simp only [hl11_3] at HO_7)
              (try simp only [hl11_3] at HO_662000)
              (try simp only [hl11_3] at HO_673001)
              cases gk with
              | zero=>exact absurd HA.out (by simp [impl_SweepArena.l2])
              | succ k3 =>
               have H:=HA.out;clear HA;simp only [impl_SweepArena.l2] at H
               by_cases c74 : x81_3 < (((rd_T133 l0_0 x57_2).f1).length : Int)
               ·rw [if_pos c74] at H;have c74b0 : decide (x81_3 < (((rd_T133 l0_0 x57_2).f1).length : Int)) = true:=decide_eq_true c74;clear c74
                by_cases c75 : 0 ≤ x81_3
                ·rw [if_pos c75] at H;have c75b0 : decide (0 ≤ x81_3) = true:=decide_eq_true c75;clear c75
                 by_cases c76 : x81_3 < (((rd_T133 l0_0 x57_2).f1).length : Int)
                 ·rw [if_pos c76] at H;have c76b0 : decide (x81_3 < (((rd_T133 l0_0 x57_2).f1).length : Int)) = true:=decide_eq_true c76;clear c76
                  by_cases c77 : ((rd_T133 l0_0 x57_2).f0) = true
                  ·rw [if_pos c77] at H;have c77b0 : ((rd_T133 l0_0 x57_2).f0) = true:=c77;clear c77;have H':=Aside0.mk H;clear H;have p673 : 0 ≤ (x81_3 : Int):=of_decide_eq_true (by first | (with_reducible assumption) | assumption);have q673 : x81_3 < (((rd_T133 l0_0 x57_2).f1).length : Int):=of_decide_eq_true (by first | (with_reducible assumption) | assumption);obtain ⟨ad673,e673,hx673_0⟩:=Kd.at_int HR665_1.out x81_3 p673 q673;cases e673;replace hx673_0:=(HB.out.cell (World.block_lt_of_cell? w _ hx673_0)).trans hx673_0;replace p673:=eq_true p673;replace q673:=eq_true q673;have hnb78:=NB666_641.out;have hnc78:=NB641_666.out;have hnb79:=NB666_642.out;have hnc79:=NB642_666.out;have hnb80:=NB666_661.out;have hnc80:=NB661_666.out;have hnb81:=NB666_672.out;have hnc81:=NB672_666.out;have hcz82_0 : wr.cell? ⟨gb666,0,none⟩ = some (.bool ((rd_T133 l0_0 x57_2).f0)):=(blk_cell BK666.out 0).trans rfl;have hcz82_1 : wr.cell? ⟨gb666,1,none⟩ = some (.slice (some ad673) ((rd_T133 l0_0 x57_2).f1).length c665_1):=(blk_cell BK666.out 1).trans rfl;have hfz82_0:=blk_frozen BK666.out 0;have hfz82_1:=blk_frozen BK666.out 1
                   go_wp2
                   (try simp only [← hl7_3,← hl11_3])
                   go_roundg k3;case measure=>have:=HK1.out;have:=HK2.out;have:=HK3.out;omega
                   case rel=>exact ⟨(x6_3),(x7_3),(x11_3),(wrap64 (x81_3 + 1)),(x673001_3),(u673001),(by first | rfl | (simp;done) | (simp [*];done)),H',⟨by have:=HK1.out;have:=HK2.out;have:=HK3.out;omega⟩,⟨by (try simp only [hl7_3]);(try simp only [hl11_3]);(with_reducible repeat (first | apply Kd.R_alloc | apply Kd.R_drewN | apply Kd.R_drew));exact HO_6.out⟩,⟨by (try simp only [hl7_3]);(try simp only [hl11_3]);(with_reducible repeat (first | apply Kd.R_alloc | apply Kd.R_drewN | apply Kd.R_drew));exact HO_7.out⟩,⟨by (try simp only [hl7_3]);(try simp only [hl11_3]);(with_reducible repeat (first | apply Kd.R_alloc | apply Kd.R_drewN | apply Kd.R_drew));exact HO_11.out⟩,⟨by (try simp only [hl7_3]);(try simp only [hl11_3]);(with_reducible repeat (first | apply Kd.S_alloc | apply Kd.S_drewN | apply Kd.S_drew));exact HO_662000.out⟩,⟨by (try simp only [hl7_3]);(try simp only [hl11_3]);(with_reducible repeat (first | apply Kd.R_alloc | apply Kd.R_drewN | apply Kd.R_drew));exact HO_673001.out⟩,⟨by (try simp only [hl7_3]);(try simp only [hl11_3]);(with_reducible repeat (first | refine blk_drewN ?_ _ | refine blk_drew ?_ | refine blk_alloc ?_ _));exact BK641.out⟩,⟨by (try simp only [hl7_3]);(try simp only [hl11_3]);(with_reducible repeat (first | refine blk_drewN ?_ _ | refine blk_drew ?_ | refine blk_alloc ?_ _));exact BK642.out⟩,⟨by (try simp only [hl7_3]);(try simp only [hl11_3]);(with_reducible repeat (first | refine blk_drewN ?_ _ | refine blk_drew ?_ | refine blk_alloc ?_ _));exact BK661.out⟩,⟨by (try simp only [hl7_3]);(try simp only [hl11_3]);(with_reducible repeat (first | refine blk_drewN ?_ _ | refine blk_drew ?_ | refine blk_alloc ?_ _));exact BK666.out⟩,⟨by (try simp only [hl7_3]);(try simp only [hl11_3]);(with_reducible repeat (first | refine blk_drewN ?_ _ | refine blk_drew ?_ | refine blk_alloc ?_ _));exact BK672.out⟩,⟨hs5 HB GE641 GE642 GE661 GE666 GE672⟩⟩
                  rw [if_neg c77] at H;have c77b0 : ((rd_T133 l0_0 x57_2).f0) = false:=by simpa using c77
                  clear c77
                  by_cases c83 : (rd ((rd_T133 l0_0 x57_2).f1) x81_3) ≥ 0
                  ·rw [if_pos c83] at H;have c83b0 : decide (0 ≤ (rd ((rd_T133 l0_0 x57_2).f1) x81_3)) = true:=decide_eq_true c83;clear c83
                   by_cases c84 : 0 ≤ (rd ((rd_T133 l0_0 x57_2).f1) x81_3)
                   ·rw [if_pos c84] at H;have c84b0 : decide (0 ≤ (rd ((rd_T133 l0_0 x57_2).f1) x81_3)) = true:=decide_eq_true c84;clear c84
                    by_cases c85 : (rd ((rd_T133 l0_0 x57_2).f1) x81_3) < (x11_3.length : Int)
                    ·rw [if_pos c85] at H;have c85b0 : decide ((rd ((rd_T133 l0_0 x57_2).f1) x81_3) < (x11_3.length : Int)) = true:=decide_eq_true c85;clear c85
                     by_cases c86 : x81_3 < (x673001_3.length : Int)
                     ·rw [if_pos c86] at H;have c86b0 : decide (x81_3 < (x673001_3.length : Int)) = true:=decide_eq_true c86;clear c86;obtain ⟨y675,hy675⟩ : ∃ y_ : List Int,y_ = (x673001_3.set (x81_3 : Int).toNat (rd x11_3 (rd ((rd_T133 l0_0 x57_2).f1) x81_3))):=⟨_,rfl⟩;replace H : (impl_SweepArena.l2 k3 l1 x6_3 x7_3 x11_3 l0_0 (l0_0.length : Int) x57_2 ((rd_T133 l0_0 x57_2).f1) (((rd_T133 l0_0 x57_2).f1).length : Int) (wrap64 (x81_3 + 1)) x662000_2 ((rd_T133 l0_0 x57_2).f0) ((rd_T133 l0_0 x57_2).f1) ((rd_T133 l0_0 x57_2).f0) y675) = some (r1,r2):=by first | (rw [hy675];with_reducible exact H) | (have H2_:=(Option.bind_some _ _).symm.trans H;rw [hy675];with_reducible exact H2_) | (have H2_:=(Option.bind_some _ _).symm.trans H;with_reducible exact H2_) | with_reducible exact H | (rw [hy675];exact H) | exact H
                      have Ny675:=Aside0.mk hy675;clear hy675;have H':=Aside0.mk H;clear H;have p673 : 0 ≤ (x81_3 : Int):=of_decide_eq_true (by first | (with_reducible assumption) | assumption);have q673 : x81_3 < (((rd_T133 l0_0 x57_2).f1).length : Int):=of_decide_eq_true (by first | (with_reducible assumption) | assumption);obtain ⟨ad673,e673,hx673_0⟩:=Kd.at_int HR665_1.out x81_3 p673 q673;cases e673;replace hx673_0:=(HB.out.cell (World.block_lt_of_cell? w _ hx673_0)).trans hx673_0;replace p673:=eq_true p673;replace q673:=eq_true q673;have hnb88:=NB666_641.out;have hnc88:=NB641_666.out;have hnb89:=NB666_642.out;have hnc89:=NB642_666.out;have hnb90:=NB666_661.out;have hnc90:=NB661_666.out;have hnb91:=NB666_672.out;have hnc91:=NB672_666.out;have hcz92_0 : wr.cell? ⟨gb666,0,none⟩ = some (.bool ((rd_T133 l0_0 x57_2).f0)):=(blk_cell BK666.out 0).trans rfl;have hcz92_1 : wr.cell? ⟨gb666,1,none⟩ = some (.slice (some ad673) ((rd_T133 l0_0 x57_2).f1).length c665_1):=(blk_cell BK666.out 1).trans rfl;have hfz92_0:=blk_frozen BK666.out 0;have hfz92_1:=blk_frozen BK666.out 1
                      try go_wp2
                      have n0_:=Aside0.mk (Kd.R_drew HO_6.out);have n1_:=Aside0.mk (Kd.R_drew HO_7.out);have n2_:=Aside0.mk (Kd.R_drew HO_11.out);have n3_:=Aside0.mk (Kd.S_drew HO_662000.out);have n4_:=Aside0.mk (Kd.R_drew HO_673001.out);have n5_:=Aside0.mk (blk_drew BK641.out);have n6_:=Aside0.mk (blk_drew BK642.out);have n7_:=Aside0.mk (blk_drew BK661.out);have n8_:=Aside0.mk (blk_drew BK666.out);have n9_:=Aside0.mk (blk_drew BK672.out);have n10_:=Aside0.mk (below_drew1 HB.out);clear HO_6;clear HO_7;clear HO_11;clear HO_662000;clear HO_673001;clear BK641;clear BK642;clear BK661;clear BK666;clear BK672;clear HB;have HO_6:=n0_;have HO_7:=n1_;have HO_11:=n2_;have HO_662000:=n3_;have HO_673001:=n4_;have BK641:=n5_;have BK642:=n6_;have BK661:=n7_;have BK666:=n8_;have BK672:=n9_;have HB:=n10_;clear n0_ n1_ n2_ n3_ n4_ n5_ n6_ n7_ n8_ n9_ n10_;have p674 : 0 ≤ ((rd ((rd_T133 l0_0 x57_2).f1) x81_3) : Int):=of_decide_eq_true (by first | (with_reducible assumption) | assumption);have q674 : (rd ((rd_T133 l0_0 x57_2).f1) x81_3) < (x11_3.length : Int):=of_decide_eq_true (by first | (with_reducible assumption) | assumption);obtain ⟨ad674,e674,hx674_0⟩:=Kd.at_int (Kd.R_reads' HO_11.out).2.2 (rd ((rd_T133 l0_0 x57_2).f1) x81_3) p674 q674;obtain rfl : (⟨go49,0,none⟩ : Addr) = ad674:=(by injection e674)
                      (first | simp only [add_plain] at hx674_0 | simp only [add_at] at hx674_0 | simp only [Addr.add,Nat.zero_add] at hx674_0 | skip)
                      replace p674:=eq_true p674;replace q674:=eq_true q674;have p87 : 0 ≤ (x81_3 : Int):=of_decide_eq_true (by first | (with_reducible assumption) | assumption);have q87 : (x81_3 : Int) < ((x673001_3.length : Int) : Int):=of_decide_eq_true (by first | (with_reducible assumption) | assumption);obtain ⟨go87,co87,eo87,gb87,gl87,cl87,HG87⟩:=Kd.R_form HO_673001.out (by omega)
                      (first | cases eo87 | (injection eo87 with ea_ en_ ec_;(first | subst ea_ | (injection ea_ with ea_;subst ea_));subst ec_;clear en_))
                      have GB87:=Aside0.mk gb87;have GG87:=Aside0.mk HG87;clear gb87 gl87 HG87;obtain ⟨hx87_0,hf87_0⟩:=Kd.R_celln 0 HO_673001.out (x81_3 : Int) p87 q87;replace p87:=eq_true p87;replace q87:=eq_true q87;have HP94:=Kd.R_putn HO_673001.out (x81_3 : Int) (rd x11_3 (rd ((rd_T133 l0_0 x57_2).f1) x81_3));rw [← Ny675.out] at HP94;have HQ94:=Aside0.mk HP94;clear HP94;refine start_ (n:=9) (S:=fun w'=>w'.cell? ⟨gb672,0,none⟩ = some (.bool ((rd_T133 l0_0 x57_2).f0)) ∧ w'.cell? ⟨gb672,1,none⟩ = some (.slice (some ⟨go87,0,none⟩) x673001_3.length co87) ∧ w'.cell? ⟨go49,((rd ((rd_T133 l0_0 x57_2).f1) x81_3)).toNat,none⟩ = some (.int .i64 (rd x11_3 (rd ((rd_T133 l0_0 x57_2).f1) x81_3)))) (ds:=[8]) #[false,false,false,false,false,false,false,false,false] (by kernel_rfl) rfl rfl ⟨(blk_cell BK672.out 0).trans rfl,(blk_cell BK672.out 1).trans rfl,hx674_0⟩ (fun hHeld=>?_);refine with_tabW impl_SweepArena.tab24 impl_SweepArena.bits24 (fun HT_ HW_=>?_);generalize wr.drew = w93 at HO_6 HO_7 HO_11 HO_662000 HO_673001 BK641 BK642 BK661 BK666 BK672 HB GG87 HQ94 hf87_0 hx674_0 hx87_0 hHeld ⊢;refine pure_ (i:=0) (N:=some 93) (v:=?_) (a':=?_) #[true,false,false,false,false,false,false,false,false] rfl rfl (any_of HT_.out (by kernel_rfl)) (fun _ _ _ h=>h) (Or.inl ⟨by rfl,?_⟩) ?_ ?_;rotate_left
                      ·intro w';go_simp;with_reducible rfl
                      rotate_left
                      ·simp only [Act.put,List.setIfInBounds_toArray,List.set_cons_zero,List.set_cons_succ,i64_w,i32_w];rfl
                      refine pure_ (i:=2) (N:=some 95) (v:=?_) (a':=?_) #[true,false,true,false,false,false,false,false,false] rfl rfl (any_of HT_.out (by kernel_rfl)) (fun _ _ _ h=>h) (Or.inl ⟨by rfl,?_⟩) ?_ ?_;rotate_left
                      ·intro w';go_simp;with_reducible rfl
                      rotate_left
                      ·simp only [Act.put,List.setIfInBounds_toArray,List.set_cons_zero,List.set_cons_succ,i64_w,i32_w];rfl
                      refine pure_ (i:=3) (N:=some 96) (v:=?_) (a':=?_) #[true,false,true,true,false,false,false,false,false] rfl rfl (any_of HT_.out (by kernel_rfl)) (fun _ _ _ h=>h) (Or.inl ⟨by rfl,?_⟩) ?_ ?_;rotate_left
                      ·intro w';go_simp;with_reducible rfl
                      rotate_left
                      ·simp only [Act.put,List.setIfInBounds_toArray,List.set_cons_zero,List.set_cons_succ,i64_w,i32_w];rfl
                      refine pure_ (i:=4) (N:=some 97) (v:=?_) (a':=?_) #[true,false,true,true,true,false,false,false,false] rfl rfl (any_of HT_.out (by kernel_rfl)) (fun _ _ _ h=>h) (Or.inl ⟨by rfl,?_⟩) ?_ ?_;rotate_left
                      ·intro w';go_simp;with_reducible rfl
                      rotate_left
                      ·simp only [Act.put,List.setIfInBounds_toArray,List.set_cons_zero,List.set_cons_succ,i64_w,i32_w];rfl
                      refine pure_ (i:=5) (N:=some 98) (v:=?_) (a':=?_) #[true,false,true,true,true,true,false,false,false] rfl rfl (any_of HT_.out (by kernel_rfl)) (fun _ _ _ h=>h) (Or.inl ⟨by rfl,?_⟩) ?_ ?_;rotate_left
                      ·intro w';go_simp;with_reducible rfl
                      rotate_left
                      ·simp only [Act.put,List.setIfInBounds_toArray,List.set_cons_zero,List.set_cons_succ,i64_w,i32_w];rfl
                      refine take_ (i:=1) (N:=some 94) (v:=?_) (a':=?_) #[true,true,true,true,true,true,false,false,false] rfl rfl (take_ofW HT_.out HW_.out (by kernel_rfl)) (fun _ _ _ h=>h) (Or.inl ⟨by rfl,?_⟩) hHeld ?_ ?_;rotate_left
                      ·rintro w' ⟨s0,s1,s2⟩;go_simp;with_reducible rfl
                      rotate_left
                      ·simp only [Act.put,List.setIfInBounds_toArray,List.set_cons_zero,List.set_cons_succ,i64_w,i32_w];rfl
                      refine take_ (i:=6) (N:=some 99) (v:=?_) (a':=?_) #[true,true,true,true,true,true,true,false,false] rfl rfl (take_ofW HT_.out HW_.out (by kernel_rfl)) (fun _ _ _ h=>h) (Or.inl ⟨by rfl,?_⟩) hHeld ?_ ?_;rotate_left
                      ·rintro w' ⟨s0,s1,s2⟩;go_simp;with_reducible rfl
                      rotate_left
                      ·simp only [Act.put,List.setIfInBounds_toArray,List.set_cons_zero,List.set_cons_succ,i64_w,i32_w];rfl
                      refine pure_ (i:=7) (N:=some 100) (v:=?_) (a':=?_) #[true,true,true,true,true,true,true,true,false] rfl rfl (any_of HT_.out (by kernel_rfl)) (fun _ _ _ h=>h) (Or.inl ⟨by rfl,?_⟩) ?_ ?_;rotate_left
                      ·intro w';go_simp;with_reducible rfl
                      rotate_left
                      ·simp only [Act.put,List.setIfInBounds_toArray,List.set_cons_zero,List.set_cons_succ,i64_w,i32_w];rfl
                      refine last_ (i:=8) (N:=none) #[true,true,true,true,true,true,true,true,true] rfl rfl (one_of HT_.out (by kernel_rfl)) (by decide) (fun K hK=>?_);refine skip_ (w1:=?_) (by rfl) rfl ?_ ?_;rotate_left
                      ·go_simp;rfl
                      refine hK.out _ _ ?_;clear hK K;refine done_ (done_of HT_.out (by kernel_rfl)) ?_
                      try go_wp2
                      (try simp only [← hl7_3,← hl11_3])
                      go_roundg k3;case measure=>have:=HK1.out;have:=HK2.out;have:=HK3.out;omega
                      case rel=>exact ⟨(x6_3),(x7_3),(x11_3),(wrap64 (x81_3 + 1)),(y675),(.slice (some ⟨go87,0,none⟩) x673001_3.length co87),(by first | rfl | (simp;done) | (simp [*];done)),H',⟨by have:=HK1.out;have:=HK2.out;have:=HK3.out;omega⟩,⟨by (try simp only [hl7_3]);(try simp only [hl11_3]);(with_reducible repeat (first | apply Kd.R_alloc | apply Kd.R_drewN | apply Kd.R_drew));exact Kd.R_mono (Kd.R_far (p:=⟨go87,(x81_3 : Int).toNat,none⟩) (Kd.R_mono HO_6.out (fun k_ hk=>(⟨hk,fun e_=>hk.2.2 (by rw [e_];rfl)⟩ : _ ∧ k_ ≠ go87))) (fun _ hk=>hk.2) (.int .i64 (rd x11_3 (rd ((rd_T133 l0_0 x57_2).f1) x81_3)))) (fun _ hk=>⟨hk.1.1,⟨hk.1.2.1,hk.1.2.2⟩⟩)⟩,⟨by (try simp only [hl7_3]);(try simp only [hl11_3]);(with_reducible repeat (first | apply Kd.R_alloc | apply Kd.R_drewN | apply Kd.R_drew));exact Kd.R_mono (Kd.R_far (p:=⟨go87,(x81_3 : Int).toNat,none⟩) (Kd.R_mono HO_7.out (fun k_ hk=>(⟨hk,fun e_=>hk.2.2 (by rw [e_];rfl)⟩ : _ ∧ k_ ≠ go87))) (fun _ hk=>hk.2) (.int .i64 (rd x11_3 (rd ((rd_T133 l0_0 x57_2).f1) x81_3)))) (fun _ hk=>⟨hk.1.1,⟨hk.1.2.1,hk.1.2.2⟩⟩)⟩,⟨by (try simp only [hl7_3]);(try simp only [hl11_3]);(with_reducible repeat (first | apply Kd.R_alloc | apply Kd.R_drewN | apply Kd.R_drew));exact Kd.R_mono (Kd.R_far (p:=⟨go87,(x81_3 : Int).toNat,none⟩) (Kd.R_mono HO_11.out (fun k_ hk=>(⟨hk,fun e_=>hk.2.2 (by rw [e_];rfl)⟩ : _ ∧ k_ ≠ go87))) (fun _ hk=>hk.2) (.int .i64 (rd x11_3 (rd ((rd_T133 l0_0 x57_2).f1) x81_3)))) (fun _ hk=>⟨hk.1.1,⟨hk.1.2.1,hk.1.2.2⟩⟩)⟩,⟨by (try simp only [hl7_3]);(try simp only [hl11_3]);(with_reducible repeat (first | apply Kd.S_alloc | apply Kd.S_drewN | apply Kd.S_drew));exact Kd.S_mono (Kd.S_far (p:=⟨go87,(x81_3 : Int).toNat,none⟩) (Kd.S_mono HO_662000.out (fun k_ hk=>(⟨hk,fun e_=>hk.2.2.2.1 (by rw [e_];rfl)⟩ : _ ∧ k_ ≠ go87))) (fun _ hk=>hk.2) (.int .i64 (rd x11_3 (rd ((rd_T133 l0_0 x57_2).f1) x81_3)))) (fun _ hk=>⟨hk.1.1,⟨hk.1.2.1,⟨hk.1.2.2.1,⟨hk.1.2.2.2.1,⟨hk.1.2.2.2.2.1,hk.1.2.2.2.2.2⟩⟩⟩⟩⟩)⟩,⟨by (try simp only [hl7_3]);(try simp only [hl11_3]);(with_reducible repeat (first | apply Kd.R_alloc | apply Kd.R_drewN | apply Kd.R_drew));exact HQ94.out⟩,⟨by (try simp only [hl7_3]);(try simp only [hl11_3]);(with_reducible repeat (first | refine blk_drewN ?_ _ | refine blk_drew ?_ | refine blk_alloc ?_ _));refine blk_far ?_ (by have h_:=Kd.R_ne HO_673001.out BK641.out (by decide);intro e_;exact h_ (by rw [e_];rfl)) _;(with_reducible repeat (first | refine blk_drewN ?_ _ | refine blk_drew ?_ | refine blk_alloc ?_ _));exact BK641.out⟩,⟨by (try simp only [hl7_3]);(try simp only [hl11_3]);(with_reducible repeat (first | refine blk_drewN ?_ _ | refine blk_drew ?_ | refine blk_alloc ?_ _));refine blk_far ?_ (by have h_:=Kd.R_ne HO_673001.out BK642.out (by decide);intro e_;exact h_ (by rw [e_];rfl)) _;(with_reducible repeat (first | refine blk_drewN ?_ _ | refine blk_drew ?_ | refine blk_alloc ?_ _));exact BK642.out⟩,⟨by (try simp only [hl7_3]);(try simp only [hl11_3]);(with_reducible repeat (first | refine blk_drewN ?_ _ | refine blk_drew ?_ | refine blk_alloc ?_ _));refine blk_far ?_ (by have h_:=Kd.R_ne HO_673001.out BK661.out (by decide);intro e_;exact h_ (by rw [e_];rfl)) _;(with_reducible repeat (first | refine blk_drewN ?_ _ | refine blk_drew ?_ | refine blk_alloc ?_ _));exact BK661.out⟩,⟨by (try simp only [hl7_3]);(try simp only [hl11_3]);(with_reducible repeat (first | refine blk_drewN ?_ _ | refine blk_drew ?_ | refine blk_alloc ?_ _));refine blk_far ?_ (by have h_:=Kd.R_ne HO_673001.out BK666.out (by decide);intro e_;exact h_ (by rw [e_];rfl)) _;(with_reducible repeat (first | refine blk_drewN ?_ _ | refine blk_drew ?_ | refine blk_alloc ?_ _));exact BK666.out⟩,⟨by (try simp only [hl7_3]);(try simp only [hl11_3]);(with_reducible repeat (first | refine blk_drewN ?_ _ | refine blk_drew ?_ | refine blk_alloc ?_ _));refine blk_far ?_ (by have h_:=Kd.R_ne HO_673001.out BK672.out (by decide);intro e_;exact h_ (by rw [e_];rfl)) _;(with_reducible repeat (first | refine blk_drewN ?_ _ | refine blk_drew ?_ | refine blk_alloc ?_ _));exact BK672.out⟩,⟨by repeat (first | (with_reducible first | exact HB.out | apply below_alloc | apply pw_below_drewN | apply below_drew1 | refine below_set ?_ GB87.out | refine below_set ?_ GE641.out | refine below_set ?_ GE642.out | refine below_set ?_ GE661.out | refine below_set ?_ GE666.out | refine below_set ?_ GE672.out) | exact HB.out)⟩⟩
                     rw [if_neg c86] at H;exact absurd H (by simp)
                    rw [if_neg c85] at H;exact absurd H (by simp)
                   rw [if_neg c84] at H;exact absurd H (by simp)
                  rw [if_neg c83] at H;have c83b0 : decide (0 ≤ (rd ((rd_T133 l0_0 x57_2).f1) x81_3)) = false:=decide_eq_false c83;clear c83;have H':=Aside0.mk H;clear H;have p673 : 0 ≤ (x81_3 : Int):=of_decide_eq_true (by first | (with_reducible assumption) | assumption);have q673 : x81_3 < (((rd_T133 l0_0 x57_2).f1).length : Int):=of_decide_eq_true (by first | (with_reducible assumption) | assumption);obtain ⟨ad673,e673,hx673_0⟩:=Kd.at_int HR665_1.out x81_3 p673 q673;cases e673;replace hx673_0:=(HB.out.cell (World.block_lt_of_cell? w _ hx673_0)).trans hx673_0;replace p673:=eq_true p673;replace q673:=eq_true q673;have hnb95:=NB666_641.out;have hnc95:=NB641_666.out;have hnb96:=NB666_642.out;have hnc96:=NB642_666.out;have hnb97:=NB666_661.out;have hnc97:=NB661_666.out;have hnb98:=NB666_672.out;have hnc98:=NB672_666.out;have hcz99_0 : wr.cell? ⟨gb666,0,none⟩ = some (.bool ((rd_T133 l0_0 x57_2).f0)):=(blk_cell BK666.out 0).trans rfl;have hcz99_1 : wr.cell? ⟨gb666,1,none⟩ = some (.slice (some ad673) ((rd_T133 l0_0 x57_2).f1).length c665_1):=(blk_cell BK666.out 1).trans rfl;have hfz99_0:=blk_frozen BK666.out 0;have hfz99_1:=blk_frozen BK666.out 1
                  go_wp2
                  (try simp only [← hl7_3,← hl11_3])
                  go_roundg k3;case measure=>have:=HK1.out;have:=HK2.out;have:=HK3.out;omega
                  case rel=>exact ⟨(x6_3),(x7_3),(x11_3),(wrap64 (x81_3 + 1)),(x673001_3),(u673001),(by first | rfl | (simp;done) | (simp [*];done)),H',⟨by have:=HK1.out;have:=HK2.out;have:=HK3.out;omega⟩,⟨by (try simp only [hl7_3]);(try simp only [hl11_3]);(with_reducible repeat (first | apply Kd.R_alloc | apply Kd.R_drewN | apply Kd.R_drew));exact HO_6.out⟩,⟨by (try simp only [hl7_3]);(try simp only [hl11_3]);(with_reducible repeat (first | apply Kd.R_alloc | apply Kd.R_drewN | apply Kd.R_drew));exact HO_7.out⟩,⟨by (try simp only [hl7_3]);(try simp only [hl11_3]);(with_reducible repeat (first | apply Kd.R_alloc | apply Kd.R_drewN | apply Kd.R_drew));exact HO_11.out⟩,⟨by (try simp only [hl7_3]);(try simp only [hl11_3]);(with_reducible repeat (first | apply Kd.S_alloc | apply Kd.S_drewN | apply Kd.S_drew));exact HO_662000.out⟩,⟨by (try simp only [hl7_3]);(try simp only [hl11_3]);(with_reducible repeat (first | apply Kd.R_alloc | apply Kd.R_drewN | apply Kd.R_drew));exact HO_673001.out⟩,⟨by (try simp only [hl7_3]);(try simp only [hl11_3]);(with_reducible repeat (first | refine blk_drewN ?_ _ | refine blk_drew ?_ | refine blk_alloc ?_ _));exact BK641.out⟩,⟨by (try simp only [hl7_3]);(try simp only [hl11_3]);(with_reducible repeat (first | refine blk_drewN ?_ _ | refine blk_drew ?_ | refine blk_alloc ?_ _));exact BK642.out⟩,⟨by (try simp only [hl7_3]);(try simp only [hl11_3]);(with_reducible repeat (first | refine blk_drewN ?_ _ | refine blk_drew ?_ | refine blk_alloc ?_ _));exact BK661.out⟩,⟨by (try simp only [hl7_3]);(try simp only [hl11_3]);(with_reducible repeat (first | refine blk_drewN ?_ _ | refine blk_drew ?_ | refine blk_alloc ?_ _));exact BK666.out⟩,⟨by (try simp only [hl7_3]);(try simp only [hl11_3]);(with_reducible repeat (first | refine blk_drewN ?_ _ | refine blk_drew ?_ | refine blk_alloc ?_ _));exact BK672.out⟩,⟨hs5 HB GE641 GE642 GE661 GE666 GE672⟩⟩
                 rw [if_neg c76] at H;exact absurd H (by simp)
                rw [if_neg c75] at H;exact absurd H (by simp)
               rw [if_neg c74] at H;have c74b0 : decide (x81_3 < (((rd_T133 l0_0 x57_2).f1).length : Int)) = false:=decide_eq_false c74;clear c74
               by_cases c100 : x662000_2.length < 4398046511104
               ·rw [if_pos c100] at H;have LMc100:=Aside0.mk c100;clear c100;obtain ⟨y676,hy676⟩ : ∃ y_ : List (S133),y_ = (x662000_2 ++ [(⟨((rd_T133 l0_0 x57_2).f0),x673001_3⟩ : S133)]):=⟨_,rfl⟩;replace H : (impl_SweepArena.l1 k3 l1 x6_3 x7_3 x11_3 l0_0 (l0_0.length : Int) (wrap64 (x57_2 + 1)) y676) = some (r1,r2):=by first | (rw [hy676];with_reducible exact H) | (have H2_:=(Option.bind_some _ _).symm.trans H;rw [hy676];with_reducible exact H2_) | (have H2_:=(Option.bind_some _ _).symm.trans H;with_reducible exact H2_) | with_reducible exact H | (rw [hy676];exact H) | exact H
                have Ny676:=Aside0.mk hy676;clear hy676;have H':=Aside0.mk H;clear H;have hnb101:=NB661_641.out;have hnc101:=NB641_661.out;have hnb102:=NB661_642.out;have hnc102:=NB642_661.out;have hnb103:=NB661_666.out;have hnc103:=NB666_661.out;have hnb104:=NB661_672.out;have hnc104:=NB672_661.out;have hcz105_0 : wr.cell? ⟨gb661,0,none⟩ = some (.slice Ao61 x662000_2.length co61):=(blk_cell BK661.out 0).trans rfl;have hfz105_0:=blk_frozen BK661.out 0;have hnb106:=NB672_641.out;have hnc106:=NB641_672.out;have hnb107:=NB672_642.out;have hnc107:=NB642_672.out;have hnb108:=NB672_666.out;have hnc108:=NB666_672.out;have hcz109_0 : wr.cell? ⟨gb672,0,none⟩ = some (.bool ((rd_T133 l0_0 x57_2).f0)):=(blk_cell BK672.out 0).trans rfl;have hcz109_1 : wr.cell? ⟨gb672,1,none⟩ = some (u673001):=(blk_cell BK672.out 1).trans rfl;have hfz109_0:=blk_frozen BK672.out 0;have hfz109_1:=blk_frozen BK672.out 1;obtain ⟨Ao111,co111,eo111⟩:=Kd.R_slice HO_673001.out;subst eo111;go_wp2_with (first | ((with_reducible refine gate_builtin (b:=.append) (xs:=#[.tmp 103,.tmp 105]) rfl ?_);at_builtin;refine Kd.S_append k133 (w0:=w) w.heap.size rfl (.tmp 103) (.tmp 105) 42 133 (.agg #[(.bool false),(.slice none 0 0)]) 32 rfl Try.underlying42 info133 rfl (by decide) (by omega) (.slice Ao61 x662000_2.length co61) x662000_2 (⟨((rd_T133 l0_0 x57_2).f0),x673001_3⟩ : S133) [.bool ((rd_T133 l0_0 x57_2).f0),.slice Ao111 x673001_3.length co111] (fun k_=>some k_ ≠ (v644 : Value).ownBlock ∧ some k_ ≠ (.slice Ao57 x7_3.length co57 : Value).ownBlock ∧ some k_ ≠ (.slice (some ⟨go49,0,none⟩) x11_3.length co49 : Value).ownBlock ∧ k_ ≠ gb666 ∧ k_ ≠ gb672) (fun k_=>some k_ = (.slice Ao111 x673001_3.length co111 : Value).ownBlock) rfl rfl ?aP (fun k_ hk_=>((Kd.R_mono (ok':=fun k_=>((fun k_=>some k_ ≠ (v644 : Value).ownBlock ∧ some k_ ≠ (.slice Ao57 x7_3.length co57 : Value).ownBlock ∧ some k_ ≠ (.slice (some ⟨go49,0,none⟩) x11_3.length co49 : Value).ownBlock ∧ k_ ≠ gb666 ∧ k_ ≠ gb672)) k_ ∧ some k_ ≠ (.slice Ao61 x662000_2.length co61 : Value).ownBlock) (Kd.R_types (Kd.R_types (Kd.R_apart' (HO_673001.out) (Kd.S_typed HO_662000.out) (by decide)) BK666.out (by decide)) BK672.out (by decide)) (fun k_ hk=>⟨⟨hk.1.1.1.1,⟨hk.1.1.1.2.1,⟨hk.1.1.1.2.2,⟨hk.1.2,hk.2⟩⟩⟩⟩,hk.1.1.2⟩))).1 k_ hk_.symm) ?aF ?aO ?aB ?aS ?aL ?_;(case aP=>exact k133_mkM _ _ _ (⟨((rd_T133 l0_0 x57_2).f0),x673001_3⟩ : S133) (Kd.R_mono (Kd.R_tight rfl (Kd.R_mono (ok':=fun k_=>((fun k_=>some k_ ≠ (v644 : Value).ownBlock ∧ some k_ ≠ (.slice Ao57 x7_3.length co57 : Value).ownBlock ∧ some k_ ≠ (.slice (some ⟨go49,0,none⟩) x11_3.length co49 : Value).ownBlock ∧ k_ ≠ gb666 ∧ k_ ≠ gb672)) k_ ∧ some k_ ≠ (.slice Ao61 x662000_2.length co61 : Value).ownBlock) (Kd.R_types (Kd.R_types (Kd.R_apart' (HO_673001.out) (Kd.S_typed HO_662000.out) (by decide)) BK666.out (by decide)) BK672.out (by decide)) (fun k_ hk=>⟨⟨hk.1.1.1.1,⟨hk.1.1.1.2.1,⟨hk.1.1.1.2.2,⟨hk.1.2,hk.2⟩⟩⟩⟩,hk.1.1.2⟩))) (fun _ h_=>h_)));(case aB=>exact (hs5 HB GE641 GE642 GE661 GE666 GE672));(case aF=>exact (fun k_ hk=>⟨Kd.fresh' (Kd.R_lt (rs HO_6)) k_ hk,Kd.fresh' (Kd.R_lt (rs HO_7)) k_ hk,Kd.fresh' (Kd.R_lt (rs HO_11)) k_ hk,Kd.freshB (g:=gb666) (o:=.cells #[.bool ((rd_T133 l0_0 x57_2).f0),.slice A665_1 ((rd_T133 l0_0 x57_2).f1).length c665_1] 133 (0,0)) (bs BK666) k_ hk,Kd.freshB (g:=gb672) (o:=.cells #[.bool ((rd_T133 l0_0 x57_2).f0),.slice Ao111 x673001_3.length co111] 133 (0,0)) (bs BK672) k_ hk⟩));(case aO=>exact (by (with_reducible repeat (first | apply Kd.S_alloc | apply Kd.S_drewN | apply Kd.S_drew));exact Kd.S_mono HO_662000.out (fun k_ hk=>⟨⟨hk.1,⟨hk.2.1,⟨hk.2.2.1,⟨hk.2.2.2.2.1,hk.2.2.2.2.2⟩⟩⟩⟩,fun e_=>hk.2.2.2.1 e_⟩)));(case aS=>exact (below_size (hs5 HB GE641 GE642 GE661 GE666 GE672)));(case aL=>have:=LMc100.out;omega);intro v677 w110 ho hb hg hat;rw [← Ny676.out] at ho;have n0_:=Aside0.mk (Kd.R_over' (rs HO_6) (Kd.S_typed (ss HO_662000)) (by decide) hg);have n1_:=Aside0.mk (Kd.R_over' (rs HO_7) (Kd.S_typed (ss HO_662000)) (by decide) hg);have n2_:=Aside0.mk (Kd.R_over' (rs HO_11) (Kd.S_typed (ss HO_662000)) (by decide) hg);have n3_:=Aside0.mk (blk_grown (g:=gb641) (o:=.cells #[.slice (some ad665) l0_0.length c0_0] 44 (0,0)) (bs BK641) hg (Kd.S_ne HO_662000.out BK641.out (by decide)));have n4_:=Aside0.mk (blk_grown (g:=gb642) (o:=.cells #[.slice none 0 0] 44 (0,0)) (bs BK642) hg (Kd.S_ne HO_662000.out BK642.out (by decide)));have n5_:=Aside0.mk (blk_grown (g:=gb661) (o:=.cells #[.slice Ao61 x662000_2.length co61] 44 (0,0)) (bs BK661) hg (Kd.S_ne HO_662000.out BK661.out (by decide)));have n6_:=Aside0.mk (blk_grown (g:=gb666) (o:=.cells #[.bool ((rd_T133 l0_0 x57_2).f0),.slice A665_1 ((rd_T133 l0_0 x57_2).f1).length c665_1] 133 (0,0)) (bs BK666) hg (Kd.S_away HO_662000.out (fun _ hk=>hk.2.2.2.2.1)));have n7_:=Aside0.mk (blk_grown (g:=gb672) (o:=.cells #[.bool ((rd_T133 l0_0 x57_2).f0),.slice Ao111 x673001_3.length co111] 133 (0,0)) (bs BK672) hg (Kd.S_away HO_662000.out (fun _ hk=>hk.2.2.2.2.2)));have n8_:=Aside0.mk (hb);have n9_:=Aside0.mk (ho);clear HO_6;clear HO_7;clear HO_11;clear BK641;clear BK642;clear BK661;clear BK666;clear BK672;clear HB;clear HO_662000;clear HO_673001;have HO_6:=n0_;have HO_7:=n1_;have HO_11:=n2_;have BK641:=n3_;have BK642:=n4_;have BK661:=n5_;have BK666:=n6_;have BK672:=n7_;have HB:=n8_;have HO678:=n9_;clear n0_ n1_ n2_ n3_ n4_ n5_ n6_ n7_ n8_ n9_;clear ho hb hg hat;obtain ⟨Ao112,co112,eo112⟩:=Kd.S_slice HO678.out;subst eo112;have hcz113_0 : w110.cell? ⟨gb661,0,none⟩ = some (.slice Ao61 x662000_2.length co61):=(blk_cell BK661.out 0).trans rfl;have hfz113_0:=blk_frozen BK661.out 0))
                (try simp only [← hl7_3,← hl11_3])
                go_roundg k3;case measure=>have:=HK1.out;have:=HK2.out;have:=HK3.out;omega
                case rel=>exact ⟨(x6_3),(x7_3),(x11_3),(wrap64 (x57_2 + 1)),(y676),(.slice Ao112 y676.length co112),(by first | rfl | (simp;done) | (simp [*];done)),H',⟨by have:=HK1.out;have:=HK2.out;have:=HK3.out;omega⟩,⟨by (try simp only [hl7_3]);(try simp only [hl11_3]);(with_reducible repeat (first | apply Kd.R_alloc | apply Kd.R_drewN | apply Kd.R_drew));exact Kd.R_mono (Kd.R_far (p:=⟨gb661,0,none⟩) (Kd.R_types HO_6.out BK661.out (by decide)) (fun _ hk=>hk.2) (.slice Ao112 y676.length co112)) (fun _ hk=>⟨hk.1.1,hk.1.2.1⟩)⟩,⟨by (try simp only [hl7_3]);(try simp only [hl11_3]);(with_reducible repeat (first | apply Kd.R_alloc | apply Kd.R_drewN | apply Kd.R_drew));exact Kd.R_mono (Kd.R_far (p:=⟨gb661,0,none⟩) (Kd.R_types HO_7.out BK661.out (by decide)) (fun _ hk=>hk.2) (.slice Ao112 y676.length co112)) (fun _ hk=>⟨hk.1.1,hk.1.2.1⟩)⟩,⟨by (try simp only [hl7_3]);(try simp only [hl11_3]);(with_reducible repeat (first | apply Kd.R_alloc | apply Kd.R_drewN | apply Kd.R_drew));exact Kd.R_mono (Kd.R_far (p:=⟨gb661,0,none⟩) (Kd.R_types HO_11.out BK661.out (by decide)) (fun _ hk=>hk.2) (.slice Ao112 y676.length co112)) (fun _ hk=>⟨hk.1.1,hk.1.2.1⟩)⟩,⟨by (try simp only [hl7_3]);(try simp only [hl11_3]);(with_reducible repeat (first | apply Kd.S_alloc | apply Kd.S_drewN | apply Kd.S_drew));exact Kd.S_mono (Kd.S_far (p:=⟨gb661,0,none⟩) (Kd.S_types HO678.out BK661.out (by decide)) (fun _ hk=>hk.2) (.slice Ao112 y676.length co112)) (fun _ hk=>⟨hk.1.1,⟨hk.1.2.1,hk.1.2.2.1⟩⟩)⟩,⟨by (try simp only [hl7_3]);(try simp only [hl11_3]);(with_reducible repeat (first | refine blk_drewN ?_ _ | refine blk_drew ?_ | refine blk_alloc ?_ _));refine blk_far ?_ NB641_661.out _;(with_reducible repeat (first | refine blk_drewN ?_ _ | refine blk_drew ?_ | refine blk_alloc ?_ _));exact BK641.out⟩,⟨by (try simp only [hl7_3]);(try simp only [hl11_3]);(with_reducible repeat (first | refine blk_drewN ?_ _ | refine blk_drew ?_ | refine blk_alloc ?_ _));refine blk_far ?_ NB642_661.out _;(with_reducible repeat (first | refine blk_drewN ?_ _ | refine blk_drew ?_ | refine blk_alloc ?_ _));exact BK642.out⟩,⟨by (try simp only [hl7_3]);(try simp only [hl11_3]);(with_reducible repeat (first | refine blk_drewN ?_ _ | refine blk_drew ?_ | refine blk_alloc ?_ _));refine blk_put (cs:=#[.slice Ao61 x662000_2.length co61]) ?_ 0 _ rfl;(with_reducible repeat (first | refine blk_drewN ?_ _ | refine blk_drew ?_ | refine blk_alloc ?_ _));exact BK661.out⟩,⟨hs5 HB GE641 GE642 GE661 GE666 GE672⟩⟩
               rw [if_neg c100] at H;exact absurd H (by simp)
            rw [if_neg c48] at H;exact absurd H (by simp)
           replace c47:=Bool.eq_false_iff.mpr c47;subst c47;have H1 : (impl_SweepArena.l1 k2 l1 x6_2 x7_2 x11_2 l0_0 (l0_0.length : Int) (wrap64 (x57_2 + 1)) x662000_2) = some (r1,r2):=by rw [if_neg (show ¬ (false = true) by decide)] at H;exact H
           clear H;have H:=H1;clear H1;have H':=Aside0.mk H;clear H;have p665 : 0 ≤ (x57_2 : Int):=of_decide_eq_true (by first | (with_reducible assumption) | assumption);have q665 : x57_2 < (l0_0.length : Int):=of_decide_eq_true (by first | (with_reducible assumption) | assumption);obtain ⟨ad665,A665_1,c665_1,e665,hx665_0,hx665_1,hl665_1,hi665_1⟩:=at_T133 HR0_0.out x57_2 p665 q665;cases e665;replace hx665_0:=(HB.out.cell (World.block_lt_of_cell? w _ hx665_0)).trans hx665_0;replace hx665_1:=(HB.out.cell (World.block_lt_of_cell? w _ hx665_1)).trans hx665_1;have HR665_1:=Aside0.mk hi665_1;have HC665_1:=Aside0.mk hl665_1;clear hi665_1 hl665_1;replace p665:=eq_true p665;replace q665:=eq_true q665;go_wp2_with (first | ((with_reducible refine gate_dst (N:=13) rfl ?_);refine box_event ?hg (N:=13) ?hd (cs:=#[.bool false,.slice none 0 0]) (t:=133) ?hr ?_;(case hd=>rfl);(case hg=>rfl);(case hr=>first | (go_simp;done) | (go_simp;rfl));intro gb666 hg w114 hbox hb;have n0_:=Aside0.mk (Kd.R_below (rs HO_6) hb);have n1_:=Aside0.mk (Kd.R_below (rs HO_7) hb);have n2_:=Aside0.mk (Kd.R_below (rs HO_11) hb);have n3_:=Aside0.mk (Kd.S_below (Kd.S_elderB (ss HO_662000) gb666 (Nat.le_of_eq hg.symm)) hb);have n4_:=Aside0.mk (blk_below (g:=gb641) (o:=.cells #[.slice (some ad665) l0_0.length c0_0] 44 (0,0)) (bs BK641) hb);have n5_:=Aside0.mk (blk_below (g:=gb642) (o:=.cells #[.slice none 0 0] 44 (0,0)) (bs BK642) hb);have n6_:=Aside0.mk (blk_below (g:=gb661) (o:=.cells #[u662000] 44 (0,0)) (bs BK661) hb);have n7_:=Aside0.mk (below_step (hs3 HB GE641 GE642 GE661) hb);have n8_:=Aside0.mk (hbox);have n9_:=Aside0.mk ((by rw [hg];exact (below_size (hs3 HB GE641 GE642 GE661)) : w.heap.size ≤ gb666));have n10_:=Aside0.mk ((by rw [hg];exact (below_size (hs3 HB GE641 GE642 GE661)) : w.heap.size ≤ gb666));have n11_:=Aside0.mk ((by rw [hg];exact Nat.ne_of_lt (blk_lt (g:=gb641) (o:=.cells #[.slice (some ad665) l0_0.length c0_0] 44 (0,0)) (bs BK641)) : gb641 ≠ gb666));have n12_:=Aside0.mk ((by rw [hg];exact Nat.ne_of_gt (blk_lt (g:=gb641) (o:=.cells #[.slice (some ad665) l0_0.length c0_0] 44 (0,0)) (bs BK641)) : gb666 ≠ gb641));have n13_:=Aside0.mk ((by rw [hg];exact Nat.ne_of_lt (blk_lt (g:=gb642) (o:=.cells #[.slice none 0 0] 44 (0,0)) (bs BK642)) : gb642 ≠ gb666));have n14_:=Aside0.mk ((by rw [hg];exact Nat.ne_of_gt (blk_lt (g:=gb642) (o:=.cells #[.slice none 0 0] 44 (0,0)) (bs BK642)) : gb666 ≠ gb642));have n15_:=Aside0.mk ((by rw [hg];exact Nat.ne_of_lt (blk_lt (g:=gb661) (o:=.cells #[u662000] 44 (0,0)) (bs BK661)) : gb661 ≠ gb666));have n16_:=Aside0.mk ((by rw [hg];exact Nat.ne_of_gt (blk_lt (g:=gb661) (o:=.cells #[u662000] 44 (0,0)) (bs BK661)) : gb666 ≠ gb661));clear HO_6;clear HO_7;clear HO_11;clear HO_662000;clear BK641;clear BK642;clear BK661;clear HB;have HO_6:=n0_;have HO_7:=n1_;have HO_11:=n2_;have HO_662000:=n3_;have BK641:=n4_;have BK642:=n5_;have BK661:=n6_;have HB:=n7_;have BK666:=n8_;have GW666:=n9_;have GE666:=n10_;have NB641_666:=n11_;have NB666_641:=n12_;have NB642_666:=n13_;have NB666_642:=n14_;have NB661_666:=n15_;have NB666_661:=n16_;clear n0_ n1_ n2_ n3_ n4_ n5_ n6_ n7_ n8_ n9_ n10_ n11_ n12_ n13_ n14_ n15_ n16_;clear hb hbox hg;have hnb115:=NB666_641.out;have hnc115:=NB641_666.out;have hnb116:=NB666_642.out;have hnc116:=NB642_666.out;have hnb117:=NB666_661.out;have hnc117:=NB661_666.out;have hcz118_0 : w114.cell? ⟨gb666,0,none⟩ = some (.bool false):=(blk_cell BK666.out 0).trans rfl;have hcz118_1 : w114.cell? ⟨gb666,1,none⟩ = some (.slice none 0 0):=(blk_cell BK666.out 1).trans rfl;have hfz118_0:=blk_frozen BK666.out 0;have hfz118_1:=blk_frozen BK666.out 1;obtain ⟨Ao119,co119,eo119⟩:=Kd.R_slice HO_7.out;subst eo119) | ((with_reducible refine gate_callee (f:=87) rfl ?_);refine goesL_ (some 64) rfl rfl Try.func87 (by kernel_rfl) rfl #[.slice Ao119 x7_2.length co119,.int .i64 x57_2] rfl (by (try simp only [List.map_toArray,List.map_cons,List.map_nil]);first | done | rfl | (simp only [List.length_drop,List.length_take];rfl)) ?_;(with_reducible refine (impl_hasInt.calls k2 _ _ x7_2 x57_2 false _ ?side1 ?side2 A46.out).mono ?_);(case side1=>refine (Kd.R_reads' (e:=3) (base:=w.heap.size) (ok:=fun k_=>(some k_ ≠ (v644 : Value).ownBlock ∧ some k_ ≠ (v663 : Value).ownBlock)) (n:=x7_2.length) (c:=co119) ?_).2.2;exact (by (with_reducible repeat (first | apply Kd.R_alloc | apply Kd.R_drewN | apply Kd.R_drew));exact (Kd.R_mono (Kd.R_far (p:=⟨gb666,1,none⟩) (Kd.R_far (p:=⟨gb666,0,none⟩) (Kd.R_types HO_7.out BK666.out (by decide)) (fun _ hk=>hk.2) (.bool ((rd_T133 l0_0 x57_2).f0))) (fun _ hk=>hk.2) (.slice A665_1 ((rd_T133 l0_0 x57_2).f1).length c665_1)) (fun _ h_=>h_.1))));(case side2=>exact (Kd.R_reads' HO_7.out).2.1);rintro e w' ⟨rfl,⟨nd,rfl⟩⟩;refine ⟨_,rfl,?_⟩));go_roundg k2;case measure=>have:=HK1.out;have:=HK2.out;omega
           case rel=>exact ⟨(x6_2),(x7_2),(x11_2),(wrap64 (x57_2 + 1)),(x662000_2),(u662000),(by first | rfl | (simp;done) | (simp [*];done)),H',⟨by have:=HK1.out;have:=HK2.out;omega⟩,⟨by (with_reducible repeat (first | apply Kd.R_alloc | apply Kd.R_drewN | apply Kd.R_drew));exact Kd.R_mono (Kd.R_far (p:=⟨gb666,1,none⟩) (Kd.R_far (p:=⟨gb666,0,none⟩) (Kd.R_types HO_6.out BK666.out (by decide)) (fun _ hk=>hk.2) (.bool ((rd_T133 l0_0 x57_2).f0))) (fun _ hk=>hk.2) (.slice A665_1 ((rd_T133 l0_0 x57_2).f1).length c665_1)) (fun _ hk=>⟨hk.1.1,hk.1.2⟩)⟩,⟨by (with_reducible repeat (first | apply Kd.R_alloc | apply Kd.R_drewN | apply Kd.R_drew));exact Kd.R_mono (Kd.R_far (p:=⟨gb666,1,none⟩) (Kd.R_far (p:=⟨gb666,0,none⟩) (Kd.R_types HO_7.out BK666.out (by decide)) (fun _ hk=>hk.2) (.bool ((rd_T133 l0_0 x57_2).f0))) (fun _ hk=>hk.2) (.slice A665_1 ((rd_T133 l0_0 x57_2).f1).length c665_1)) (fun _ hk=>⟨hk.1.1,hk.1.2⟩)⟩,⟨by (with_reducible repeat (first | apply Kd.R_alloc | apply Kd.R_drewN | apply Kd.R_drew));exact Kd.R_mono (Kd.R_far (p:=⟨gb666,1,none⟩) (Kd.R_far (p:=⟨gb666,0,none⟩) (Kd.R_types HO_11.out BK666.out (by decide)) (fun _ hk=>hk.2) (.bool ((rd_T133 l0_0 x57_2).f0))) (fun _ hk=>hk.2) (.slice A665_1 ((rd_T133 l0_0 x57_2).f1).length c665_1)) (fun _ hk=>⟨hk.1.1,hk.1.2⟩)⟩,⟨by (with_reducible repeat (first | apply Kd.S_alloc | apply Kd.S_drewN | apply Kd.S_drew));exact Kd.S_mono (Kd.S_far (p:=⟨gb666,1,none⟩) (Kd.S_far (p:=⟨gb666,0,none⟩) (Kd.S_mono HO_662000.out (fun k_ hk=>(⟨hk,hk.2⟩ : _ ∧ k_ ≠ gb666))) (fun _ hk=>hk.2) (.bool ((rd_T133 l0_0 x57_2).f0))) (fun _ hk=>hk.2) (.slice A665_1 ((rd_T133 l0_0 x57_2).f1).length c665_1)) (fun _ hk=>⟨hk.1.1.1,⟨hk.1.1.2.1,hk.1.1.2.2⟩⟩)⟩,⟨by (with_reducible repeat (first | refine blk_drewN ?_ _ | refine blk_drew ?_ | refine blk_alloc ?_ _));refine blk_far ?_ NB641_666.out _;(with_reducible repeat (first | refine blk_drewN ?_ _ | refine blk_drew ?_ | refine blk_alloc ?_ _));refine blk_far ?_ NB641_666.out _;(with_reducible repeat (first | refine blk_drewN ?_ _ | refine blk_drew ?_ | refine blk_alloc ?_ _));exact BK641.out⟩,⟨by (with_reducible repeat (first | refine blk_drewN ?_ _ | refine blk_drew ?_ | refine blk_alloc ?_ _));refine blk_far ?_ NB642_666.out _;(with_reducible repeat (first | refine blk_drewN ?_ _ | refine blk_drew ?_ | refine blk_alloc ?_ _));refine blk_far ?_ NB642_666.out _;(with_reducible repeat (first | refine blk_drewN ?_ _ | refine blk_drew ?_ | refine blk_alloc ?_ _));exact BK642.out⟩,⟨by (with_reducible repeat (first | refine blk_drewN ?_ _ | refine blk_drew ?_ | refine blk_alloc ?_ _));refine blk_far ?_ NB661_666.out _;(with_reducible repeat (first | refine blk_drewN ?_ _ | refine blk_drew ?_ | refine blk_alloc ?_ _));refine blk_far ?_ NB661_666.out _;(with_reducible repeat (first | refine blk_drewN ?_ _ | refine blk_drew ?_ | refine blk_alloc ?_ _));exact BK661.out⟩,⟨hs4 HB GE641 GE642 GE661 GE666⟩⟩
          rw [if_neg c45] at H;exact absurd H (by simp)
         rw [if_neg c44] at H;exact absurd H (by simp)
        rw [if_neg c43] at H;have c43b0 : decide (x57_2 < (l0_0.length : Int)) = false:=decide_eq_false c43;clear c43;have H':=Aside0.mk H;clear H
        go_wp2
        go_loopg [111] k2 (fun kq v111 w'=>∃ (x6_3 : List Int) (x111_3 : Int),v111 = .int .i64 x111_3 ∧ Aside0 (impl_SweepArena.l3 kq x6_3 x11_2 l1 (l1.length : Int) x111_3 x662000_2 = some (r1,r2)) ∧ Aside0 (kq ≤ k2) ∧ Aside0 (Kd.R (Kd.int .i64) 3 w' w.heap.size (fun k_=>some k_ ≠ (v663 : Value).ownBlock) v644 x6_3) ∧ Aside0 (Kd.R (Kd.int .i64) 3 w' w.heap.size (fun k_=>some k_ ≠ (v644 : Value).ownBlock) v663 x11_2) ∧ Aside0 (Kd.S k133 133 w' w.heap.size (fun k_=>some k_ ≠ (v644 : Value).ownBlock ∧ some k_ ≠ (v663 : Value).ownBlock) u662000 x662000_2) ∧ Aside0 (w'.heap[gb641]? = some (.cells #[(.slice A0_0 l0_0.length c0_0)] 44 (0,0))) ∧ Aside0 (w'.heap[gb642]? = some (.cells #[(.slice none 0 0)] 44 (0,0))) ∧ Aside0 (w'.heap[gb661]? = some (.cells #[u662000] 44 (0,0))) ∧ Aside0 (Below w.heap.size w w'));case atStart=>exact ⟨(x6_2),(0),(by first | rfl | (simp;done) | (simp [*];done)),H',⟨Nat.le_refl _⟩,⟨by (with_reducible repeat (first | apply Kd.R_alloc | apply Kd.R_drewN | apply Kd.R_drew));exact Kd.R_mono HO_6.out (fun _ hk=>hk.2)⟩,⟨by (with_reducible repeat (first | apply Kd.R_alloc | apply Kd.R_drewN | apply Kd.R_drew));exact Kd.R_mono HO_11.out (fun _ hk=>hk.1)⟩,⟨by (with_reducible repeat (first | apply Kd.S_alloc | apply Kd.S_drewN | apply Kd.S_drew));exact Kd.S_mono HO_662000.out (fun _ hk=>⟨hk.1,hk.2.2⟩)⟩,⟨bs BK641⟩,⟨bs BK642⟩,⟨bs BK661⟩,⟨hs3 HB GE641 GE642 GE661⟩⟩
        case round =>
         clear H'
         try clear c1
         try clear c2
         try clear p2
         try clear c3
         try clear c4
         try clear p4
         try clear q4
         try clear hx4
         try clear hf4
         try clear c5
         try clear c6
         try clear p6
         try clear q6
         try clear hx6
         try clear c7
         try clear c7b0
         try clear c8
         try clear c8b0
         try clear p8
         try clear q8
         try clear hx8
         try clear hf8
         try clear c9
         try clear c9b0
         try clear c10
         try clear c11
         try clear c11b0
         try clear c11b1
         try clear c13
         try clear c16
         try clear c18
         try clear c24
         try clear c25
         try clear c31
         try clear c32
         try clear c32b0
         try clear c32b1
         try clear c33
         try clear c33b0
         try clear c33b1
         try clear c34
         try clear c38
         try clear c43
         try clear c43b0
         try clear c44
         try clear c44b0
         try clear c45
         try clear c45b0
         try clear c47
         try clear c48
         try clear c48b0
         try clear p49
         try clear q49
         try clear hx49
         try clear hf49
         try clear c52
         try clear c53
         try clear c54
         try clear c58
         try clear c59
         try clear p64
         try clear q64
         try clear hx64
         try clear c66
         try clear p66
         try clear q66
         try clear hx66
         try clear p67
         try clear q67
         try clear hx67
         try clear c72
         try clear c74
         try clear c74b0
         try clear c75
         try clear c75b0
         try clear c76
         try clear c76b0
         try clear c77
         try clear c77b0
         try clear c78
         try clear c79
         try clear c80
         try clear c81
         try clear c83
         try clear c83b0
         try clear c84
         try clear c84b0
         try clear c85
         try clear c85b0
         try clear c86
         try clear c86b0
         try clear c87
         try clear p87
         try clear q87
         try clear hx87
         try clear hf87
         try clear c88
         try clear c89
         try clear c90
         try clear c91
         try clear c95
         try clear c96
         try clear c97
         try clear c98
         try clear c100
         try clear c101
         try clear c102
         try clear c103
         try clear c104
         try clear c106
         try clear c107
         try clear c108
         try clear c115
         try clear c116
         try clear c117
         try clear hcz105_0
         try clear hcz109_0
         try clear hcz109_1
         try clear hcz113_0
         try clear hcz118_0
         try clear hcz118_1
         try clear hcz14_0
         try clear hcz19_0
         try clear hcz22_0
         try clear hcz26_0
         try clear hcz35_0
         try clear hcz39_0
         try clear hcz42_0
         try clear hcz55_0
         try clear hcz55_1
         try clear hcz60_0
         try clear hcz73_0
         try clear hcz73_1
         try clear hcz82_0
         try clear hcz82_1
         try clear hcz92_0
         try clear hcz92_1
         try clear hcz99_0
         try clear hcz99_1
         try clear hfz105_0
         try clear hfz109_0
         try clear hfz109_1
         try clear hfz113_0
         try clear hfz118_0
         try clear hfz118_1
         try clear hfz14_0
         try clear hfz19_0
         try clear hfz22_0
         try clear hfz26_0
         try clear hfz35_0
         try clear hfz39_0
         try clear hfz42_0
         try clear hfz55_0
         try clear hfz55_1
         try clear hfz60_0
         try clear hfz73_0
         try clear hfz73_1
         try clear hfz82_0
         try clear hfz82_1
         try clear hfz92_0
         try clear hfz92_1
         try clear hfz99_0
         try clear hfz99_1
         try clear hx49_0
         try clear hx646_0
         try clear hx665_0
         try clear hx665_1
         try clear hx673_0
         try clear hx674_0
         try clear hx87_0
         try clear p2
         try clear p4
         try clear p49
         try clear p6
         try clear p64
         try clear p646
         try clear p66
         try clear p665
         try clear p673
         try clear p674
         try clear p87
         try clear q4
         try clear q49
         try clear q6
         try clear q64
         try clear q646
         try clear q66
         try clear q665
         try clear q673
         try clear q674
         try clear q87
         obtain ⟨x6_3,x111_3,rfl,HA,HK3,HO_6,HO_11,HO_662000,BK641,BK642,BK661,HB⟩:=hrel;cases gk with
         | zero=>exact absurd HA.out (by simp [impl_SweepArena.l3])
         | succ k3 =>
          have H:=HA.out;clear HA;simp only [impl_SweepArena.l3] at H
          by_cases c120 : x111_3 < (l1.length : Int)
          ·rw [if_pos c120] at H;have c120b0 : decide (x111_3 < (l1.length : Int)) = true:=decide_eq_true c120;clear c120
           by_cases c121 : 0 ≤ x111_3
           ·rw [if_pos c121] at H;have c121b0 : decide (0 ≤ x111_3) = true:=decide_eq_true c121;clear c121
            by_cases c122 : x111_3 < (l1.length : Int)
            ·rw [if_pos c122] at H;have c122b0 : decide (x111_3 < (l1.length : Int)) = true:=decide_eq_true c122;clear c122
             by_cases c123 : (rd l1 x111_3) ≥ 0
             ·rw [if_pos c123] at H;have c123b0 : decide (0 ≤ (rd l1 x111_3)) = true:=decide_eq_true c123;clear c123
              by_cases c124 : 0 ≤ (rd l1 x111_3)
              ·rw [if_pos c124] at H;have c124b0 : decide (0 ≤ (rd l1 x111_3)) = true:=decide_eq_true c124;clear c124
               by_cases c125 : (rd l1 x111_3) < (x11_2.length : Int)
               ·rw [if_pos c125] at H;have c125b0 : decide ((rd l1 x111_3) < (x11_2.length : Int)) = true:=decide_eq_true c125;clear c125
                by_cases c126 : x111_3 < (x6_3.length : Int)
                ·rw [if_pos c126] at H;have c126b0 : decide (x111_3 < (x6_3.length : Int)) = true:=decide_eq_true c126;clear c126;obtain ⟨y681,hy681⟩ : ∃ y_ : List Int,y_ = (x6_3.set (x111_3 : Int).toNat (rd x11_2 (rd l1 x111_3))):=⟨_,rfl⟩;replace H : (impl_SweepArena.l3 k3 y681 x11_2 l1 (l1.length : Int) (wrap64 (x111_3 + 1)) x662000_2) = some (r1,r2):=by first | (rw [hy681];with_reducible exact H) | (have H2_:=(Option.bind_some _ _).symm.trans H;rw [hy681];with_reducible exact H2_) | (have H2_:=(Option.bind_some _ _).symm.trans H;with_reducible exact H2_) | with_reducible exact H | (rw [hy681];exact H) | exact H
                 have Ny681:=Aside0.mk hy681;clear hy681;have H':=Aside0.mk H;clear H;have p679 : 0 ≤ (x111_3 : Int):=of_decide_eq_true (by first | (with_reducible assumption) | assumption);have q679 : x111_3 < (l1.length : Int):=of_decide_eq_true (by first | (with_reducible assumption) | assumption);obtain ⟨ad679,e679,hx679_0⟩:=Kd.at_int HR1.out x111_3 p679 q679;cases e679;replace hx679_0:=(HB.out.cell (World.block_lt_of_cell? w _ hx679_0)).trans hx679_0;replace p679:=eq_true p679;replace q679:=eq_true q679;obtain ⟨Ao128,co128,eo128⟩:=Kd.R_slice HO_11.out;subst eo128;have p680 : 0 ≤ ((rd l1 x111_3) : Int):=of_decide_eq_true (by first | (with_reducible assumption) | assumption);have q680 : (rd l1 x111_3) < (x11_2.length : Int):=of_decide_eq_true (by first | (with_reducible assumption) | assumption);obtain ⟨ad680,e680,hx680_0⟩:=Kd.at_int (Kd.R_reads' HO_11.out).2.2 (rd l1 x111_3) p680 q680;cases e680;replace p680:=eq_true p680;replace q680:=eq_true q680;have p127 : 0 ≤ (x111_3 : Int):=of_decide_eq_true (by first | (with_reducible assumption) | assumption);have q127 : (x111_3 : Int) < ((x6_3.length : Int) : Int):=of_decide_eq_true (by first | (with_reducible assumption) | assumption);obtain ⟨go127,co127,eo127,gb127,gl127,cl127,HG127⟩:=Kd.R_form HO_6.out (by omega)
                 (first | cases eo127 | (injection eo127 with ea_ en_ ec_;(first | subst ea_ | (injection ea_ with ea_;subst ea_));subst ec_;clear en_))
                 have GB127:=Aside0.mk gb127;have GG127:=Aside0.mk HG127;clear gb127 gl127 HG127;obtain ⟨hx127_0,hf127_0⟩:=Kd.R_celln 0 HO_6.out (x111_3 : Int) p127 q127;replace p127:=eq_true p127;replace q127:=eq_true q127;have HP129:=Kd.R_putg HO_6.out (x111_3 : Int) (rd x11_2 (rd l1 x111_3));go_wp2_with (first | ((with_reducible refine gate_store (t:=3) (p:=124) rfl ?_);refine store_event (t:=3) (p:=124) (v:=?vo_w130) (w1:=(wr.setCell ⟨go127,(x111_3 : Int).toNat,none⟩ (.int .i64 (rd x11_2 (rd l1 x111_3))))) ?hg ?ho ?hn ?hr ?_;(case ho=>rfl);(case hg=>rfl);(case hn=>rfl);(case hr=>first | (go_simp;done) | (go_simp;rfl));intro w130 hw;have hg : wr.grownBy w130 (some go127):=(by rw [hw];exact HP129.2);have hp_ : Kd.R (Kd.int .i64) 3 w130 w.heap.size (fun k_=>some k_ ≠ (.slice (some ad680) x11_2.length co128 : Value).ownBlock) (.slice (some ⟨go127,0,none⟩) x6_3.length co127) y681:=(by rw [hw,Ny681.out];exact HP129.1);clear HP129;have n0_:=Aside0.mk (hp_);have n1_:=Aside0.mk (Kd.R_after (v:=(.slice (some ⟨go127,0,none⟩) x6_3.length co127)) (v1:=(.slice (some ⟨go127,0,none⟩) x6_3.length co127)) (ok:=(fun _=>True)) (by (with_reducible repeat (first | apply Kd.R_alloc | apply Kd.R_drewN | apply Kd.R_drew));exact Kd.R_mono HO_11.out (fun _ hk=>⟨trivial,hk⟩)) hg (.inl rfl));have n2_:=Aside0.mk (Kd.S_after (v:=(.slice (some ⟨go127,0,none⟩) x6_3.length co127)) (v1:=(.slice (some ⟨go127,0,none⟩) x6_3.length co127)) (ok:=(fun k_=>some k_ ≠ (.slice (some ad680) x11_2.length co128 : Value).ownBlock)) (by (with_reducible repeat (first | apply Kd.S_alloc | apply Kd.S_drewN | apply Kd.S_drew));exact Kd.S_mono HO_662000.out (fun _ hk=>⟨hk.2,hk.1⟩)) hg (.inl rfl));have n3_:=Aside0.mk (blk_grown (g:=gb641) (o:=.cells #[.slice A0_0 l0_0.length c0_0] 44 (0,0)) (bs BK641) hg (Kd.R_ne HO_6.out BK641.out (by decide)));have n4_:=Aside0.mk (blk_grown (g:=gb642) (o:=.cells #[.slice none 0 0] 44 (0,0)) (bs BK642) hg (Kd.R_ne HO_6.out BK642.out (by decide)));have n5_:=Aside0.mk (blk_grown (g:=gb661) (o:=.cells #[u662000] 44 (0,0)) (bs BK661) hg (Kd.R_ne HO_6.out BK661.out (by decide)));have n6_:=Aside0.mk ((by rw [hw];exact below_set (HB.out) GB127.out : Below w.heap.size w w130));clear HO_6;clear HO_11;clear HO_662000;clear BK641;clear BK642;clear BK661;clear HB;have HO_6:=n0_;have HO_11:=n1_;have HO_662000:=n2_;have BK641:=n3_;have BK642:=n4_;have BK661:=n5_;have HB:=n6_;clear n0_ n1_ n2_ n3_ n4_ n5_ n6_;clear hg hw hp_));go_roundg k3;case measure=>have:=HK1.out;have:=HK2.out;have:=HK3.out;omega
                 case rel=>exact ⟨(y681),(wrap64 (x111_3 + 1)),(by first | rfl | (simp;done) | (simp [*];done)),H',⟨by have:=HK1.out;have:=HK2.out;have:=HK3.out;omega⟩,⟨rs HO_6⟩,⟨by (with_reducible repeat (first | apply Kd.R_alloc | apply Kd.R_drewN | apply Kd.R_drew));exact Kd.R_mono HO_11.out (fun _ hk=>hk.2)⟩,⟨by (with_reducible repeat (first | apply Kd.S_alloc | apply Kd.S_drewN | apply Kd.S_drew));exact Kd.S_mono HO_662000.out (fun _ hk=>⟨hk.2,hk.1⟩)⟩,⟨bs BK641⟩,⟨bs BK642⟩,⟨bs BK661⟩,⟨hs3 HB GE641 GE642 GE661⟩⟩
                rw [if_neg c126] at H;exact absurd H (by simp)
               rw [if_neg c125] at H;exact absurd H (by simp)
              rw [if_neg c124] at H;exact absurd H (by simp)
             rw [if_neg c123] at H;have c123b0 : decide (0 ≤ (rd l1 x111_3)) = false:=decide_eq_false c123;clear c123;have H':=Aside0.mk H;clear H;have p679 : 0 ≤ (x111_3 : Int):=of_decide_eq_true (by first | (with_reducible assumption) | assumption);have q679 : x111_3 < (l1.length : Int):=of_decide_eq_true (by first | (with_reducible assumption) | assumption);obtain ⟨ad679,e679,hx679_0⟩:=Kd.at_int HR1.out x111_3 p679 q679;cases e679;replace hx679_0:=(HB.out.cell (World.block_lt_of_cell? w _ hx679_0)).trans hx679_0;replace p679:=eq_true p679;replace q679:=eq_true q679
             go_wp2
             go_roundg k3;case measure=>have:=HK1.out;have:=HK2.out;have:=HK3.out;omega
             case rel=>exact ⟨(x6_3),(wrap64 (x111_3 + 1)),(by first | rfl | (simp;done) | (simp [*];done)),H',⟨by have:=HK1.out;have:=HK2.out;have:=HK3.out;omega⟩,⟨rs HO_6⟩,⟨rs HO_11⟩,⟨ss HO_662000⟩,⟨bs BK641⟩,⟨bs BK642⟩,⟨bs BK661⟩,⟨hs3 HB GE641 GE642 GE661⟩⟩
            rw [if_neg c122] at H;exact absurd H (by simp)
           rw [if_neg c121] at H;exact absurd H (by simp)
          rw [if_neg c120] at H;have c120b0 : decide (x111_3 < (l1.length : Int)) = false:=decide_eq_false c120;clear c120;simp only [Option.some.injEq,Prod.mk.injEq] at H;obtain ⟨rfl,rfl⟩:=H;have hnb131:=NB661_641.out;have hnc131:=NB641_661.out;have hnb132:=NB661_642.out;have hnc132:=NB642_661.out;have hcz133_0 : wr.cell? ⟨gb661,0,none⟩ = some (u662000):=(blk_cell BK661.out 0).trans rfl;have hfz133_0:=blk_frozen BK661.out 0;obtain ⟨Ao134,co134,eo134⟩:=Kd.S_slice HO_662000.out;subst eo134;have hnb135:=NB642_641.out;have hnc135:=NB641_642.out;have hcz136_0 : wr.cell? ⟨gb642,0,none⟩ = some (.slice none 0 0):=(blk_cell BK642.out 0).trans rfl;have hfz136_0:=blk_frozen BK642.out 0
          go_wp2
          refine bodyPost_ret (results_ct rfl _ _ gb642 44 #[.slice Ao134 x662000_2.length co134] (0,0) _ rfl (by (with_reducible repeat (first | refine blk_drewN ?_ _ | refine blk_drew ?_ | refine blk_alloc ?_ _));refine blk_put (cs:=#[.slice none 0 0]) ?_ 0 _ rfl;(with_reducible repeat (first | refine blk_drewN ?_ _ | refine blk_drew ?_ | refine blk_alloc ?_ _));exact BK642.out) Try.underlying44 rfl (by kernel_rfl)) rfl ?_;exact ⟨_,_,by first | rfl | (simp [errW_none,errW_some] <;> rfl) | (simp [*,errW_none,errW_some] <;> rfl),by (with_reducible repeat (first | apply Kd.S_alloc | apply Kd.S_drewN | apply Kd.S_drew));exact Kd.S_mono (Kd.S_far (p:=⟨gb642,0,none⟩) (Kd.S_types HO_662000.out BK642.out (by decide)) (fun _ hk=>hk.2) (.slice Ao134 x662000_2.length co134)) (fun _ hk=>hk.1.1),by (with_reducible repeat (first | apply Kd.R_alloc | apply Kd.R_drewN | apply Kd.R_drew));exact Kd.R_mono (Kd.R_far (p:=⟨gb642,0,none⟩) (Kd.R_types HO_6.out BK642.out (by decide)) (fun _ hk=>hk.2) (.slice Ao134 x662000_2.length co134)) (fun _ hk=>trivial),hs3 HB GE641 GE642 GE661⟩
     rw [if_neg c33] at H;exact absurd H (by simp)
    rw [if_neg c32] at H;exact absurd H (by simp)
   replace c31:=Bool.eq_false_iff.mpr c31;subst c31;have H1 : ((impl_copyArena.f k1 l0_0).bind fun t658=>(some (t658,t643))) = some (r1,r2):=by rw [if_neg (show ¬ (false = true) by decide)] at H;exact H
   clear H;have H:=H1;clear H1;replace H:=Option.bind_eq_some_iff.mp H;obtain ⟨t658,A1370,H⟩:=H;replace H : (some (t658,t643)) = some (r1,r2):=H;have A137:=Aside0.mk A1370;clear A1370;simp only [Option.some.injEq,Prod.mk.injEq] at H;obtain ⟨rfl,rfl⟩:=H;have hnb138:=NB641_642.out;have hnc138:=NB642_641.out;have hcz139_0 : wr.cell? ⟨gb641,0,none⟩ = some (.slice A0_0 l0_0.length c0_0):=(blk_cell BK641.out 0).trans rfl;have hfz139_0:=blk_frozen BK641.out 0;go_wp2_with (first | ((with_reducible refine gate_callee (f:=25) rfl ?_);refine goesL_ (some 45) rfl rfl Try.func25 (by kernel_rfl) rfl #[.agg #[.slice A0_0 l0_0.length c0_0]] rfl (by (try simp only [List.map_toArray,List.map_cons,List.map_nil]);first | done | rfl | (simp only [List.length_drop,List.length_take];rfl)) ?_;(with_reducible refine (impl_ArenaOk.calls k1 _ _ l0_0 false _ ?side1 ?side2 A30.out).mono ?_);(case side1=>repeat (first | exact (Kd.C_below HR0_0.out HB.out) | (with_reducible refine Kd.C_alloc ?_ _) | (with_reducible refine Kd.C_drewN ?_ _) | (with_reducible refine Kd.C_drew ?_)));(case side2=>exact HC0_0.out);rintro e w140 ⟨rfl,hb⟩;refine ⟨_,rfl,?_⟩;have n0_:=Aside0.mk (Kd.R_below (rs HO_6) hb);have n1_:=Aside0.mk (Kd.R_below (rs HO_7) hb);have n2_:=Aside0.mk (blk_below (g:=gb641) (o:=.cells #[.slice A0_0 l0_0.length c0_0] 44 (0,0)) (bs BK641) hb);have n3_:=Aside0.mk (blk_below (g:=gb642) (o:=.cells #[.slice none 0 0] 44 (0,0)) (bs BK642) hb);have n4_:=Aside0.mk (below_step (hs2 HB GE641 GE642) hb);clear HO_6;clear HO_7;clear BK641;clear BK642;clear HB;have HO_6:=n0_;have HO_7:=n1_;have BK641:=n2_;have BK642:=n3_;have HB:=n4_;clear n0_ n1_ n2_ n3_ n4_;(try clear hb);(try clear hb2);(try clear hk);(try clear hi);have hcz141_0 : w140.cell? ⟨gb641,0,none⟩ = some (.slice A0_0 l0_0.length c0_0):=(blk_cell BK641.out 0).trans rfl;have hfz141_0:=blk_frozen BK641.out 0) | ((with_reducible refine gate_callee (f:=93) rfl ?_);refine goesL_ (some 48) rfl rfl Try.func93 (by kernel_rfl) rfl #[.agg #[.slice A0_0 l0_0.length c0_0]] rfl (by (try simp only [List.map_toArray,List.map_cons,List.map_nil]);first | done | rfl | (simp only [List.length_drop,List.length_take];rfl)) ?_;(with_reducible refine (impl_copyArena.calls k1 _ _ l0_0 t658 _ ?side1 ?side2 A137.out).mono ?_);(case side1=>repeat (first | exact (Kd.C_below HR0_0.out HB.out) | (with_reducible refine Kd.C_alloc ?_ _) | (with_reducible refine Kd.C_drewN ?_ _) | (with_reducible refine Kd.C_drew ?_)));(case side2=>exact HC0_0.out);rintro e w142 ⟨v659,rfl,ho0,hb⟩;refine ⟨_,rfl,?_⟩;have n0_:=Aside0.mk (Kd.R_below (rs HO_6) hb);have n1_:=Aside0.mk (Kd.R_below (rs HO_7) hb);have n2_:=Aside0.mk (Kd.S_lower (Kd.S_new' (Kd.S_new' ho0 (Kd.R_lt (rs HO_6))) (Kd.R_lt (rs HO_7))) (below_size (hs2 HB GE641 GE642)));have n3_:=Aside0.mk (blk_below (g:=gb641) (o:=.cells #[.slice A0_0 l0_0.length c0_0] 44 (0,0)) (bs BK641) hb);have n4_:=Aside0.mk (blk_below (g:=gb642) (o:=.cells #[.slice none 0 0] 44 (0,0)) (bs BK642) hb);have n5_:=Aside0.mk (below_step (hs2 HB GE641 GE642) hb);clear HO_6;clear HO_7;clear BK641;clear BK642;clear HB;have HO_6:=n0_;have HO_7:=n1_;have HO660:=n2_;have BK641:=n3_;have BK642:=n4_;have HB:=n5_;clear n0_ n1_ n2_ n3_ n4_ n5_;(try clear hb);(try clear hb2);(try clear hk);(try clear hi);(try clear ho0);obtain ⟨Ao143,co143,eo143⟩:=Kd.S_slice HO660.out;subst eo143;have hcz144_0 : w142.cell? ⟨gb642,0,none⟩ = some (.slice none 0 0):=(blk_cell BK642.out 0).trans rfl;have hfz144_0:=blk_frozen BK642.out 0));refine bodyPost_ret (results_ct rfl _ _ gb642 44 #[.slice Ao143 t658.length co143] (0,0) _ rfl (by (with_reducible repeat (first | refine blk_drewN ?_ _ | refine blk_drew ?_ | refine blk_alloc ?_ _));refine blk_put (cs:=#[.slice none 0 0]) ?_ 0 _ rfl;(with_reducible repeat (first | refine blk_drewN ?_ _ | refine blk_drew ?_ | refine blk_alloc ?_ _));exact BK642.out) Try.underlying44 rfl (by kernel_rfl)) rfl ?_;exact ⟨_,_,by first | rfl | (simp [errW_none,errW_some] <;> rfl) | (simp [*,errW_none,errW_some] <;> rfl),by (with_reducible repeat (first | apply Kd.S_alloc | apply Kd.S_drewN | apply Kd.S_drew));exact Kd.S_mono (Kd.S_far (p:=⟨gb642,0,none⟩) (Kd.S_types HO660.out BK642.out (by decide)) (fun _ hk=>hk.2) (.slice Ao143 t658.length co143)) (fun _ hk=>hk.1.1.2),by (with_reducible repeat (first | apply Kd.R_alloc | apply Kd.R_drewN | apply Kd.R_drew));exact Kd.R_mono (Kd.R_far (p:=⟨gb642,0,none⟩) (Kd.R_types HO_6.out BK642.out (by decide)) (fun _ hk=>hk.2) (.slice Ao143 t658.length co143)) (fun _ hk=>trivial),hs2 HB GE641 GE642⟩
end Go.Proofs.Ytdolplcbokioaaa.PB

namespace Go.Proofs.Ytdolplcbokioaaa.PB
open Go.RowKit Go.Proofs.YtdolplcbokioaaaW.PrintWords Go.Proofs.YtdolplcbokioaaaW.PrintLast Go.Proofs.YtdolplcbokioaaaW.PrintMore
attribute [local go_sem] max2_int min2_int max_two min_two max_three min_three max_four min_four   -- for this text's walks alone
set_option linter.unusedVariables false
set_option linter.unusedSimpArgs false
def laws_szIntS.f (l0 : List Int) (a1 : Int) : Option (Int):=if (wrap64 (a1 - (l0.length : Int))) < 0 then (some (-1)) else (some (wrap64 (a1 - (l0.length : Int))))
set_option maxHeartbeats 8000000 in
set_option maxRecDepth 100000 in
theorem laws_szIntS.calls (A0 : Option Addr) (c0 : Nat) (l0 : List Int) (a1 : Int) (r : Int) (w : World) (hr0 : Kd.C (Kd.int .i64) w A0 l0.length l0) (hc0 : l0.length ≤ c0) (h : laws_szIntS.f l0 a1 = some r) :
  Calls Try.prog 162 #[.slice A0 l0.length c0,.int .i64 a1] w fun e w'=>e = .returned (.int .i64 r) ∧ Drawn0 w w':=by
 have HR0:=Aside0.mk hr0;have HC0:=Aside0.mk hc0;clear hr0 hc0;have H : (if (wrap64 (a1 - (l0.length : Int))) < 0 then (some (-1)) else (some (wrap64 (a1 - (l0.length : Int))))) = some r:=h;clear h
 by_cases c3 : (wrap64 (a1 - (l0.length : Int))) < 0
 ·rw [if_pos c3] at H;have c3b0 : decide ((wrap64 (a1 - (l0.length : Int))) < 0) = true:=decide_eq_true c3;clear c3;obtain rfl:=Option.some.inj H
  go_enter Try.func162,Try.ntmps162
  go_wp2
  go_ret
  exact ⟨by first | rfl | (simp;done) | (simp [*];done),by repeat (first | exact Drawn0.refl _ | apply Drawn0.step)⟩
 rw [if_neg c3] at H;have c3b0 : decide ((wrap64 (a1 - (l0.length : Int))) < 0) = false:=decide_eq_false c3;clear c3;obtain rfl:=Option.some.inj H
 go_enter Try.func162,Try.ntmps162
 go_wp2
 go_ret
 exact ⟨by first | rfl | (simp;done) | (simp [*];done),by repeat (first | exact Drawn0.refl _ | apply Drawn0.step)⟩
end Go.Proofs.Ytdolplcbokioaaa.PB

namespace Go.Proofs.Ytdolplcbokioaaa.PB
open Go.RowKit Go.Proofs.YtdolplcbokioaaaW.PrintWords Go.Proofs.YtdolplcbokioaaaW.PrintLast Go.Proofs.YtdolplcbokioaaaW.PrintMore
attribute [local go_sem] max2_int min2_int max_two min_two max_three min_three max_four min_four   -- for this text's walks alone
set_option linter.unusedVariables false
set_option linter.unusedSimpArgs false
def laws_szKnot.f (a0_0 : Bool) (l0_1 : List Int) (a1 : Int) : Option (Int):=(laws_szIntS.f l0_1 a1).bind fun t762=>(if t762 < 0 then (some (-1)) else (some t762))
set_option maxHeartbeats 8000000 in
set_option maxRecDepth 100000 in
theorem laws_szKnot.calls (a0_0 : Bool) (A0_1 : Option Addr) (c0_1 : Nat) (l0_1 : List Int) (a1 : Int) (r : Int) (w : World) (hr0_1 : Kd.C (Kd.int .i64) w A0_1 l0_1.length l0_1) (hc0_1 : l0_1.length ≤ c0_1) (h : laws_szKnot.f a0_0 l0_1 a1 = some r) :
  Calls Try.prog 143 #[.agg #[.bool a0_0,.slice A0_1 l0_1.length c0_1],.int .i64 a1] w fun e w'=>e = .returned (.int .i64 r) ∧ Below w.heap.size w w':=by
 have hu175:=Try.underlying175;have HR0_1:=Aside0.mk hr0_1;have HC0_1:=Aside0.mk hc0_1;clear hr0_1 hc0_1;have HB:=Aside0.mk (Below.refl w.heap.size w);have H : ((laws_szIntS.f l0_1 a1).bind fun t762=>(if t762 < 0 then (some (-1)) else (some t762))) = some r:=h;clear h;replace H:=Option.bind_eq_some_iff.mp H;obtain ⟨t762,A30,H⟩:=H;replace H : (if t762 < 0 then (some (-1)) else (some t762)) = some r:=H;have A3:=Aside0.mk A30;clear A30
 by_cases c4 : t762 < 0
 ·rw [if_pos c4] at H;have c4b0 : decide (t762 < 0) = true:=decide_eq_true c4;clear c4;obtain rfl:=Option.some.inj H
  go_enter Try.func143,Try.ntmps143
  go_wp2_with (first | ((with_reducible refine gate_dst (N:=2) rfl ?_);refine box_event ?hg (N:=2) ?hd (cs:=#[.bool a0_0,.slice A0_1 l0_1.length c0_1]) (t:=175) ?hr ?_;(case hd=>rfl);(case hg=>rfl);(case hr=>first | (go_simp;done) | (go_simp;rfl));intro gb761 hg w5 hbox hb;have n0_:=Aside0.mk (below_step (hs HB) hb);have n1_:=Aside0.mk (hbox);have n2_:=Aside0.mk ((by rw [hg];exact (below_size (hs HB)) : w.heap.size ≤ gb761));have n3_:=Aside0.mk ((by rw [hg];exact (below_size (hs HB)) : w.heap.size ≤ gb761));clear HB;have HB:=n0_;have BK761:=n1_;have GW761:=n2_;have GE761:=n3_;clear n0_ n1_ n2_ n3_;clear hb hbox hg;have hcz6_0 : w5.cell? ⟨gb761,0,none⟩ = some (.bool a0_0):=(blk_cell BK761.out 0).trans rfl;have hcz6_1 : w5.cell? ⟨gb761,1,none⟩ = some (.slice A0_1 l0_1.length c0_1):=(blk_cell BK761.out 1).trans rfl;have hfz6_0:=blk_frozen BK761.out 0;have hfz6_1:=blk_frozen BK761.out 1) | ((with_reducible refine gate_callee (f:=162) rfl ?_);refine goesL_ (some 8) rfl rfl Try.func162 (by kernel_rfl) rfl #[.slice A0_1 l0_1.length c0_1,.int .i64 a1] rfl (by (try simp only [List.map_toArray,List.map_cons,List.map_nil]);first | done | rfl | (simp only [List.length_drop,List.length_take];rfl)) ?_;(with_reducible refine (laws_szIntS.calls _ _ l0_1 a1 t762 _ ?side1 ?side2 A3.out).mono ?_);(case side1=>repeat (first | exact (Kd.C_below HR0_1.out HB.out) | (with_reducible refine Kd.C_alloc ?_ _) | (with_reducible refine Kd.C_drewN ?_ _) | (with_reducible refine Kd.C_drew ?_)));(case side2=>exact HC0_1.out);rintro e w' ⟨rfl,⟨nd,rfl⟩⟩;refine ⟨_,rfl,?_⟩))
  go_ret
  exact ⟨by first | rfl | (simp [errW_none,errW_some] <;> rfl) | (simp [*,errW_none,errW_some] <;> rfl),hs1 HB GE761⟩
 rw [if_neg c4] at H;have c4b0 : decide (t762 < 0) = false:=decide_eq_false c4;clear c4;obtain rfl:=Option.some.inj H
 go_enter Try.func143,Try.ntmps143
 go_wp2_with (first | ((with_reducible refine gate_dst (N:=2) rfl ?_);refine box_event ?hg (N:=2) ?hd (cs:=#[.bool a0_0,.slice A0_1 l0_1.length c0_1]) (t:=175) ?hr ?_;(case hd=>rfl);(case hg=>rfl);(case hr=>first | (go_simp;done) | (go_simp;rfl));intro gb761 hg w7 hbox hb;have n0_:=Aside0.mk (below_step (hs HB) hb);have n1_:=Aside0.mk (hbox);have n2_:=Aside0.mk ((by rw [hg];exact (below_size (hs HB)) : w.heap.size ≤ gb761));have n3_:=Aside0.mk ((by rw [hg];exact (below_size (hs HB)) : w.heap.size ≤ gb761));clear HB;have HB:=n0_;have BK761:=n1_;have GW761:=n2_;have GE761:=n3_;clear n0_ n1_ n2_ n3_;clear hb hbox hg;have hcz8_0 : w7.cell? ⟨gb761,0,none⟩ = some (.bool a0_0):=(blk_cell BK761.out 0).trans rfl;have hcz8_1 : w7.cell? ⟨gb761,1,none⟩ = some (.slice A0_1 l0_1.length c0_1):=(blk_cell BK761.out 1).trans rfl;have hfz8_0:=blk_frozen BK761.out 0;have hfz8_1:=blk_frozen BK761.out 1) | ((with_reducible refine gate_callee (f:=162) rfl ?_);refine goesL_ (some 8) rfl rfl Try.func162 (by kernel_rfl) rfl #[.slice A0_1 l0_1.length c0_1,.int .i64 a1] rfl (by (try simp only [List.map_toArray,List.map_cons,List.map_nil]);first | done | rfl | (simp only [List.length_drop,List.length_take];rfl)) ?_;(with_reducible refine (laws_szIntS.calls _ _ l0_1 a1 t762 _ ?side1 ?side2 A3.out).mono ?_);(case side1=>repeat (first | exact (Kd.C_below HR0_1.out HB.out) | (with_reducible refine Kd.C_alloc ?_ _) | (with_reducible refine Kd.C_drewN ?_ _) | (with_reducible refine Kd.C_drew ?_)));(case side2=>exact HC0_1.out);rintro e w' ⟨rfl,⟨nd,rfl⟩⟩;refine ⟨_,rfl,?_⟩))
 go_ret
 exact ⟨by first | rfl | (simp [errW_none,errW_some] <;> rfl) | (simp [*,errW_none,errW_some] <;> rfl),hs1 HB GE761⟩
end Go.Proofs.Ytdolplcbokioaaa.PB

namespace Go.Proofs.Ytdolplcbokioaaa.PB
open Go.RowKit Go.Proofs.YtdolplcbokioaaaW.PrintWords Go.Proofs.YtdolplcbokioaaaW.PrintLast Go.Proofs.YtdolplcbokioaaaW.PrintMore
attribute [local go_sem] max2_int min2_int max_two min_two max_three min_three max_four min_four   -- for this text's walks alone
set_option linter.unusedVariables false
set_option linter.unusedSimpArgs false
def laws_szKnotS.l0 : Nat → List (S175) → Int → Int → Option (Int)
 | 0,_,_,_=>none
 | k + 1,x0,x1,x5=>if x5 < (x0.length : Int) then (if 0 ≤ x5 then ((laws_szKnot.f ((rd_T175 x0 x5).f0) ((rd_T175 x0 x5).f1) x1).bind fun t764=>(if t764 < 0 then (some (-1)) else (laws_szKnotS.l0 k x0 t764 (wrap64 (x5 + 1))))) else (none)) else (some x1)
def laws_szKnotS.f (k : Nat) (l0 : List (S175)) (a1 : Int) : Option (Int):=if (wrap64 (a1 - (l0.length : Int))) < 0 then (some (-1)) else (laws_szKnotS.l0 k l0 (wrap64 (a1 - (l0.length : Int))) 0)
theorem laws_szKnotS.mono_l : ∀ k,(∀ y0 y1 y2,LeO (laws_szKnotS.l0 k y0 y1 y2) (laws_szKnotS.l0 (k + 1) y0 y1 y2))
 | 0=>fun _ _ _ r h=>by simp [laws_szKnotS.l0] at h
 | k + 1=>by
  have ih0:=laws_szKnotS.mono_l k;intro y0 y1 y2;unfold laws_szKnotS.l0
  repeat' first
  | (with_reducible exact ih0 _ _ _)
  | (with_reducible exact LeO.refl _)
  | (with_reducible exact LeO.none _)
  | (with_reducible refine LeO.ite ?_ ?_)
  | (with_reducible refine LeO.bind ?_ (fun _=>?_))
  | exact ih0 _ _ _
  | exact LeO.none _
  | refine LeO.ite ?_ ?_
  | refine LeO.bind ?_ (fun _=>?_)
theorem laws_szKnotS.mono : ∀ a0 a1 k,LeO (laws_szKnotS.f k a0 a1) (laws_szKnotS.f (k + 1) a0 a1):=by
 intro a0 a1 k;have ih0:=laws_szKnotS.mono_l k;unfold laws_szKnotS.f
 repeat' first
   | (with_reducible exact ih0 _ _ _)
   | (with_reducible exact LeO.refl _)
   | (with_reducible exact LeO.none _)
   | (with_reducible refine LeO.ite ?_ ?_)
   | (with_reducible refine LeO.bind ?_ (fun _=>?_))
   | exact ih0 _ _ _
   | exact LeO.none _
   | refine LeO.ite ?_ ?_
   | refine LeO.bind ?_ (fun _=>?_)
set_option maxHeartbeats 8000000 in
set_option maxRecDepth 100000 in
theorem laws_szKnotS.calls (k : Nat) (A0 : Option Addr) (c0 : Nat) (l0 : List (S175)) (a1 : Int) (r : Int) (w : World) (hr0 : Kd.C k175 w A0 l0.length l0) (hc0 : l0.length ≤ c0) (h : laws_szKnotS.f k l0 a1 = some r) :
  Calls Try.prog 97 #[.slice A0 l0.length c0,.int .i64 a1] w fun e w'=>e = .returned (.int .i64 r) ∧ Below w.heap.size w w':=by
 have hu175:=Try.underlying175;have HR0:=Aside0.mk hr0;have HC0:=Aside0.mk hc0;clear hr0 hc0;have HB:=Aside0.mk (Below.refl w.heap.size w);have H : (if (wrap64 (a1 - (l0.length : Int))) < 0 then (some (-1)) else (laws_szKnotS.l0 k l0 (wrap64 (a1 - (l0.length : Int))) 0)) = some r:=h;clear h
 by_cases c3 : (wrap64 (a1 - (l0.length : Int))) < 0
 ·rw [if_pos c3] at H;have c3b0 : decide ((wrap64 (a1 - (l0.length : Int))) < 0) = true:=decide_eq_true c3;clear c3;obtain rfl:=Option.some.inj H
  go_enter Try.func97,Try.ntmps97
  go_wp2
  go_ret
  exact ⟨by first | rfl | (simp [errW_none,errW_some] <;> rfl) | (simp [*,errW_none,errW_some] <;> rfl),hs HB⟩
 rw [if_neg c3] at H;have c3b0 : decide ((wrap64 (a1 - (l0.length : Int))) < 0) = false:=decide_eq_false c3;clear c3;have H':=Aside0.mk H;clear H
 go_enter Try.func97,Try.ntmps97
 go_wp2
 go_loopg [1,5] k (fun kq v1 v5 w'=>∃ (x1_1 : Int) (x5_1 : Int),v1 = .int .i64 x1_1 ∧ v5 = .int .i64 x5_1 ∧ Aside0 (laws_szKnotS.l0 kq l0 x1_1 x5_1 = some r) ∧ Aside0 (kq ≤ k) ∧ Aside0 (Below w.heap.size w w'));case atStart=>exact ⟨(wrap64 (a1 - (l0.length : Int))),(0),(by first | rfl | (simp;done) | (simp [*];done)),(by first | rfl | (simp;done) | (simp [*];done)),H',⟨Nat.le_refl _⟩,⟨hs HB⟩⟩
 case round =>
  clear H'
  try clear p2
  try clear c3
  try clear c3b0
  obtain ⟨x1_1,x5_1,rfl,rfl,HA,HK1,HB⟩:=hrel;cases gk with
  | zero=>exact absurd HA.out (by simp [laws_szKnotS.l0])
  | succ k1 =>
   have H:=HA.out;clear HA;simp only [laws_szKnotS.l0] at H
   by_cases c4 : x5_1 < (l0.length : Int)
   ·rw [if_pos c4] at H;have c4b0 : decide (x5_1 < (l0.length : Int)) = true:=decide_eq_true c4;clear c4
    by_cases c5 : 0 ≤ x5_1
    ·rw [if_pos c5] at H;have c5b0 : decide (0 ≤ x5_1) = true:=decide_eq_true c5;clear c5;replace H:=Option.bind_eq_some_iff.mp H;obtain ⟨t764,A60,H⟩:=H;replace H : (if t764 < 0 then (some (-1)) else (laws_szKnotS.l0 k1 l0 t764 (wrap64 (x5_1 + 1)))) = some r:=H;have A6:=Aside0.mk A60;clear A60
     by_cases c7 : t764 < 0
     ·rw [if_pos c7] at H;have c7b0 : decide (t764 < 0) = true:=decide_eq_true c7;clear c7;obtain rfl:=Option.some.inj H;have p763 : 0 ≤ (x5_1 : Int):=of_decide_eq_true (by first | (with_reducible assumption) | assumption);have q763 : x5_1 < (l0.length : Int):=of_decide_eq_true (by first | (with_reducible assumption) | assumption);obtain ⟨ad763,A763_1,c763_1,e763,hx763_0,hx763_1,hl763_1,hi763_1⟩:=at_T175 HR0.out x5_1 p763 q763;cases e763;replace hx763_0:=(HB.out.cell (World.block_lt_of_cell? w _ hx763_0)).trans hx763_0;replace hx763_1:=(HB.out.cell (World.block_lt_of_cell? w _ hx763_1)).trans hx763_1;have HR763_1:=Aside0.mk hi763_1;have HC763_1:=Aside0.mk hl763_1;clear hi763_1 hl763_1;replace p763:=eq_true p763;replace q763:=eq_true q763;go_wp2_with (first | ((with_reducible refine gate_callee (f:=143) rfl ?_);refine goesL_ (some 23) rfl rfl Try.func143 (by kernel_rfl) rfl #[.agg #[.bool ((rd_T175 l0 x5_1).f0),.slice A763_1 ((rd_T175 l0 x5_1).f1).length c763_1],.int .i64 x1_1] rfl (by (try simp only [List.map_toArray,List.map_cons,List.map_nil]);first | done | rfl | (simp only [List.length_drop,List.length_take];rfl)) ?_;(with_reducible refine (laws_szKnot.calls ((rd_T175 l0 x5_1).f0) _ _ ((rd_T175 l0 x5_1).f1) x1_1 t764 _ ?side1 ?side2 A6.out).mono ?_);(case side1=>repeat (first | exact (Kd.C_below HR763_1.out HB.out) | (with_reducible refine Kd.C_alloc ?_ _) | (with_reducible refine Kd.C_drewN ?_ _) | (with_reducible refine Kd.C_drew ?_)));(case side2=>exact HC763_1.out);rintro e w8 ⟨rfl,hb⟩;refine ⟨_,rfl,?_⟩;have n0_:=Aside0.mk (below_step (hs HB) hb);clear HB;have HB:=n0_;clear n0_;(try clear hb);(try clear hb2);(try clear hk);(try clear hi)))
      go_ret
      exact ⟨by first | rfl | (simp [errW_none,errW_some] <;> rfl) | (simp [*,errW_none,errW_some] <;> rfl),hs HB⟩
     rw [if_neg c7] at H;have c7b0 : decide (t764 < 0) = false:=decide_eq_false c7;clear c7;have H':=Aside0.mk H;clear H;have p763 : 0 ≤ (x5_1 : Int):=of_decide_eq_true (by first | (with_reducible assumption) | assumption);have q763 : x5_1 < (l0.length : Int):=of_decide_eq_true (by first | (with_reducible assumption) | assumption);obtain ⟨ad763,A763_1,c763_1,e763,hx763_0,hx763_1,hl763_1,hi763_1⟩:=at_T175 HR0.out x5_1 p763 q763;cases e763;replace hx763_0:=(HB.out.cell (World.block_lt_of_cell? w _ hx763_0)).trans hx763_0;replace hx763_1:=(HB.out.cell (World.block_lt_of_cell? w _ hx763_1)).trans hx763_1;have HR763_1:=Aside0.mk hi763_1;have HC763_1:=Aside0.mk hl763_1;clear hi763_1 hl763_1;replace p763:=eq_true p763;replace q763:=eq_true q763;go_wp2_with (first | ((with_reducible refine gate_callee (f:=143) rfl ?_);refine goesL_ (some 23) rfl rfl Try.func143 (by kernel_rfl) rfl #[.agg #[.bool ((rd_T175 l0 x5_1).f0),.slice A763_1 ((rd_T175 l0 x5_1).f1).length c763_1],.int .i64 x1_1] rfl (by (try simp only [List.map_toArray,List.map_cons,List.map_nil]);first | done | rfl | (simp only [List.length_drop,List.length_take];rfl)) ?_;(with_reducible refine (laws_szKnot.calls ((rd_T175 l0 x5_1).f0) _ _ ((rd_T175 l0 x5_1).f1) x1_1 t764 _ ?side1 ?side2 A6.out).mono ?_);(case side1=>repeat (first | exact (Kd.C_below HR763_1.out HB.out) | (with_reducible refine Kd.C_alloc ?_ _) | (with_reducible refine Kd.C_drewN ?_ _) | (with_reducible refine Kd.C_drew ?_)));(case side2=>exact HC763_1.out);rintro e w9 ⟨rfl,hb⟩;refine ⟨_,rfl,?_⟩;have n0_:=Aside0.mk (below_step (hs HB) hb);clear HB;have HB:=n0_;clear n0_;(try clear hb);(try clear hb2);(try clear hk);(try clear hi)));go_roundg k1;case measure=>have:=HK1.out;omega
     case rel=>exact ⟨(t764),(wrap64 (x5_1 + 1)),(by first | rfl | (simp;done) | (simp [*];done)),(by first | rfl | (simp;done) | (simp [*];done)),H',⟨by have:=HK1.out;omega⟩,⟨hs HB⟩⟩
    rw [if_neg c5] at H;exact absurd H (by simp)
   rw [if_neg c4] at H;have c4b0 : decide (x5_1 < (l0.length : Int)) = false:=decide_eq_false c4;clear c4;obtain rfl:=Option.some.inj H
   go_wp2
   go_ret
   exact ⟨by first | rfl | (simp [errW_none,errW_some] <;> rfl) | (simp [*,errW_none,errW_some] <;> rfl),hs HB⟩
end Go.Proofs.Ytdolplcbokioaaa.PB

namespace Go.Proofs.Ytdolplcbokioaaa.PB
open Go.RowKit Go.Proofs.YtdolplcbokioaaaW.PrintWords Go.Proofs.YtdolplcbokioaaaW.PrintLast Go.Proofs.YtdolplcbokioaaaW.PrintMore
attribute [local go_sem] max2_int min2_int max_two min_two max_three min_three max_four min_four   -- for this text's walks alone
set_option linter.unusedVariables false
set_option linter.unusedSimpArgs false
def laws_szArena.f (k : Nat) (l0_0 : List (S175)) (a1 : Int) : Option (Int):=(laws_szKnotS.f k l0_0 a1).bind fun t766=>(if t766 < 0 then (some (-1)) else (some t766))
theorem laws_szArena.mono : ∀ a0 a1 k,LeO (laws_szArena.f k a0 a1) (laws_szArena.f (k + 1) a0 a1):=by
 intro a0 a1 k;unfold laws_szArena.f
 repeat' first
   | (with_reducible exact laws_szKnotS.mono _ _ _)
   | (with_reducible exact LeO.refl _)
   | (with_reducible exact LeO.none _)
   | (with_reducible refine LeO.ite ?_ ?_)
   | (with_reducible refine LeO.bind ?_ (fun _=>?_))
   | exact laws_szKnotS.mono _ _ _
   | exact LeO.none _
   | refine LeO.ite ?_ ?_
   | refine LeO.bind ?_ (fun _=>?_)
set_option maxHeartbeats 8000000 in
set_option maxRecDepth 100000 in
theorem laws_szArena.calls (k : Nat) (A0_0 : Option Addr) (c0_0 : Nat) (l0_0 : List (S175)) (a1 : Int) (r : Int) (w : World) (hr0_0 : Kd.C k175 w A0_0 l0_0.length l0_0) (hc0_0 : l0_0.length ≤ c0_0) (h : laws_szArena.f k l0_0 a1 = some r) :
  Calls Try.prog 29 #[.agg #[.slice A0_0 l0_0.length c0_0],.int .i64 a1] w fun e w'=>e = .returned (.int .i64 r) ∧ Below w.heap.size w w':=by
 have hu53:=Try.underlying53;have HR0_0:=Aside0.mk hr0_0;have HC0_0:=Aside0.mk hc0_0;clear hr0_0 hc0_0;have HB:=Aside0.mk (Below.refl w.heap.size w);have H : ((laws_szKnotS.f k l0_0 a1).bind fun t766=>(if t766 < 0 then (some (-1)) else (some t766))) = some r:=h;clear h;replace H:=Option.bind_eq_some_iff.mp H;obtain ⟨t766,A30,H⟩:=H;replace H : (if t766 < 0 then (some (-1)) else (some t766)) = some r:=H;have A3:=Aside0.mk A30;clear A30
 by_cases c4 : t766 < 0
 ·rw [if_pos c4] at H;have c4b0 : decide (t766 < 0) = true:=decide_eq_true c4;clear c4;obtain rfl:=Option.some.inj H
  go_enter Try.func29,Try.ntmps29
  go_wp2_with (first | ((with_reducible refine gate_dst (N:=2) rfl ?_);refine box_event ?hg (N:=2) ?hd (cs:=#[.slice A0_0 l0_0.length c0_0]) (t:=53) ?hr ?_;(case hd=>rfl);(case hg=>rfl);(case hr=>first | (go_simp;done) | (go_simp;rfl));intro gb765 hg w5 hbox hb;have n0_:=Aside0.mk (below_step (hs HB) hb);have n1_:=Aside0.mk (hbox);have n2_:=Aside0.mk ((by rw [hg];exact (below_size (hs HB)) : w.heap.size ≤ gb765));have n3_:=Aside0.mk ((by rw [hg];exact (below_size (hs HB)) : w.heap.size ≤ gb765));clear HB;have HB:=n0_;have BK765:=n1_;have GW765:=n2_;have GE765:=n3_;clear n0_ n1_ n2_ n3_;clear hb hbox hg;have hcz6_0 : w5.cell? ⟨gb765,0,none⟩ = some (.slice A0_0 l0_0.length c0_0):=(blk_cell BK765.out 0).trans rfl;have hfz6_0:=blk_frozen BK765.out 0) | ((with_reducible refine gate_callee (f:=97) rfl ?_);refine goesL_ (some 8) rfl rfl Try.func97 (by kernel_rfl) rfl #[.slice A0_0 l0_0.length c0_0,.int .i64 a1] rfl (by (try simp only [List.map_toArray,List.map_cons,List.map_nil]);first | done | rfl | (simp only [List.length_drop,List.length_take];rfl)) ?_;(with_reducible refine (laws_szKnotS.calls k _ _ l0_0 a1 t766 _ ?side1 ?side2 A3.out).mono ?_);(case side1=>repeat (first | exact (Kd.C_below HR0_0.out HB.out) | (with_reducible refine Kd.C_alloc ?_ _) | (with_reducible refine Kd.C_drewN ?_ _) | (with_reducible refine Kd.C_drew ?_)));(case side2=>exact HC0_0.out);rintro e w7 ⟨rfl,hb⟩;refine ⟨_,rfl,?_⟩;have n0_:=Aside0.mk (blk_below (g:=gb765) (o:=.cells #[.slice A0_0 l0_0.length c0_0] 53 (0,0)) (bs BK765) hb);have n1_:=Aside0.mk (below_step (hs1 HB GE765) hb);clear BK765;clear HB;have BK765:=n0_;have HB:=n1_;clear n0_ n1_;(try clear hb);(try clear hb2);(try clear hk);(try clear hi)))
  go_ret
  exact ⟨by first | rfl | (simp [errW_none,errW_some] <;> rfl) | (simp [*,errW_none,errW_some] <;> rfl),hs1 HB GE765⟩
 rw [if_neg c4] at H;have c4b0 : decide (t766 < 0) = false:=decide_eq_false c4;clear c4;obtain rfl:=Option.some.inj H
 go_enter Try.func29,Try.ntmps29
 go_wp2_with (first | ((with_reducible refine gate_dst (N:=2) rfl ?_);refine box_event ?hg (N:=2) ?hd (cs:=#[.slice A0_0 l0_0.length c0_0]) (t:=53) ?hr ?_;(case hd=>rfl);(case hg=>rfl);(case hr=>first | (go_simp;done) | (go_simp;rfl));intro gb765 hg w8 hbox hb;have n0_:=Aside0.mk (below_step (hs HB) hb);have n1_:=Aside0.mk (hbox);have n2_:=Aside0.mk ((by rw [hg];exact (below_size (hs HB)) : w.heap.size ≤ gb765));have n3_:=Aside0.mk ((by rw [hg];exact (below_size (hs HB)) : w.heap.size ≤ gb765));clear HB;have HB:=n0_;have BK765:=n1_;have GW765:=n2_;have GE765:=n3_;clear n0_ n1_ n2_ n3_;clear hb hbox hg;have hcz9_0 : w8.cell? ⟨gb765,0,none⟩ = some (.slice A0_0 l0_0.length c0_0):=(blk_cell BK765.out 0).trans rfl;have hfz9_0:=blk_frozen BK765.out 0) | ((with_reducible refine gate_callee (f:=97) rfl ?_);refine goesL_ (some 8) rfl rfl Try.func97 (by kernel_rfl) rfl #[.slice A0_0 l0_0.length c0_0,.int .i64 a1] rfl (by (try simp only [List.map_toArray,List.map_cons,List.map_nil]);first | done | rfl | (simp only [List.length_drop,List.length_take];rfl)) ?_;(with_reducible refine (laws_szKnotS.calls k _ _ l0_0 a1 t766 _ ?side1 ?side2 A3.out).mono ?_);(case side1=>repeat (first | exact (Kd.C_below HR0_0.out HB.out) | (with_reducible refine Kd.C_alloc ?_ _) | (with_reducible refine Kd.C_drewN ?_ _) | (with_reducible refine Kd.C_drew ?_)));(case side2=>exact HC0_0.out);rintro e w10 ⟨rfl,hb⟩;refine ⟨_,rfl,?_⟩;have n0_:=Aside0.mk (blk_below (g:=gb765) (o:=.cells #[.slice A0_0 l0_0.length c0_0] 53 (0,0)) (bs BK765) hb);have n1_:=Aside0.mk (below_step (hs1 HB GE765) hb);clear BK765;clear HB;have BK765:=n0_;have HB:=n1_;clear n0_ n1_;(try clear hb);(try clear hb2);(try clear hk);(try clear hi)))
 go_ret
 exact ⟨by first | rfl | (simp [errW_none,errW_some] <;> rfl) | (simp [*,errW_none,errW_some] <;> rfl),hs1 HB GE765⟩
end Go.Proofs.Ytdolplcbokioaaa.PB

namespace Go.Proofs.Ytdolplcbokioaaa.PB
open Go.RowKit Go.Proofs.YtdolplcbokioaaaW.PrintWords Go.Proofs.YtdolplcbokioaaaW.PrintLast Go.Proofs.YtdolplcbokioaaaW.PrintMore
attribute [local go_sem] max2_int min2_int max_two min_two max_three min_three max_four min_four   -- for this text's walks alone
set_option linter.unusedVariables false
set_option linter.unusedSimpArgs false
def laws_toIntS.l0 : Nat → List Int → List Int → Int → Option (List Int)
 | 0,_,_,_=>none
 | k + 1,x0,x3,x4=>if x4 < (x0.length : Int) then (if 0 ≤ x4 then (if x4 < (x3.length : Int) then (laws_toIntS.l0 k x0 (x3.set (x4 : Int).toNat (rd x0 x4)) (wrap64 (x4 + 1))) else (none)) else (none)) else (some x3)
def laws_toIntS.f (k : Nat) (l0 : List Int) : Option (List Int):=if 0 ≤ (l0.length : Int) then (if ((l0.length : Int) : Int).toNat ≤ 35184372088832 then (laws_toIntS.l0 k l0 (List.replicate ((l0.length : Int) : Int).toNat 0) 0) else (none)) else (none)
theorem laws_toIntS.mono_l : ∀ k,(∀ y0 y1 y2,LeO (laws_toIntS.l0 k y0 y1 y2) (laws_toIntS.l0 (k + 1) y0 y1 y2))
 | 0=>fun _ _ _ r h=>by simp [laws_toIntS.l0] at h
 | k + 1=>by
  have ih0:=laws_toIntS.mono_l k;intro y0 y1 y2;unfold laws_toIntS.l0
  repeat' first
  | (with_reducible exact ih0 _ _ _)
  | (with_reducible exact LeO.refl _)
  | (with_reducible exact LeO.none _)
  | (with_reducible refine LeO.ite ?_ ?_)
  | (with_reducible refine LeO.bind ?_ (fun _=>?_))
  | exact ih0 _ _ _
  | exact LeO.none _
  | refine LeO.ite ?_ ?_
  | refine LeO.bind ?_ (fun _=>?_)
theorem laws_toIntS.mono : ∀ a0 k,LeO (laws_toIntS.f k a0) (laws_toIntS.f (k + 1) a0):=by
 intro a0 k;have ih0:=laws_toIntS.mono_l k;unfold laws_toIntS.f
 repeat' first
   | (with_reducible exact ih0 _ _ _)
   | (with_reducible exact LeO.refl _)
   | (with_reducible exact LeO.none _)
   | (with_reducible refine LeO.ite ?_ ?_)
   | (with_reducible refine LeO.bind ?_ (fun _=>?_))
   | exact ih0 _ _ _
   | exact LeO.none _
   | refine LeO.ite ?_ ?_
   | refine LeO.bind ?_ (fun _=>?_)
set_option maxHeartbeats 8000000 in
set_option maxRecDepth 100000 in
theorem laws_toIntS.calls (k : Nat) (A0 : Option Addr) (c0 : Nat) (l0 : List Int) (r : List Int) (w : World) (hr0 : Kd.C (Kd.int .i64) w A0 l0.length l0) (hc0 : l0.length ≤ c0) (h : laws_toIntS.f k l0 = some r) :
  Calls Try.prog 73 #[.slice A0 l0.length c0] w fun e w'=>∃ v0_ : Value,e = .returned (v0_) ∧ Kd.R (Kd.int .i64) 3 w' w.heap.size (fun _=>True) v0_ r ∧ Below w.heap.size w w':=by
 have HR0:=Aside0.mk hr0;have HC0:=Aside0.mk hc0;clear hr0 hc0;have HB:=Aside0.mk (Below.refl w.heap.size w);have H : (if 0 ≤ (l0.length : Int) then (if ((l0.length : Int) : Int).toNat ≤ 35184372088832 then (laws_toIntS.l0 k l0 (List.replicate ((l0.length : Int) : Int).toNat 0) 0) else (none)) else (none)) = some r:=h;clear h
 by_cases c2 : 0 ≤ (l0.length : Int)
 ·rw [if_pos c2] at H;have c2b0:=eq_true c2;have c2b1 : decide (0 ≤ (l0.length : Int)) = true:=decide_eq_true c2;clear c2
  by_cases c3 : ((l0.length : Int) : Int).toNat ≤ 35184372088832
  ·rw [if_pos c3] at H;have c3b0:=eq_true c3;have c3b1 : decide (((l0.length : Int) : Int).toNat ≤ 35184372088832) = true:=decide_eq_true c3;clear c3;obtain ⟨y767,hy767⟩ : ∃ y_ : List Int,y_ = (List.replicate ((l0.length : Int) : Int).toNat 0):=⟨_,rfl⟩;replace H : (laws_toIntS.l0 k l0 y767 0) = some r:=by first | (rw [hy767];with_reducible exact H) | (have H2_:=(Option.bind_some _ _).symm.trans H;rw [hy767];with_reducible exact H2_) | (have H2_:=(Option.bind_some _ _).symm.trans H;with_reducible exact H2_) | with_reducible exact H | (rw [hy767];exact H) | exact H
   have Ny767:=Aside0.mk hy767;clear hy767;have H':=Aside0.mk H;clear H
   go_enter Try.func73,Try.ntmps73
   go_wp2_with (first | ((with_reducible refine gate_dst (N:=7) rfl ?_);refine Kd.R_make (Kd.int .i64) _ 3 rfl (N:=7) rfl 26 _ _ rfl (l0.length : Int) rfl rfl Try.underlying26 (.int .i64 0) 8 info3 rfl (by decide) (by omega) 0 (ok:=fun _=>True) (okp:=fun _=>True) rfl (fun _ hk=>hk) trivial (of_decide_eq_true (by first | (with_reducible assumption) | assumption)) (Nat.le_trans (Nat.mul_le_mul_right _ (of_decide_eq_true (by first | (with_reducible assumption) | assumption) : (l0.length : Int).toNat ≤ 35184372088832)) (by omega)) (Below.refl _ _) (Nat.le_refl _) ?_;intro v768 w4 ho5 hb hg_ hnew_;clear hg_ hnew_;(first | rw [← Ny767.out] at ho5 | (simp only [Int.reduceToNat] at ho5;rw [← Ny767.out] at ho5));have n0_:=Aside0.mk (Kd.R_lower ho5 (below_size (hs HB)));have n1_:=Aside0.mk (below_step (hs HB) hb);clear HB;have HO769:=n0_;have HB:=n1_;clear n0_ n1_;clear hb ho5));go_loopg [4] k (fun kq v4 w'=>∃ (x3_1 : List Int) (x4_1 : Int),v4 = .int .i64 x4_1 ∧ Aside0 (laws_toIntS.l0 kq l0 x3_1 x4_1 = some r) ∧ Aside0 (kq ≤ k) ∧ Aside0 (Kd.R (Kd.int .i64) 3 w' w.heap.size (fun _=>True) v768 x3_1) ∧ Aside0 (Below w.heap.size w w'));case atStart=>exact ⟨(y767),(0),(by first | rfl | (simp;done) | (simp [*];done)),H',⟨Nat.le_refl _⟩,⟨rs HO769⟩,⟨hs HB⟩⟩
   case round =>
    clear H'
    try clear c2
    try clear c2b0
    try clear c2b1
    try clear p2
    try clear c3
    try clear c3b0
    try clear c3b1
    obtain ⟨x3_1,x4_1,rfl,HA,HK1,HO_3,HB⟩:=hrel;cases gk with
    | zero=>exact absurd HA.out (by simp [laws_toIntS.l0])
    | succ k1 =>
     have H:=HA.out;clear HA;simp only [laws_toIntS.l0] at H
     by_cases c6 : x4_1 < (l0.length : Int)
     ·rw [if_pos c6] at H;have c6b0 : decide (x4_1 < (l0.length : Int)) = true:=decide_eq_true c6;clear c6
      by_cases c7 : 0 ≤ x4_1
      ·rw [if_pos c7] at H;have c7b0 : decide (0 ≤ x4_1) = true:=decide_eq_true c7;clear c7
       by_cases c8 : x4_1 < (x3_1.length : Int)
       ·rw [if_pos c8] at H;have c8b0 : decide (x4_1 < (x3_1.length : Int)) = true:=decide_eq_true c8;clear c8;obtain ⟨y771,hy771⟩ : ∃ y_ : List Int,y_ = (x3_1.set (x4_1 : Int).toNat (rd l0 x4_1)):=⟨_,rfl⟩;replace H : (laws_toIntS.l0 k1 l0 y771 (wrap64 (x4_1 + 1))) = some r:=by first | (rw [hy771];with_reducible exact H) | (have H2_:=(Option.bind_some _ _).symm.trans H;rw [hy771];with_reducible exact H2_) | (have H2_:=(Option.bind_some _ _).symm.trans H;with_reducible exact H2_) | with_reducible exact H | (rw [hy771];exact H) | exact H
        have Ny771:=Aside0.mk hy771;clear hy771;have H':=Aside0.mk H;clear H;have p770 : 0 ≤ (x4_1 : Int):=of_decide_eq_true (by first | (with_reducible assumption) | assumption);have q770 : x4_1 < (l0.length : Int):=of_decide_eq_true (by first | (with_reducible assumption) | assumption);obtain ⟨ad770,e770,hx770_0⟩:=Kd.at_int HR0.out x4_1 p770 q770;cases e770;replace hx770_0:=(HB.out.cell (World.block_lt_of_cell? w _ hx770_0)).trans hx770_0;replace p770:=eq_true p770;replace q770:=eq_true q770;have p9 : 0 ≤ (x4_1 : Int):=of_decide_eq_true (by first | (with_reducible assumption) | assumption);have q9 : (x4_1 : Int) < ((x3_1.length : Int) : Int):=of_decide_eq_true (by first | (with_reducible assumption) | assumption);obtain ⟨go9,co9,eo9,gb9,gl9,cl9,HG9⟩:=Kd.R_form HO_3.out (by omega)
        (first | cases eo9 | (injection eo9 with ea_ en_ ec_;(first | subst ea_ | (injection ea_ with ea_;subst ea_));subst ec_;clear en_))
        have GB9:=Aside0.mk gb9;have GG9:=Aside0.mk HG9;clear gb9 gl9 HG9;obtain ⟨hx9_0,hf9_0⟩:=Kd.R_celln 0 HO_3.out (x4_1 : Int) p9 q9;replace p9:=eq_true p9;replace q9:=eq_true q9;have HP10:=Kd.R_putg HO_3.out (x4_1 : Int) (rd l0 x4_1);go_wp2_with (first | ((with_reducible refine gate_store (t:=3) (p:=20) rfl ?_);refine store_event (t:=3) (p:=20) (v:=?vo_w11) (w1:=(wr.setCell ⟨go9,(x4_1 : Int).toNat,none⟩ (.int .i64 (rd l0 x4_1)))) ?hg ?ho ?hn ?hr ?_;(case ho=>rfl);(case hg=>rfl);(case hn=>rfl);(case hr=>first | (go_simp;done) | (go_simp;rfl));intro w11 hw;have hg : wr.grownBy w11 (some go9):=(by rw [hw];exact HP10.2);have hp_ : Kd.R (Kd.int .i64) 3 w11 w.heap.size (fun _=>True) (.slice (some ⟨go9,0,none⟩) x3_1.length co9) y771:=(by rw [hw,Ny771.out];exact HP10.1);clear HP10;have n0_:=Aside0.mk (hp_);have n1_:=Aside0.mk ((by rw [hw];exact below_set (HB.out) GB9.out : Below w.heap.size w w11));clear HO_3;clear HB;have HO_3:=n0_;have HB:=n1_;clear n0_ n1_;clear hg hw hp_));go_roundg k1;case measure=>have:=HK1.out;omega
        case rel=>exact ⟨(y771),(wrap64 (x4_1 + 1)),(by first | rfl | (simp;done) | (simp [*];done)),H',⟨by have:=HK1.out;omega⟩,⟨rs HO_3⟩,⟨hs HB⟩⟩
       rw [if_neg c8] at H;exact absurd H (by simp)
      rw [if_neg c7] at H;exact absurd H (by simp)
     rw [if_neg c6] at H;have c6b0 : decide (x4_1 < (l0.length : Int)) = false:=decide_eq_false c6;clear c6;obtain rfl:=Option.some.inj H
     go_wp2
     go_ret
     exact ⟨_,by first | rfl | (simp [errW_none,errW_some] <;> rfl) | (simp [*,errW_none,errW_some] <;> rfl),rs HO_3,hs HB⟩
  rw [if_neg c3] at H;exact absurd H (by simp)
 rw [if_neg c2] at H;exact absurd H (by simp)
end Go.Proofs.Ytdolplcbokioaaa.PB

namespace Go.Proofs.Ytdolplcbokioaaa.PB
open Go.RowKit Go.Proofs.YtdolplcbokioaaaW.PrintWords Go.Proofs.YtdolplcbokioaaaW.PrintLast Go.Proofs.YtdolplcbokioaaaW.PrintMore
attribute [local go_sem] max2_int min2_int max_two min_two max_three min_three max_four min_four   -- for this text's walks alone
set_option linter.unusedVariables false
set_option linter.unusedSimpArgs false
def laws_toKnot.f (k : Nat) (a0_0 : Bool) (l0_1 : List Int) : Option (Bool × List Int):=(laws_toIntS.f k l0_1).bind fun t775=>(some (a0_0,t775))
theorem laws_toKnot.mono : ∀ a0 a1 k,LeO (laws_toKnot.f k a0 a1) (laws_toKnot.f (k + 1) a0 a1):=by
 intro a0 a1 k;unfold laws_toKnot.f
 repeat' first
   | (with_reducible exact laws_toIntS.mono _ _)
   | (with_reducible exact LeO.refl _)
   | (with_reducible exact LeO.none _)
   | (with_reducible refine LeO.ite ?_ ?_)
   | (with_reducible refine LeO.bind ?_ (fun _=>?_))
   | exact laws_toIntS.mono _ _
   | exact LeO.none _
   | refine LeO.ite ?_ ?_
   | refine LeO.bind ?_ (fun _=>?_)
set_option maxHeartbeats 8000000 in
set_option maxRecDepth 100000 in
theorem laws_toKnot.calls (k : Nat) (a0_0 : Bool) (A0_1 : Option Addr) (c0_1 : Nat) (l0_1 : List Int) (r1 : Bool) (r2 : List Int) (w : World) (hr0_1 : Kd.C (Kd.int .i64) w A0_1 l0_1.length l0_1) (hc0_1 : l0_1.length ≤ c0_1) (h : laws_toKnot.f k a0_0 l0_1 = some (r1,r2)) :
  Calls Try.prog 144 #[.agg #[.bool a0_0,.slice A0_1 l0_1.length c0_1]] w fun e w'=>∃ v1_ : Value,e = .returned (.agg #[.bool r1,v1_]) ∧ Kd.R (Kd.int .i64) 3 w' w.heap.size (fun _=>True) v1_ r2 ∧ Below w.heap.size w w':=by
 have hu175:=Try.underlying175;have hu133:=Try.underlying133;have HR0_1:=Aside0.mk hr0_1;have HC0_1:=Aside0.mk hc0_1;clear hr0_1 hc0_1;have HB:=Aside0.mk (Below.refl w.heap.size w);have H : ((laws_toIntS.f k l0_1).bind fun t775=>(some (a0_0,t775))) = some (r1,r2):=h;clear h;replace H:=Option.bind_eq_some_iff.mp H;obtain ⟨t775,A20,H⟩:=H;replace H : (some (a0_0,t775)) = some (r1,r2):=H;have A2:=Aside0.mk A20;clear A20;simp only [Option.some.injEq,Prod.mk.injEq] at H;obtain ⟨rfl,rfl⟩:=H
 go_enter Try.func144,Try.ntmps144
 go_wp2_with (first | ((with_reducible refine gate_dst (N:=1) rfl ?_);refine box_event ?hg (N:=1) ?hd (cs:=#[.bool a0_0,.slice A0_1 l0_1.length c0_1]) (t:=175) ?hr ?_;(case hd=>rfl);(case hg=>rfl);(case hr=>first | (go_simp;done) | (go_simp;rfl));intro gb772 hg w3 hbox hb;have n0_:=Aside0.mk (below_step (hs HB) hb);have n1_:=Aside0.mk (hbox);have n2_:=Aside0.mk ((by rw [hg];exact (below_size (hs HB)) : w.heap.size ≤ gb772));have n3_:=Aside0.mk ((by rw [hg];exact (below_size (hs HB)) : w.heap.size ≤ gb772));clear HB;have HB:=n0_;have BK772:=n1_;have GW772:=n2_;have GE772:=n3_;clear n0_ n1_ n2_ n3_;clear hb hbox hg) | ((with_reducible refine gate_dst (N:=2) rfl ?_);refine box_event ?hg (N:=2) ?hd (cs:=#[.bool false,.slice none 0 0]) (t:=133) ?hr ?_;(case hd=>rfl);(case hg=>rfl);(case hr=>first | (go_simp;done) | (go_simp;rfl));intro gb773 hg w4 hbox hb;have n0_:=Aside0.mk (blk_below (g:=gb772) (o:=.cells #[.bool a0_0,.slice A0_1 l0_1.length c0_1] 175 (0,0)) (bs BK772) hb);have n1_:=Aside0.mk (below_step (hs1 HB GE772) hb);have n2_:=Aside0.mk (hbox);have n3_:=Aside0.mk ((by rw [hg];exact (below_size (hs1 HB GE772)) : w.heap.size ≤ gb773));have n4_:=Aside0.mk ((by rw [hg];exact (below_size (hs1 HB GE772)) : w.heap.size ≤ gb773));have n5_:=Aside0.mk ((by rw [hg];exact Nat.ne_of_lt (blk_lt (g:=gb772) (o:=.cells #[.bool a0_0,.slice A0_1 l0_1.length c0_1] 175 (0,0)) (bs BK772)) : gb772 ≠ gb773));have n6_:=Aside0.mk ((by rw [hg];exact Nat.ne_of_gt (blk_lt (g:=gb772) (o:=.cells #[.bool a0_0,.slice A0_1 l0_1.length c0_1] 175 (0,0)) (bs BK772)) : gb773 ≠ gb772));clear BK772;clear HB;have BK772:=n0_;have HB:=n1_;have BK773:=n2_;have GW773:=n3_;have GE773:=n4_;have NB772_773:=n5_;have NB773_772:=n6_;clear n0_ n1_ n2_ n3_ n4_ n5_ n6_;clear hb hbox hg) | ((with_reducible refine gate_dst (N:=3) rfl ?_);refine box_event ?hg (N:=3) ?hd (cs:=#[.bool false,.slice none 0 0]) (t:=133) ?hr ?_;(case hd=>rfl);(case hg=>rfl);(case hr=>first | (go_simp;done) | (go_simp;rfl));intro gb774 hg w5 hbox hb;have n0_:=Aside0.mk (blk_below (g:=gb772) (o:=.cells #[.bool a0_0,.slice A0_1 l0_1.length c0_1] 175 (0,0)) (bs BK772) hb);have n1_:=Aside0.mk (blk_below (g:=gb773) (o:=.cells #[.bool false,.slice none 0 0] 133 (0,0)) (bs BK773) hb);have n2_:=Aside0.mk (below_step (hs2 HB GE772 GE773) hb);have n3_:=Aside0.mk (hbox);have n4_:=Aside0.mk ((by rw [hg];exact (below_size (hs2 HB GE772 GE773)) : w.heap.size ≤ gb774));have n5_:=Aside0.mk ((by rw [hg];exact (below_size (hs2 HB GE772 GE773)) : w.heap.size ≤ gb774));have n6_:=Aside0.mk ((by rw [hg];exact Nat.ne_of_lt (blk_lt (g:=gb772) (o:=.cells #[.bool a0_0,.slice A0_1 l0_1.length c0_1] 175 (0,0)) (bs BK772)) : gb772 ≠ gb774));have n7_:=Aside0.mk ((by rw [hg];exact Nat.ne_of_gt (blk_lt (g:=gb772) (o:=.cells #[.bool a0_0,.slice A0_1 l0_1.length c0_1] 175 (0,0)) (bs BK772)) : gb774 ≠ gb772));have n8_:=Aside0.mk ((by rw [hg];exact Nat.ne_of_lt (blk_lt (g:=gb773) (o:=.cells #[.bool false,.slice none 0 0] 133 (0,0)) (bs BK773)) : gb773 ≠ gb774));have n9_:=Aside0.mk ((by rw [hg];exact Nat.ne_of_gt (blk_lt (g:=gb773) (o:=.cells #[.bool false,.slice none 0 0] 133 (0,0)) (bs BK773)) : gb774 ≠ gb773));clear BK772;clear BK773;clear HB;have BK772:=n0_;have BK773:=n1_;have HB:=n2_;have BK774:=n3_;have GW774:=n4_;have GE774:=n5_;have NB772_774:=n6_;have NB774_772:=n7_;have NB773_774:=n8_;have NB774_773:=n9_;clear n0_ n1_ n2_ n3_ n4_ n5_ n6_ n7_ n8_ n9_;clear hb hbox hg;have hnb6:=NB772_773.out;have hnc6:=NB773_772.out;have hnb7:=NB772_774.out;have hnc7:=NB774_772.out;have hcz8_0 : w5.cell? ⟨gb772,0,none⟩ = some (.bool a0_0):=(blk_cell BK772.out 0).trans rfl;have hcz8_1 : w5.cell? ⟨gb772,1,none⟩ = some (.slice A0_1 l0_1.length c0_1):=(blk_cell BK772.out 1).trans rfl;have hfz8_0:=blk_frozen BK772.out 0;have hfz8_1:=blk_frozen BK772.out 1;have hnb9:=NB774_773.out;have hnc9:=NB773_774.out;have hcz10_0 : w5.cell? ⟨gb774,0,none⟩ = some (.bool false):=(blk_cell BK774.out 0).trans rfl;have hcz10_1 : w5.cell? ⟨gb774,1,none⟩ = some (.slice none 0 0):=(blk_cell BK774.out 1).trans rfl;have hfz10_0:=blk_frozen BK774.out 0;have hfz10_1:=blk_frozen BK774.out 1) | ((with_reducible refine gate_callee (f:=73) rfl ?_);refine goesL_ (some 9) rfl rfl Try.func73 (by kernel_rfl) rfl #[.slice A0_1 l0_1.length c0_1] rfl (by (try simp only [List.map_toArray,List.map_cons,List.map_nil]);first | done | rfl | (simp only [List.length_drop,List.length_take];rfl)) ?_;(with_reducible refine (laws_toIntS.calls k _ _ l0_1 t775 _ ?side1 ?side2 A2.out).mono ?_);(case side1=>exact Kd.C_below HR0_1.out (hs3 HB GE772 GE773 GE774));(case side2=>exact HC0_1.out);rintro e w11 ⟨v776,rfl,ho0,hb⟩;refine ⟨_,rfl,?_⟩;have n0_:=Aside0.mk (Kd.R_lower ho0 (below_size (hs3 HB GE772 GE773 GE774)));have n1_:=Aside0.mk (blk_below (g:=gb772) (o:=.cells #[.bool a0_0,.slice A0_1 l0_1.length c0_1] 175 (0,0)) (by (with_reducible repeat (first | refine blk_drewN ?_ _ | refine blk_drew ?_ | refine blk_alloc ?_ _));refine blk_far ?_ NB772_774.out _;(with_reducible repeat (first | refine blk_drewN ?_ _ | refine blk_drew ?_ | refine blk_alloc ?_ _));exact BK772.out) hb);have n2_:=Aside0.mk (blk_below (g:=gb773) (o:=.cells #[.bool false,.slice none 0 0] 133 (0,0)) (by (with_reducible repeat (first | refine blk_drewN ?_ _ | refine blk_drew ?_ | refine blk_alloc ?_ _));refine blk_far ?_ NB773_774.out _;(with_reducible repeat (first | refine blk_drewN ?_ _ | refine blk_drew ?_ | refine blk_alloc ?_ _));exact BK773.out) hb);have n3_:=Aside0.mk (blk_below (g:=gb774) (o:=.cells #[.bool a0_0,.slice none 0 0] 133 (0,0)) (by (with_reducible repeat (first | refine blk_drewN ?_ _ | refine blk_drew ?_ | refine blk_alloc ?_ _));refine blk_put (cs:=#[.bool false,.slice none 0 0]) ?_ 0 _ rfl;(with_reducible repeat (first | refine blk_drewN ?_ _ | refine blk_drew ?_ | refine blk_alloc ?_ _));exact BK774.out) hb);have n4_:=Aside0.mk (below_step (hs3 HB GE772 GE773 GE774) hb);clear BK772;clear BK773;clear BK774;clear HB;have HO777:=n0_;have BK772:=n1_;have BK773:=n2_;have BK774:=n3_;have HB:=n4_;clear n0_ n1_ n2_ n3_ n4_;(try clear hb);(try clear hb2);(try clear hk);(try clear hi);(try clear ho0);obtain ⟨Ao12,co12,eo12⟩:=Kd.R_slice HO777.out;subst eo12;have hcz13_0 : w11.cell? ⟨gb774,0,none⟩ = some (.bool a0_0):=(blk_cell BK774.out 0).trans rfl;have hcz13_1 : w11.cell? ⟨gb774,1,none⟩ = some (.slice none 0 0):=(blk_cell BK774.out 1).trans rfl;have hfz13_0:=blk_frozen BK774.out 0;have hfz13_1:=blk_frozen BK774.out 1;have hcz14_0 : w11.cell? ⟨gb773,0,none⟩ = some (.bool false):=(blk_cell BK773.out 0).trans rfl;have hcz14_1 : w11.cell? ⟨gb773,1,none⟩ = some (.slice none 0 0):=(blk_cell BK773.out 1).trans rfl;have hfz14_0:=blk_frozen BK773.out 0;have hfz14_1:=blk_frozen BK773.out 1));refine bodyPost_ret (results_cell_row rfl _ _ gb773 133 #[.bool a0_0,.slice Ao12 t775.length co12] (0,0) _ rfl (by (with_reducible repeat (first | refine blk_drewN ?_ _ | refine blk_drew ?_ | refine blk_alloc ?_ _));refine blk_put (cs:=#[.bool a0_0,.slice none 0 0]) ?_ 1 _ rfl;(with_reducible repeat (first | refine blk_drewN ?_ _ | refine blk_drew ?_ | refine blk_alloc ?_ _));refine blk_put (cs:=#[.bool false,.slice none 0 0]) ?_ 0 _ rfl;(with_reducible repeat (first | refine blk_drewN ?_ _ | refine blk_drew ?_ | refine blk_alloc ?_ _));refine blk_far ?_ NB773_774.out _;(with_reducible repeat (first | refine blk_drewN ?_ _ | refine blk_drew ?_ | refine blk_alloc ?_ _));exact BK773.out) Try.underlying133 rfl (by kernel_rfl)) rfl ?_;exact ⟨_,by first | rfl | (simp [errW_none,errW_some] <;> rfl) | (simp [*,errW_none,errW_some] <;> rfl),by (with_reducible repeat (first | apply Kd.R_alloc | apply Kd.R_drewN | apply Kd.R_drew));exact Kd.R_mono (Kd.R_far (p:=⟨gb773,1,none⟩) (Kd.R_far (p:=⟨gb773,0,none⟩) (Kd.R_far (p:=⟨gb774,1,none⟩) (Kd.R_types (Kd.R_types HO777.out BK774.out (by decide)) BK773.out (by decide)) (fun _ hk=>hk.1.2) (.slice Ao12 t775.length co12)) (fun _ hk=>hk.2) (.bool a0_0)) (fun _ hk=>hk.2) (.slice Ao12 t775.length co12)) (fun _ hk=>trivial),hs3 HB GE772 GE773 GE774⟩
end Go.Proofs.Ytdolplcbokioaaa.PB

namespace Go.Proofs.Ytdolplcbokioaaa.PB
open Go.RowKit Go.Proofs.YtdolplcbokioaaaW.PrintWords Go.Proofs.YtdolplcbokioaaaW.PrintLast Go.Proofs.YtdolplcbokioaaaW.PrintMore
attribute [local go_sem] max2_int min2_int max_two min_two max_three min_three max_four min_four   -- for this text's walks alone
set_option linter.unusedVariables false
set_option linter.unusedSimpArgs false
def laws_toKnotS.l0 : Nat → List (S175) → List (S133) → Int → Option ((List (S133)))
 | 0,_,_,_=>none
 | k + 1,x0,x3,x4=>if x4 < (x0.length : Int) then (if 0 ≤ x4 then ((laws_toKnot.f k ((rd_T175 x0 x4).f0) ((rd_T175 x0 x4).f1)).bind fun bt782=>(if x4 < (x3.length : Int) then (laws_toKnotS.l0 k x0 (x3.set (x4 : Int).toNat (⟨bt782.1,bt782.2⟩ : S133)) (wrap64 (x4 + 1))) else (none))) else (none)) else (some x3)
def laws_toKnotS.f (k : Nat) (l0 : List (S175)) : Option ((List (S133))):=if 0 ≤ (l0.length : Int) then (if ((l0.length : Int) : Int).toNat ≤ 8796093022208 then (laws_toKnotS.l0 k l0 (List.replicate ((l0.length : Int) : Int).toNat z133) 0) else (none)) else (none)
theorem laws_toKnotS.mono_l : ∀ k,(∀ y0 y1 y2,LeO (laws_toKnotS.l0 k y0 y1 y2) (laws_toKnotS.l0 (k + 1) y0 y1 y2))
 | 0=>fun _ _ _ r h=>by simp [laws_toKnotS.l0] at h
 | k + 1=>by
  have ih0:=laws_toKnotS.mono_l k;intro y0 y1 y2;unfold laws_toKnotS.l0
  repeat' first
  | (with_reducible exact ih0 _ _ _)
  | (with_reducible exact laws_toKnot.mono _ _ _)
  | (with_reducible exact LeO.refl _)
  | (with_reducible exact LeO.none _)
  | (with_reducible refine LeO.ite ?_ ?_)
  | (with_reducible refine LeO.bind ?_ (fun _=>?_))
  | exact ih0 _ _ _
  | exact laws_toKnot.mono _ _ _
  | exact LeO.none _
  | refine LeO.ite ?_ ?_
  | refine LeO.bind ?_ (fun _=>?_)
theorem laws_toKnotS.mono : ∀ a0 k,LeO (laws_toKnotS.f k a0) (laws_toKnotS.f (k + 1) a0):=by
 intro a0 k;have ih0:=laws_toKnotS.mono_l k;unfold laws_toKnotS.f
 repeat' first
   | (with_reducible exact ih0 _ _ _)
   | (with_reducible exact laws_toKnot.mono _ _ _)
   | (with_reducible exact LeO.refl _)
   | (with_reducible exact LeO.none _)
   | (with_reducible refine LeO.ite ?_ ?_)
   | (with_reducible refine LeO.bind ?_ (fun _=>?_))
   | exact ih0 _ _ _
   | exact laws_toKnot.mono _ _ _
   | exact LeO.none _
   | refine LeO.ite ?_ ?_
   | refine LeO.bind ?_ (fun _=>?_)
set_option maxHeartbeats 8000000 in
set_option maxRecDepth 100000 in
theorem laws_toKnotS.calls (k : Nat) (A0 : Option Addr) (c0 : Nat) (l0 : List (S175)) (r : List (S133)) (w : World) (hr0 : Kd.C k175 w A0 l0.length l0) (hc0 : l0.length ≤ c0) (h : laws_toKnotS.f k l0 = some r) :
  Calls Try.prog 101 #[.slice A0 l0.length c0] w fun e w'=>∃ v0_ : Value,e = .returned (v0_) ∧ Kd.S k133 133 w' w.heap.size (fun _=>True) v0_ r ∧ Below w.heap.size w w':=by
 have hu175:=Try.underlying175;have hu133:=Try.underlying133;have HR0:=Aside0.mk hr0;have HC0:=Aside0.mk hc0;clear hr0 hc0;have HB:=Aside0.mk (Below.refl w.heap.size w);have H : (if 0 ≤ (l0.length : Int) then (if ((l0.length : Int) : Int).toNat ≤ 8796093022208 then (laws_toKnotS.l0 k l0 (List.replicate ((l0.length : Int) : Int).toNat z133) 0) else (none)) else (none)) = some r:=h;clear h
 by_cases c2 : 0 ≤ (l0.length : Int)
 ·rw [if_pos c2] at H;have c2b0:=eq_true c2;have c2b1 : decide (0 ≤ (l0.length : Int)) = true:=decide_eq_true c2;clear c2
  by_cases c3 : ((l0.length : Int) : Int).toNat ≤ 8796093022208
  ·rw [if_pos c3] at H;have c3b0:=eq_true c3;have c3b1 : decide (((l0.length : Int) : Int).toNat ≤ 8796093022208) = true:=decide_eq_true c3;clear c3;obtain ⟨y778,hy778⟩ : ∃ y_ : List (S133),y_ = (List.replicate ((l0.length : Int) : Int).toNat z133):=⟨_,rfl⟩;replace H : (laws_toKnotS.l0 k l0 y778 0) = some r:=by first | (rw [hy778];with_reducible exact H) | (have H2_:=(Option.bind_some _ _).symm.trans H;rw [hy778];with_reducible exact H2_) | (have H2_:=(Option.bind_some _ _).symm.trans H;with_reducible exact H2_) | with_reducible exact H | (rw [hy778];exact H) | exact H
   have Ny778:=Aside0.mk hy778;clear hy778;have H':=Aside0.mk H;clear H
   go_enter Try.func101,Try.ntmps101
   go_wp2_with (first | ((with_reducible refine gate_dst (N:=7) rfl ?_);refine Kd.S_make k133 _ 133 rfl (N:=7) rfl 42 _ _ rfl (l0.length : Int) rfl rfl Try.underlying42 (.agg #[(.bool false),(.slice none 0 0)]) 32 info133 rfl (by decide) (by omega) z133 (ok:=fun _=>True) (okp:=fun _=>True) (k133_mkM _ _ _ z133 (Kd.R_nil _ _ _ _ _)) (fun _ hk=>hk) trivial (of_decide_eq_true (by first | (with_reducible assumption) | assumption)) (Nat.le_trans (Nat.mul_le_mul_right _ (of_decide_eq_true (by first | (with_reducible assumption) | assumption) : (l0.length : Int).toNat ≤ 8796093022208)) (by omega)) (Below.refl _ _) (Nat.le_refl _) ?_;intro v779 w4 ho5 hb hg_ hnew_;clear hg_ hnew_;(first | rw [← Ny778.out] at ho5 | (simp only [Int.reduceToNat] at ho5;rw [← Ny778.out] at ho5));have n0_:=Aside0.mk (Kd.S_lower ho5 (below_size (hs HB)));have n1_:=Aside0.mk (below_step (hs HB) hb);clear HB;have HO780:=n0_;have HB:=n1_;clear n0_ n1_;clear hb ho5));go_loopg [4] k (fun kq v4 w'=>∃ (x3_1 : List (S133)) (x4_1 : Int),v4 = .int .i64 x4_1 ∧ Aside0 (laws_toKnotS.l0 kq l0 x3_1 x4_1 = some r) ∧ Aside0 (kq ≤ k) ∧ Aside0 (Kd.S k133 133 w' w.heap.size (fun _=>True) v779 x3_1) ∧ Aside0 (Below w.heap.size w w'));case atStart=>exact ⟨(y778),(0),(by first | rfl | (simp;done) | (simp [*];done)),H',⟨Nat.le_refl _⟩,⟨ss HO780⟩,⟨hs HB⟩⟩
   case round =>
    clear H'
    try clear c1
    try clear c2
    try clear c2b0
    try clear c2b1
    try clear p2
    try clear c3
    try clear c3b0
    try clear c3b1
    obtain ⟨x3_1,x4_1,rfl,HA,HK1,HO_3,HB⟩:=hrel;cases gk with
    | zero=>exact absurd HA.out (by simp [laws_toKnotS.l0])
    | succ k1 =>
     have H:=HA.out;clear HA;simp only [laws_toKnotS.l0] at H
     by_cases c6 : x4_1 < (l0.length : Int)
     ·rw [if_pos c6] at H;have c6b0 : decide (x4_1 < (l0.length : Int)) = true:=decide_eq_true c6;clear c6
      by_cases c7 : 0 ≤ x4_1
      ·rw [if_pos c7] at H;have c7b0 : decide (0 ≤ x4_1) = true:=decide_eq_true c7;clear c7;replace H:=Option.bind_eq_some_iff.mp H;obtain ⟨⟨t782,t783⟩,A80,H⟩:=H;replace H : (if x4_1 < (x3_1.length : Int) then (laws_toKnotS.l0 k1 l0 (x3_1.set (x4_1 : Int).toNat (⟨t782,t783⟩ : S133)) (wrap64 (x4_1 + 1))) else (none)) = some r:=H;have A8:=Aside0.mk A80;clear A80
       by_cases c9 : x4_1 < (x3_1.length : Int)
       ·rw [if_pos c9] at H;have c9b0 : decide (x4_1 < (x3_1.length : Int)) = true:=decide_eq_true c9;clear c9;obtain ⟨y786,hy786⟩ : ∃ y_ : List (S133),y_ = (x3_1.set (x4_1 : Int).toNat (⟨t782,t783⟩ : S133)):=⟨_,rfl⟩;replace H : (laws_toKnotS.l0 k1 l0 y786 (wrap64 (x4_1 + 1))) = some r:=by first | (rw [hy786];with_reducible exact H) | (have H2_:=(Option.bind_some _ _).symm.trans H;rw [hy786];with_reducible exact H2_) | (have H2_:=(Option.bind_some _ _).symm.trans H;with_reducible exact H2_) | with_reducible exact H | (rw [hy786];exact H) | exact H
        have Ny786:=Aside0.mk hy786;clear hy786;have H':=Aside0.mk H;clear H;have p781 : 0 ≤ (x4_1 : Int):=of_decide_eq_true (by first | (with_reducible assumption) | assumption);have q781 : x4_1 < (l0.length : Int):=of_decide_eq_true (by first | (with_reducible assumption) | assumption);obtain ⟨ad781,A781_1,c781_1,e781,hx781_0,hx781_1,hl781_1,hi781_1⟩:=at_T175 HR0.out x4_1 p781 q781;cases e781;replace hx781_0:=(HB.out.cell (World.block_lt_of_cell? w _ hx781_0)).trans hx781_0;replace hx781_1:=(HB.out.cell (World.block_lt_of_cell? w _ hx781_1)).trans hx781_1;have HR781_1:=Aside0.mk hi781_1;have HC781_1:=Aside0.mk hl781_1;clear hi781_1 hl781_1;replace p781:=eq_true p781;replace q781:=eq_true q781;go_wp2_with (first | ((with_reducible refine gate_callee (f:=144) rfl ?_);refine goesL_ (some 20) rfl rfl Try.func144 (by kernel_rfl) rfl #[.agg #[.bool ((rd_T175 l0 x4_1).f0),.slice A781_1 ((rd_T175 l0 x4_1).f1).length c781_1]] rfl (by (try simp only [List.map_toArray,List.map_cons,List.map_nil]);first | done | rfl | (simp only [List.length_drop,List.length_take];rfl)) ?_;(with_reducible refine (laws_toKnot.calls k1 ((rd_T175 l0 x4_1).f0) _ _ ((rd_T175 l0 x4_1).f1) t782 t783 _ ?side1 ?side2 A8.out).mono ?_);(case side1=>repeat (first | exact (Kd.C_below HR781_1.out HB.out) | (with_reducible refine Kd.C_alloc ?_ _) | (with_reducible refine Kd.C_drewN ?_ _) | (with_reducible refine Kd.C_drew ?_)));(case side2=>exact HC781_1.out);rintro e w11 ⟨v784,rfl,ho0,hb⟩;refine ⟨_,rfl,?_⟩;have n0_:=Aside0.mk (Kd.S_elder' (ss HO_3) (Kd.R_base ho0) hb);have n1_:=Aside0.mk (Kd.R_lower ho0 (below_size (hs HB)));have n2_:=Aside0.mk (below_step (hs HB) hb);clear HO_3;clear HB;have HO_3:=n0_;have HO785:=n1_;have HB:=n2_;clear n0_ n1_ n2_;(try clear hb);(try clear hb2);(try clear hk);(try clear hi);(try clear ho0);have p10 : 0 ≤ (x4_1 : Int):=of_decide_eq_true (by first | (with_reducible assumption) | assumption);have q10 : (x4_1 : Int) < ((x3_1.length : Int) : Int):=of_decide_eq_true (by first | (with_reducible assumption) | assumption);obtain ⟨go10,co10,eo10,gb10,gl10,cl10,HG10⟩:=Kd.S_form HO_3.out (by omega);(first | cases eo10 | (injection eo10 with ea_ en_ ec_;(first | subst ea_ | (injection ea_ with ea_;subst ea_));subst ec_;clear en_));have GB10:=Aside0.mk gb10;have GG10:=Aside0.mk HG10;clear gb10 gl10 HG10;obtain ⟨_,ce10,hcl10,hM10,hcc10,hfr10,_,_⟩:=Kd.S_elem HO_3.out z133 (x4_1 : Int) p10 q10;obtain ⟨ve10_1,rfl,ge10_1⟩:=k133_openM hM10;have hx10_0 : w11.cell? ⟨go10,(x4_1 : Int).toNat * 2,none⟩ = some (.bool ((rd_T133 x3_1 x4_1).f0)):=hcc10 0 _ rfl;have hx10_1 : w11.cell? ⟨go10,(x4_1 : Int).toNat * 2 + 1,none⟩ = some (ve10_1):=hcc10 1 _ rfl;have hf10_0 : w11.frozen? ⟨go10,(x4_1 : Int).toNat * 2,none⟩ = false:=hfr10 0;have hf10_1 : w11.frozen? ⟨go10,(x4_1 : Int).toNat * 2 + 1,none⟩ = false:=hfr10 1;clear hcl10 hcc10 hfr10 hM10;replace p10:=eq_true p10;replace q10:=eq_true q10;have n_:=Aside0.mk (Kd.S_mono (ok':=(fun k_=>some k_ ≠ (v784 : Value).ownBlock)) HO_3.out (fun k_ hk=>hk.2));clear HO_3;have HO_3:=n_;clear n_;have HX12:=Aside0.mk (show Kd.S k133 133 w11 w.heap.size (fun k_=>((fun _=>True)) k_ ∧ ¬ ((fun k_=>some k_ = (v784 : Value).ownBlock)) k_) (.slice (some ⟨go10,0,none⟩) x3_1.length co10) x3_1 from (by (with_reducible repeat (first | apply Kd.S_alloc | apply Kd.S_drewN | apply Kd.S_drew));exact Kd.S_mono HO_3.out (fun k_ hk=>⟨trivial,fun e_=>hk e_⟩)));obtain ⟨oki12,ce12,hcl12,hM12,hcc12,hfr12,hoki12,hH12⟩:=Kd.S_elem HX12.out z133 (x4_1 : Int) (of_decide_eq_true (by first | (with_reducible assumption) | assumption)) (by have h_ : (x4_1 : Int) < ((x3_1.length : Int) : Int):=of_decide_eq_true (by first | (with_reducible assumption) | assumption);first | exact h_ | (have e_:=(Kd.S_reads' HO_3.out).1;omega) | simpa using h_);obtain ⟨ve12_1,rfl,ge12_1⟩:=k133_openM hM12;have HP12:=Kd.S_seg hH12 (of_decide_eq_true (by first | (with_reducible assumption) | assumption)) (by have h_ : (x4_1 : Int) < ((x3_1.length : Int) : Int):=of_decide_eq_true (by first | (with_reducible assumption) | assumption);first | exact h_ | (have e_:=(Kd.S_reads' HO_3.out).1;omega) | simpa using h_) (seg:=[.bool t782,v784]) (j:=0) (show 2 ≤ 2 from by decide) (x':=(⟨t782,t783⟩ : S133)) (k133_mkM _ _ _ (⟨t782,t783⟩ : S133) (Kd.R_mono (Kd.R_tight rfl (Kd.R_mono (ok':=fun k_=>((fun _=>True)) k_ ∧ k_ ≠ go10) (Kd.R_apart' (HO785.out) (Kd.S_typed HO_3.out) (by decide)) (fun k_ hk=>⟨trivial,fun e_=>(hk.2) (by rw [e_];rfl)⟩))) (fun _ h_=>Or.inr (h_)))) (fun _ hk=>hk) (fun k_ hk_=>((Kd.R_mono (ok':=fun k_=>((fun _=>True)) k_ ∧ k_ ≠ go10) (Kd.R_apart' (HO785.out) (Kd.S_typed HO_3.out) (by decide)) (fun k_ hk=>⟨trivial,fun e_=>(hk.2) (by rw [e_];rfl)⟩))).1 k_ hk_.symm);have hx12_0:=hcc12 0 _ rfl;(try simp only [show (k133).sz = 2 from rfl,Nat.mul_one,Nat.add_zero] at hx12_0);have hf12_0:=hfr12 0;(try simp only [show (k133).sz = 2 from rfl,Nat.mul_one,Nat.add_zero] at hf12_0);have hx12_1:=hcc12 1 _ rfl;(try simp only [show (k133).sz = 2 from rfl,Nat.mul_one,Nat.add_zero] at hx12_1);have hf12_1:=hfr12 1;(try simp only [show (k133).sz = 2 from rfl,Nat.mul_one,Nat.add_zero] at hf12_1);clear hcl12 hcc12 hfr12 hM12 hoki12 hH12;have hst12_1:=fun (W_ : World) (a_ : Addr) (m_ : Mode)=>run_store Try.prog W_ a_ v784 m_ (Kd.R_val HO785.out).2) | ((with_reducible refine gate_store (t:=133) (p:=21) rfl ?_);refine store_event (t:=133) (p:=21) (v:=?vo_w13) (w1:=((w11.setCell ⟨go10,(x4_1 : Int).toNat * 2,none⟩ (.bool t782)).setCell ⟨go10,(x4_1 : Int).toNat * 2 + 1,none⟩ (v784))) ?hg ?ho ?hn ?hr ?_;(case ho=>rfl);(case hg=>rfl);(case hn=>rfl);(case hr=>first | (go_simp;done) | (go_simp;rfl));intro w13 hw;have hg : w11.grownBy w13 (some go10):=(by rw [hw];exact HP12.2);have hp_ : Kd.S k133 133 w13 w.heap.size (fun _=>True) (.slice (some ⟨go10,0,none⟩) x3_1.length co10) y786:=(by rw [hw,Ny786.out];exact HP12.1);clear HP12;have n0_:=Aside0.mk (hp_);have n1_:=Aside0.mk ((by rw [hw];exact below_set (below_set (HB.out) GB10.out) GB10.out : Below w.heap.size w w13));clear HO_3;clear HB;clear HO785;have HO_3:=n0_;have HB:=n1_;clear n0_ n1_;clear hg hw hp_ hst12_1));go_roundg k1;case measure=>have:=HK1.out;omega
        case rel=>exact ⟨(y786),(wrap64 (x4_1 + 1)),(by first | rfl | (simp;done) | (simp [*];done)),H',⟨by have:=HK1.out;omega⟩,⟨ss HO_3⟩,⟨hs HB⟩⟩
       rw [if_neg c9] at H;exact absurd H (by simp)
      rw [if_neg c7] at H;exact absurd H (by simp)
     rw [if_neg c6] at H;have c6b0 : decide (x4_1 < (l0.length : Int)) = false:=decide_eq_false c6;clear c6;obtain rfl:=Option.some.inj H
     go_wp2
     go_ret
     exact ⟨_,by first | rfl | (simp [errW_none,errW_some] <;> rfl) | (simp [*,errW_none,errW_some] <;> rfl),ss HO_3,hs HB⟩
  rw [if_neg c3] at H;exact absurd H (by simp)
 rw [if_neg c2] at H;exact absurd H (by simp)
end Go.Proofs.Ytdolplcbokioaaa.PB

namespace Go.Proofs.Ytdolplcbokioaaa.PB
open Go.RowKit Go.Proofs.YtdolplcbokioaaaW.PrintWords Go.Proofs.YtdolplcbokioaaaW.PrintLast Go.Proofs.YtdolplcbokioaaaW.PrintMore
attribute [local go_sem] max2_int min2_int max_two min_two max_three min_three max_four min_four   -- for this text's walks alone
set_option linter.unusedVariables false
set_option linter.unusedSimpArgs false
def laws_toArena.f (k : Nat) (l0_0 : List (S175)) : Option ((List (S133))):=(laws_toKnotS.f k l0_0).bind fun t790=>(some t790)
theorem laws_toArena.mono : ∀ a0 k,LeO (laws_toArena.f k a0) (laws_toArena.f (k + 1) a0):=by
 intro a0 k;unfold laws_toArena.f
 repeat' first
   | (with_reducible exact laws_toKnotS.mono _ _)
   | (with_reducible exact LeO.refl _)
   | (with_reducible exact LeO.none _)
   | (with_reducible refine LeO.ite ?_ ?_)
   | (with_reducible refine LeO.bind ?_ (fun _=>?_))
   | exact laws_toKnotS.mono _ _
   | exact LeO.none _
   | refine LeO.ite ?_ ?_
   | refine LeO.bind ?_ (fun _=>?_)
set_option maxHeartbeats 8000000 in
set_option maxRecDepth 100000 in
theorem laws_toArena.calls (k : Nat) (A0_0 : Option Addr) (c0_0 : Nat) (l0_0 : List (S175)) (r : List (S133)) (w : World) (hr0_0 : Kd.C k175 w A0_0 l0_0.length l0_0) (hc0_0 : l0_0.length ≤ c0_0) (h : laws_toArena.f k l0_0 = some r) :
  Calls Try.prog 31 #[.agg #[.slice A0_0 l0_0.length c0_0]] w fun e w'=>∃ v0_ : Value,e = .returned (.agg #[v0_]) ∧ Kd.S k133 133 w' w.heap.size (fun _=>True) v0_ r ∧ Below w.heap.size w w':=by
 have hu53:=Try.underlying53;have hu44:=Try.underlying44;have HR0_0:=Aside0.mk hr0_0;have HC0_0:=Aside0.mk hc0_0;clear hr0_0 hc0_0;have HB:=Aside0.mk (Below.refl w.heap.size w);have H : ((laws_toKnotS.f k l0_0).bind fun t790=>(some t790)) = some r:=h;clear h;replace H:=Option.bind_eq_some_iff.mp H;obtain ⟨t790,A20,H⟩:=H;replace H : (some t790) = some r:=H;have A2:=Aside0.mk A20;clear A20;obtain rfl:=Option.some.inj H
 go_enter Try.func31,Try.ntmps31
 go_wp2_with (first | ((with_reducible refine gate_dst (N:=1) rfl ?_);refine box_event ?hg (N:=1) ?hd (cs:=#[.slice A0_0 l0_0.length c0_0]) (t:=53) ?hr ?_;(case hd=>rfl);(case hg=>rfl);(case hr=>first | (go_simp;done) | (go_simp;rfl));intro gb787 hg w3 hbox hb;have n0_:=Aside0.mk (below_step (hs HB) hb);have n1_:=Aside0.mk (hbox);have n2_:=Aside0.mk ((by rw [hg];exact (below_size (hs HB)) : w.heap.size ≤ gb787));have n3_:=Aside0.mk ((by rw [hg];exact (below_size (hs HB)) : w.heap.size ≤ gb787));clear HB;have HB:=n0_;have BK787:=n1_;have GW787:=n2_;have GE787:=n3_;clear n0_ n1_ n2_ n3_;clear hb hbox hg) | ((with_reducible refine gate_dst (N:=2) rfl ?_);refine box_event ?hg (N:=2) ?hd (cs:=#[.slice none 0 0]) (t:=44) ?hr ?_;(case hd=>rfl);(case hg=>rfl);(case hr=>first | (go_simp;done) | (go_simp;rfl));intro gb788 hg w4 hbox hb;have n0_:=Aside0.mk (blk_below (g:=gb787) (o:=.cells #[.slice A0_0 l0_0.length c0_0] 53 (0,0)) (bs BK787) hb);have n1_:=Aside0.mk (below_step (hs1 HB GE787) hb);have n2_:=Aside0.mk (hbox);have n3_:=Aside0.mk ((by rw [hg];exact (below_size (hs1 HB GE787)) : w.heap.size ≤ gb788));have n4_:=Aside0.mk ((by rw [hg];exact (below_size (hs1 HB GE787)) : w.heap.size ≤ gb788));have n5_:=Aside0.mk ((by rw [hg];exact Nat.ne_of_lt (blk_lt (g:=gb787) (o:=.cells #[.slice A0_0 l0_0.length c0_0] 53 (0,0)) (bs BK787)) : gb787 ≠ gb788));have n6_:=Aside0.mk ((by rw [hg];exact Nat.ne_of_gt (blk_lt (g:=gb787) (o:=.cells #[.slice A0_0 l0_0.length c0_0] 53 (0,0)) (bs BK787)) : gb788 ≠ gb787));clear BK787;clear HB;have BK787:=n0_;have HB:=n1_;have BK788:=n2_;have GW788:=n3_;have GE788:=n4_;have NB787_788:=n5_;have NB788_787:=n6_;clear n0_ n1_ n2_ n3_ n4_ n5_ n6_;clear hb hbox hg) | ((with_reducible refine gate_dst (N:=3) rfl ?_);refine box_event ?hg (N:=3) ?hd (cs:=#[.slice none 0 0]) (t:=44) ?hr ?_;(case hd=>rfl);(case hg=>rfl);(case hr=>first | (go_simp;done) | (go_simp;rfl));intro gb789 hg w5 hbox hb;have n0_:=Aside0.mk (blk_below (g:=gb787) (o:=.cells #[.slice A0_0 l0_0.length c0_0] 53 (0,0)) (bs BK787) hb);have n1_:=Aside0.mk (blk_below (g:=gb788) (o:=.cells #[.slice none 0 0] 44 (0,0)) (bs BK788) hb);have n2_:=Aside0.mk (below_step (hs2 HB GE787 GE788) hb);have n3_:=Aside0.mk (hbox);have n4_:=Aside0.mk ((by rw [hg];exact (below_size (hs2 HB GE787 GE788)) : w.heap.size ≤ gb789));have n5_:=Aside0.mk ((by rw [hg];exact (below_size (hs2 HB GE787 GE788)) : w.heap.size ≤ gb789));have n6_:=Aside0.mk ((by rw [hg];exact Nat.ne_of_lt (blk_lt (g:=gb787) (o:=.cells #[.slice A0_0 l0_0.length c0_0] 53 (0,0)) (bs BK787)) : gb787 ≠ gb789));have n7_:=Aside0.mk ((by rw [hg];exact Nat.ne_of_gt (blk_lt (g:=gb787) (o:=.cells #[.slice A0_0 l0_0.length c0_0] 53 (0,0)) (bs BK787)) : gb789 ≠ gb787));have n8_:=Aside0.mk ((by rw [hg];exact Nat.ne_of_lt (blk_lt (g:=gb788) (o:=.cells #[.slice none 0 0] 44 (0,0)) (bs BK788)) : gb788 ≠ gb789));have n9_:=Aside0.mk ((by rw [hg];exact Nat.ne_of_gt (blk_lt (g:=gb788) (o:=.cells #[.slice none 0 0] 44 (0,0)) (bs BK788)) : gb789 ≠ gb788));clear BK787;clear BK788;clear HB;have BK787:=n0_;have BK788:=n1_;have HB:=n2_;have BK789:=n3_;have GW789:=n4_;have GE789:=n5_;have NB787_789:=n6_;have NB789_787:=n7_;have NB788_789:=n8_;have NB789_788:=n9_;clear n0_ n1_ n2_ n3_ n4_ n5_ n6_ n7_ n8_ n9_;clear hb hbox hg;have hnb6:=NB787_788.out;have hnc6:=NB788_787.out;have hnb7:=NB787_789.out;have hnc7:=NB789_787.out;have hcz8_0 : w5.cell? ⟨gb787,0,none⟩ = some (.slice A0_0 l0_0.length c0_0):=(blk_cell BK787.out 0).trans rfl;have hfz8_0:=blk_frozen BK787.out 0) | ((with_reducible refine gate_callee (f:=101) rfl ?_);refine goesL_ (some 6) rfl rfl Try.func101 (by kernel_rfl) rfl #[.slice A0_0 l0_0.length c0_0] rfl (by (try simp only [List.map_toArray,List.map_cons,List.map_nil]);first | done | rfl | (simp only [List.length_drop,List.length_take];rfl)) ?_;(with_reducible refine (laws_toKnotS.calls k _ _ l0_0 t790 _ ?side1 ?side2 A2.out).mono ?_);(case side1=>repeat (first | exact (Kd.C_below HR0_0.out HB.out) | (with_reducible refine Kd.C_alloc ?_ _) | (with_reducible refine Kd.C_drewN ?_ _) | (with_reducible refine Kd.C_drew ?_)));(case side2=>exact HC0_0.out);rintro e w9 ⟨v791,rfl,ho0,hb⟩;refine ⟨_,rfl,?_⟩;have n0_:=Aside0.mk (Kd.S_lower ho0 (below_size (hs3 HB GE787 GE788 GE789)));have n1_:=Aside0.mk (blk_below (g:=gb787) (o:=.cells #[.slice A0_0 l0_0.length c0_0] 53 (0,0)) (bs BK787) hb);have n2_:=Aside0.mk (blk_below (g:=gb788) (o:=.cells #[.slice none 0 0] 44 (0,0)) (bs BK788) hb);have n3_:=Aside0.mk (blk_below (g:=gb789) (o:=.cells #[.slice none 0 0] 44 (0,0)) (bs BK789) hb);have n4_:=Aside0.mk (below_step (hs3 HB GE787 GE788 GE789) hb);clear BK787;clear BK788;clear BK789;clear HB;have HO792:=n0_;have BK787:=n1_;have BK788:=n2_;have BK789:=n3_;have HB:=n4_;clear n0_ n1_ n2_ n3_ n4_;(try clear hb);(try clear hb2);(try clear hk);(try clear hi);(try clear ho0);obtain ⟨Ao10,co10,eo10⟩:=Kd.S_slice HO792.out;subst eo10;have hnb11:=NB789_788.out;have hnc11:=NB788_789.out;have hcz12_0 : w9.cell? ⟨gb789,0,none⟩ = some (.slice none 0 0):=(blk_cell BK789.out 0).trans rfl;have hfz12_0:=blk_frozen BK789.out 0;have hcz13_0 : w9.cell? ⟨gb788,0,none⟩ = some (.slice none 0 0):=(blk_cell BK788.out 0).trans rfl;have hfz13_0:=blk_frozen BK788.out 0));refine bodyPost_ret (results_cell_row rfl _ _ gb788 44 #[.slice Ao10 t790.length co10] (0,0) _ rfl (by (with_reducible repeat (first | refine blk_drewN ?_ _ | refine blk_drew ?_ | refine blk_alloc ?_ _));refine blk_put (cs:=#[.slice none 0 0]) ?_ 0 _ rfl;(with_reducible repeat (first | refine blk_drewN ?_ _ | refine blk_drew ?_ | refine blk_alloc ?_ _));refine blk_far ?_ NB788_789.out _;(with_reducible repeat (first | refine blk_drewN ?_ _ | refine blk_drew ?_ | refine blk_alloc ?_ _));exact BK788.out) Try.underlying44 rfl (by kernel_rfl)) rfl ?_;exact ⟨_,by first | rfl | (simp [errW_none,errW_some] <;> rfl) | (simp [*,errW_none,errW_some] <;> rfl),by (with_reducible repeat (first | apply Kd.S_alloc | apply Kd.S_drewN | apply Kd.S_drew));exact Kd.S_mono (Kd.S_far (p:=⟨gb788,0,none⟩) (Kd.S_far (p:=⟨gb789,0,none⟩) (Kd.S_types (Kd.S_types HO792.out BK789.out (by decide)) BK788.out (by decide)) (fun _ hk=>hk.1.2) (.slice Ao10 t790.length co10)) (fun _ hk=>hk.2) (.slice Ao10 t790.length co10)) (fun _ hk=>trivial),hs3 HB GE787 GE788 GE789⟩
end Go.Proofs.Ytdolplcbokioaaa.PB

namespace Go.Proofs.Ytdolplcbokioaaa.PB
open Go.RowKit Go.Proofs.YtdolplcbokioaaaW.PrintWords Go.Proofs.YtdolplcbokioaaaW.PrintLast Go.Proofs.YtdolplcbokioaaaW.PrintMore
attribute [local go_sem] max2_int min2_int max_two min_two max_three min_three max_four min_four   -- for this text's walks alone
set_option linter.unusedVariables false
set_option linter.unusedSimpArgs false
def laws_eqIntS.l0 : Nat → List Int → List Int → Int → Option (Bool)
 | 0,_,_,_=>none
 | k + 1,x0,x1,x5=>if x5 < (x0.length : Int) then (if 0 ≤ x5 then (if x5 < (x1.length : Int) then (if (rd x0 x5) = (rd x1 x5) then (laws_eqIntS.l0 k x0 x1 (wrap64 (x5 + 1))) else (some false)) else (none)) else (none)) else (some true)
def laws_eqIntS.f (k : Nat) (l0 : List Int) (l1 : List Int) : Option (Bool):=if (l0.length : Int) = (l1.length : Int) then (laws_eqIntS.l0 k l0 l1 0) else (some false)
theorem laws_eqIntS.mono_l : ∀ k,(∀ y0 y1 y2,LeO (laws_eqIntS.l0 k y0 y1 y2) (laws_eqIntS.l0 (k + 1) y0 y1 y2))
 | 0=>fun _ _ _ r h=>by simp [laws_eqIntS.l0] at h
 | k + 1=>by
  have ih0:=laws_eqIntS.mono_l k;intro y0 y1 y2;unfold laws_eqIntS.l0
  repeat' first
  | (with_reducible exact ih0 _ _ _)
  | (with_reducible exact LeO.refl _)
  | (with_reducible exact LeO.none _)
  | (with_reducible refine LeO.ite ?_ ?_)
  | (with_reducible refine LeO.bind ?_ (fun _=>?_))
  | exact ih0 _ _ _
  | exact LeO.none _
  | refine LeO.ite ?_ ?_
  | refine LeO.bind ?_ (fun _=>?_)
theorem laws_eqIntS.mono : ∀ a0 a1 k,LeO (laws_eqIntS.f k a0 a1) (laws_eqIntS.f (k + 1) a0 a1):=by
 intro a0 a1 k;have ih0:=laws_eqIntS.mono_l k;unfold laws_eqIntS.f
 repeat' first
   | (with_reducible exact ih0 _ _ _)
   | (with_reducible exact LeO.refl _)
   | (with_reducible exact LeO.none _)
   | (with_reducible refine LeO.ite ?_ ?_)
   | (with_reducible refine LeO.bind ?_ (fun _=>?_))
   | exact ih0 _ _ _
   | exact LeO.none _
   | refine LeO.ite ?_ ?_
   | refine LeO.bind ?_ (fun _=>?_)
set_option maxHeartbeats 8000000 in
set_option maxRecDepth 100000 in
theorem laws_eqIntS.calls (k : Nat) (A0 : Option Addr) (c0 : Nat) (l0 : List Int) (A1 : Option Addr) (c1 : Nat) (l1 : List Int) (r : Bool) (w : World) (hr0 : Kd.C (Kd.int .i64) w A0 l0.length l0) (hc0 : l0.length ≤ c0) (hr1 : Kd.C (Kd.int .i64) w A1 l1.length l1) (hc1 : l1.length ≤ c1) (h : laws_eqIntS.f k l0 l1 = some r) :
  Calls Try.prog 74 #[.slice A0 l0.length c0,.slice A1 l1.length c1] w fun e w'=>e = .returned (.bool r) ∧ Drawn0 w w':=by
 have HR0:=Aside0.mk hr0;have HC0:=Aside0.mk hc0;clear hr0 hc0;have HR1:=Aside0.mk hr1;have HC1:=Aside0.mk hc1;clear hr1 hc1;have H : (if (l0.length : Int) = (l1.length : Int) then (laws_eqIntS.l0 k l0 l1 0) else (some false)) = some r:=h;clear h
 by_cases c3 : (l0.length : Int) = (l1.length : Int)
 ·rw [if_pos c3] at H;have c3b0 : ((l0.length : Int) == (l1.length : Int)) = true:=beq_iff_eq.mpr c3;have c3b1 : ((l0.length : Int) != (l1.length : Int)) = false:=bne_eq_false_iff_eq.mpr c3;have c3b2 : (l0.length == l1.length) = true:=by first | simpa using c3 | (simp at c3 ⊢;omega)
  clear c3;have H':=Aside0.mk H;clear H
  go_enter Try.func74,Try.ntmps74
  go_wp2
  repeat (go_quiet (fail);try go_wp2)
  go_loopg [5] k (fun kq v5 w'=>∃ (x5_1 : Int),v5 = .int .i64 x5_1 ∧ Aside0 (laws_eqIntS.l0 kq l0 l1 x5_1 = some r) ∧ Aside0 (kq ≤ k) ∧ Drawn0 w w');case atStart=>exact ⟨(0),(by first | rfl | (simp;done) | (simp [*];done)),H',⟨Nat.le_refl _⟩,by repeat (first | exact Drawn0.refl _ | apply Drawn0.step)⟩
  case round =>
   clear H'
   try clear c1
   try clear p2
   try clear c3
   try clear c3b0
   try clear c3b1
   try clear c3b2
   obtain ⟨x5_1,rfl,HA,HK1,⟨m1,rfl⟩⟩:=hrel;cases gk with
   | zero=>exact absurd HA.out (by simp [laws_eqIntS.l0])
   | succ k1 =>
    have H:=HA.out;clear HA;simp only [laws_eqIntS.l0] at H
    by_cases c4 : x5_1 < (l0.length : Int)
    ·rw [if_pos c4] at H;have c4b0 : decide (x5_1 < (l0.length : Int)) = true:=decide_eq_true c4;clear c4
     by_cases c5 : 0 ≤ x5_1
     ·rw [if_pos c5] at H;have c5b0 : decide (0 ≤ x5_1) = true:=decide_eq_true c5;clear c5
      by_cases c6 : x5_1 < (l1.length : Int)
      ·rw [if_pos c6] at H;have c6b0 : decide (x5_1 < (l1.length : Int)) = true:=decide_eq_true c6;clear c6
       by_cases c7 : (rd l0 x5_1) = (rd l1 x5_1)
       ·rw [if_pos c7] at H;have c7b0 : ((rd l0 x5_1) == (rd l1 x5_1)) = true:=beq_iff_eq.mpr c7;have c7b1 : ((rd l0 x5_1) != (rd l1 x5_1)) = false:=bne_eq_false_iff_eq.mpr c7;clear c7;have H':=Aside0.mk H;clear H;have p858 : 0 ≤ (x5_1 : Int):=of_decide_eq_true (by first | (with_reducible assumption) | assumption);have q858 : x5_1 < (l0.length : Int):=of_decide_eq_true (by first | (with_reducible assumption) | assumption);obtain ⟨ad858,e858,hx858_0⟩:=Kd.at_int HR0.out x5_1 p858 q858;cases e858;replace p858:=eq_true p858;replace q858:=eq_true q858;have p859 : 0 ≤ (x5_1 : Int):=of_decide_eq_true (by first | (with_reducible assumption) | assumption);have q859 : x5_1 < (l1.length : Int):=of_decide_eq_true (by first | (with_reducible assumption) | assumption);obtain ⟨ad859,e859,hx859_0⟩:=Kd.at_int HR1.out x5_1 p859 q859;cases e859;replace p859:=eq_true p859;replace q859:=eq_true q859
        go_wp2
        repeat (go_quiet (fail);try go_wp2)
        go_roundg k1;case measure=>have:=HK1.out;omega
        case rel=>exact ⟨(wrap64 (x5_1 + 1)),(by first | rfl | (simp;done) | (simp [*];done)),H',⟨by have:=HK1.out;omega⟩,by repeat (first | exact Drawn0.refl _ | apply Drawn0.step)⟩
       rw [if_neg c7] at H;have c7b0 : ((rd l0 x5_1) == (rd l1 x5_1)) = false:=beq_eq_false_iff_ne.mpr c7;have c7b1 : ((rd l0 x5_1) != (rd l1 x5_1)) = true:=bne_iff_ne.mpr c7;obtain rfl:=Option.some.inj H;have p858 : 0 ≤ (x5_1 : Int):=of_decide_eq_true (by first | (with_reducible assumption) | assumption);have q858 : x5_1 < (l0.length : Int):=of_decide_eq_true (by first | (with_reducible assumption) | assumption);obtain ⟨ad858,e858,hx858_0⟩:=Kd.at_int HR0.out x5_1 p858 q858;cases e858;replace p858:=eq_true p858;replace q858:=eq_true q858;have p859 : 0 ≤ (x5_1 : Int):=of_decide_eq_true (by first | (with_reducible assumption) | assumption);have q859 : x5_1 < (l1.length : Int):=of_decide_eq_true (by first | (with_reducible assumption) | assumption);obtain ⟨ad859,e859,hx859_0⟩:=Kd.at_int HR1.out x5_1 p859 q859;cases e859;replace p859:=eq_true p859;replace q859:=eq_true q859
       go_wp2
       repeat (go_quiet (fail);try go_wp2)
       go_ret
       exact ⟨by first | rfl | (simp;done) | (simp [*];done),by repeat (first | exact Drawn0.refl _ | apply Drawn0.step)⟩
      rw [if_neg c6] at H;exact absurd H (by simp)
     rw [if_neg c5] at H;exact absurd H (by simp)
    rw [if_neg c4] at H;have c4b0 : decide (x5_1 < (l0.length : Int)) = false:=decide_eq_false c4;clear c4;obtain rfl:=Option.some.inj H
    go_wp2
    repeat (go_quiet (fail);try go_wp2)
    go_ret
    exact ⟨by first | rfl | (simp;done) | (simp [*];done),by repeat (first | exact Drawn0.refl _ | apply Drawn0.step)⟩
 rw [if_neg c3] at H;have c3b0 : ((l0.length : Int) == (l1.length : Int)) = false:=beq_eq_false_iff_ne.mpr c3;have c3b1 : ((l0.length : Int) != (l1.length : Int)) = true:=bne_iff_ne.mpr c3;have c3b2 : (l0.length == l1.length) = false:=by first | simpa using c3 | (simp at c3 ⊢;omega)
 obtain rfl:=Option.some.inj H
 go_enter Try.func74,Try.ntmps74
 go_wp2
 repeat (go_quiet (fail);try go_wp2)
 go_ret
 exact ⟨by first | rfl | (simp;done) | (simp [*];done),by repeat (first | exact Drawn0.refl _ | apply Drawn0.step)⟩
end Go.Proofs.Ytdolplcbokioaaa.PB

namespace Go.Proofs.Ytdolplcbokioaaa.PB
open Go.RowKit Go.Proofs.YtdolplcbokioaaaW.PrintWords Go.Proofs.YtdolplcbokioaaaW.PrintLast Go.Proofs.YtdolplcbokioaaaW.PrintMore
attribute [local go_sem] max2_int min2_int max_two min_two max_three min_three max_four min_four   -- for this text's walks alone
set_option linter.unusedVariables false
set_option linter.unusedSimpArgs false
def laws_eqKnot.f (k : Nat) (a0_0 : Bool) (l0_1 : List Int) (a1_0 : Bool) (l1_1 : List Int) : Option (Bool):=if (a0_0 != a1_0) = true then (some false) else ((laws_eqIntS.f k l0_1 l1_1).bind fun t862=>(if t862 = true then (some true) else (some false)))
theorem laws_eqKnot.mono : ∀ a0 a1 a2 a3 k,LeO (laws_eqKnot.f k a0 a1 a2 a3) (laws_eqKnot.f (k + 1) a0 a1 a2 a3):=by
 intro a0 a1 a2 a3 k;unfold laws_eqKnot.f
 repeat' first
   | (with_reducible exact laws_eqIntS.mono _ _ _)
   | (with_reducible exact LeO.refl _)
   | (with_reducible exact LeO.none _)
   | (with_reducible refine LeO.ite ?_ ?_)
   | (with_reducible refine LeO.bind ?_ (fun _=>?_))
   | exact laws_eqIntS.mono _ _ _
   | exact LeO.none _
   | refine LeO.ite ?_ ?_
   | refine LeO.bind ?_ (fun _=>?_)
set_option maxHeartbeats 8000000 in
set_option maxRecDepth 100000 in
theorem laws_eqKnot.calls (k : Nat) (a0_0 : Bool) (A0_1 : Option Addr) (c0_1 : Nat) (l0_1 : List Int) (a1_0 : Bool) (A1_1 : Option Addr) (c1_1 : Nat) (l1_1 : List Int) (r : Bool) (w : World) (hr0_1 : Kd.C (Kd.int .i64) w A0_1 l0_1.length l0_1) (hc0_1 : l0_1.length ≤ c0_1) (hr1_1 : Kd.C (Kd.int .i64) w A1_1 l1_1.length l1_1) (hc1_1 : l1_1.length ≤ c1_1) (h : laws_eqKnot.f k a0_0 l0_1 a1_0 l1_1 = some r) :
  Calls Try.prog 145 #[.agg #[.bool a0_0,.slice A0_1 l0_1.length c0_1],.agg #[.bool a1_0,.slice A1_1 l1_1.length c1_1]] w fun e w'=>e = .returned (.bool r) ∧ Below w.heap.size w w':=by
 have hu133:=Try.underlying133;have HR0_1:=Aside0.mk hr0_1;have HC0_1:=Aside0.mk hc0_1;clear hr0_1 hc0_1;have HR1_1:=Aside0.mk hr1_1;have HC1_1:=Aside0.mk hc1_1;clear hr1_1 hc1_1;have HB:=Aside0.mk (Below.refl w.heap.size w);have H : (if (a0_0 != a1_0) = true then (some false) else ((laws_eqIntS.f k l0_1 l1_1).bind fun t862=>(if t862 = true then (some true) else (some false)))) = some r:=h;clear h
 by_cases c3 : (a0_0 != a1_0) = true
 ·rw [if_pos c3] at H;have c3b0 : (a0_0 != a1_0) = true:=c3
  (try (have c3b1 : decide (a0_0 = a1_0) = false:=by simpa using c3))
  (try (have c3b2 : (a0_0 == a1_0) = false:=by simpa using c3))
  (try (have c3b3 : ¬ (a0_0 = a1_0):=by simpa using c3))
  clear c3;obtain rfl:=Option.some.inj H
  go_enter Try.func145,Try.ntmps145
  go_wp2_with (first | ((with_reducible refine gate_dst (N:=2) rfl ?_);refine box_event ?hg (N:=2) ?hd (cs:=#[.bool a0_0,.slice A0_1 l0_1.length c0_1]) (t:=133) ?hr ?_;(case hd=>rfl);(case hg=>rfl);(case hr=>first | (go_simp;done) | (go_simp;rfl));intro gb860 hg w4 hbox hb;have n0_:=Aside0.mk (below_step (hs HB) hb);have n1_:=Aside0.mk (hbox);have n2_:=Aside0.mk ((by rw [hg];exact (below_size (hs HB)) : w.heap.size ≤ gb860));have n3_:=Aside0.mk ((by rw [hg];exact (below_size (hs HB)) : w.heap.size ≤ gb860));clear HB;have HB:=n0_;have BK860:=n1_;have GW860:=n2_;have GE860:=n3_;clear n0_ n1_ n2_ n3_;clear hb hbox hg) | ((with_reducible refine gate_dst (N:=3) rfl ?_);refine box_event ?hg (N:=3) ?hd (cs:=#[.bool a1_0,.slice A1_1 l1_1.length c1_1]) (t:=133) ?hr ?_;(case hd=>rfl);(case hg=>rfl);(case hr=>first | (go_simp;done) | (go_simp;rfl));intro gb861 hg w5 hbox hb;have n0_:=Aside0.mk (blk_below (g:=gb860) (o:=.cells #[.bool a0_0,.slice A0_1 l0_1.length c0_1] 133 (0,0)) (bs BK860) hb);have n1_:=Aside0.mk (below_step (hs1 HB GE860) hb);have n2_:=Aside0.mk (hbox);have n3_:=Aside0.mk ((by rw [hg];exact (below_size (hs1 HB GE860)) : w.heap.size ≤ gb861));have n4_:=Aside0.mk ((by rw [hg];exact (below_size (hs1 HB GE860)) : w.heap.size ≤ gb861));have n5_:=Aside0.mk ((by rw [hg];exact Nat.ne_of_lt (blk_lt (g:=gb860) (o:=.cells #[.bool a0_0,.slice A0_1 l0_1.length c0_1] 133 (0,0)) (bs BK860)) : gb860 ≠ gb861));have n6_:=Aside0.mk ((by rw [hg];exact Nat.ne_of_gt (blk_lt (g:=gb860) (o:=.cells #[.bool a0_0,.slice A0_1 l0_1.length c0_1] 133 (0,0)) (bs BK860)) : gb861 ≠ gb860));clear BK860;clear HB;have BK860:=n0_;have HB:=n1_;have BK861:=n2_;have GW861:=n3_;have GE861:=n4_;have NB860_861:=n5_;have NB861_860:=n6_;clear n0_ n1_ n2_ n3_ n4_ n5_ n6_;clear hb hbox hg;have hnb6:=NB860_861.out;have hnc6:=NB861_860.out;have hcz7_0 : w5.cell? ⟨gb860,0,none⟩ = some (.bool a0_0):=(blk_cell BK860.out 0).trans rfl;have hcz7_1 : w5.cell? ⟨gb860,1,none⟩ = some (.slice A0_1 l0_1.length c0_1):=(blk_cell BK860.out 1).trans rfl;have hfz7_0:=blk_frozen BK860.out 0;have hfz7_1:=blk_frozen BK860.out 1;have hcz8_0 : w5.cell? ⟨gb861,0,none⟩ = some (.bool a1_0):=(blk_cell BK861.out 0).trans rfl;have hcz8_1 : w5.cell? ⟨gb861,1,none⟩ = some (.slice A1_1 l1_1.length c1_1):=(blk_cell BK861.out 1).trans rfl;have hfz8_0:=blk_frozen BK861.out 0;have hfz8_1:=blk_frozen BK861.out 1))
  go_ret
  exact ⟨by first | rfl | (simp [errW_none,errW_some] <;> rfl) | (simp [*,errW_none,errW_some] <;> rfl),hs2 HB GE860 GE861⟩
 rw [if_neg c3] at H;have c3b0 : (a0_0 != a1_0) = false:=by simpa using c3
 (try (have c3b1 : decide (a0_0 = a1_0) = true:=by simpa using c3))
 (try (have c3b2 : (a0_0 == a1_0) = true:=by simpa using c3))
 clear c3;replace H:=Option.bind_eq_some_iff.mp H;obtain ⟨t862,A90,H⟩:=H;replace H : (if t862 = true then (some true) else (some false)) = some r:=H;have A9:=Aside0.mk A90;clear A90
 by_cases c10 : t862 = true
 ·subst c10;have H1 : (some true) = some r:=by rw [if_pos rfl] at H;exact H
  clear H;have H:=H1;clear H1;obtain rfl:=Option.some.inj H
  go_enter Try.func145,Try.ntmps145
  go_wp2_with (first | ((with_reducible refine gate_dst (N:=2) rfl ?_);refine box_event ?hg (N:=2) ?hd (cs:=#[.bool a0_0,.slice A0_1 l0_1.length c0_1]) (t:=133) ?hr ?_;(case hd=>rfl);(case hg=>rfl);(case hr=>first | (go_simp;done) | (go_simp;rfl));intro gb860 hg w11 hbox hb;have n0_:=Aside0.mk (below_step (hs HB) hb);have n1_:=Aside0.mk (hbox);have n2_:=Aside0.mk ((by rw [hg];exact (below_size (hs HB)) : w.heap.size ≤ gb860));have n3_:=Aside0.mk ((by rw [hg];exact (below_size (hs HB)) : w.heap.size ≤ gb860));clear HB;have HB:=n0_;have BK860:=n1_;have GW860:=n2_;have GE860:=n3_;clear n0_ n1_ n2_ n3_;clear hb hbox hg) | ((with_reducible refine gate_dst (N:=3) rfl ?_);refine box_event ?hg (N:=3) ?hd (cs:=#[.bool a1_0,.slice A1_1 l1_1.length c1_1]) (t:=133) ?hr ?_;(case hd=>rfl);(case hg=>rfl);(case hr=>first | (go_simp;done) | (go_simp;rfl));intro gb861 hg w12 hbox hb;have n0_:=Aside0.mk (blk_below (g:=gb860) (o:=.cells #[.bool a0_0,.slice A0_1 l0_1.length c0_1] 133 (0,0)) (bs BK860) hb);have n1_:=Aside0.mk (below_step (hs1 HB GE860) hb);have n2_:=Aside0.mk (hbox);have n3_:=Aside0.mk ((by rw [hg];exact (below_size (hs1 HB GE860)) : w.heap.size ≤ gb861));have n4_:=Aside0.mk ((by rw [hg];exact (below_size (hs1 HB GE860)) : w.heap.size ≤ gb861));have n5_:=Aside0.mk ((by rw [hg];exact Nat.ne_of_lt (blk_lt (g:=gb860) (o:=.cells #[.bool a0_0,.slice A0_1 l0_1.length c0_1] 133 (0,0)) (bs BK860)) : gb860 ≠ gb861));have n6_:=Aside0.mk ((by rw [hg];exact Nat.ne_of_gt (blk_lt (g:=gb860) (o:=.cells #[.bool a0_0,.slice A0_1 l0_1.length c0_1] 133 (0,0)) (bs BK860)) : gb861 ≠ gb860));clear BK860;clear HB;have BK860:=n0_;have HB:=n1_;have BK861:=n2_;have GW861:=n3_;have GE861:=n4_;have NB860_861:=n5_;have NB861_860:=n6_;clear n0_ n1_ n2_ n3_ n4_ n5_ n6_;clear hb hbox hg;have hnb13:=NB860_861.out;have hnc13:=NB861_860.out;have hcz14_0 : w12.cell? ⟨gb860,0,none⟩ = some (.bool a0_0):=(blk_cell BK860.out 0).trans rfl;have hcz14_1 : w12.cell? ⟨gb860,1,none⟩ = some (.slice A0_1 l0_1.length c0_1):=(blk_cell BK860.out 1).trans rfl;have hfz14_0:=blk_frozen BK860.out 0;have hfz14_1:=blk_frozen BK860.out 1;have hcz15_0 : w12.cell? ⟨gb861,0,none⟩ = some (.bool a1_0):=(blk_cell BK861.out 0).trans rfl;have hcz15_1 : w12.cell? ⟨gb861,1,none⟩ = some (.slice A1_1 l1_1.length c1_1):=(blk_cell BK861.out 1).trans rfl;have hfz15_0:=blk_frozen BK861.out 0;have hfz15_1:=blk_frozen BK861.out 1) | ((with_reducible refine gate_callee (f:=74) rfl ?_);refine goesL_ (some 14) rfl rfl Try.func74 (by kernel_rfl) rfl #[.slice A0_1 l0_1.length c0_1,.slice A1_1 l1_1.length c1_1] rfl (by (try simp only [List.map_toArray,List.map_cons,List.map_nil]);first | done | rfl | (simp only [List.length_drop,List.length_take];rfl)) ?_;(with_reducible refine (laws_eqIntS.calls k _ _ l0_1 _ _ l1_1 true _ ?side1 ?side2 ?side3 ?side4 A9.out).mono ?_);(case side1=>repeat (first | exact (Kd.C_below HR0_1.out HB.out) | (with_reducible refine Kd.C_alloc ?_ _) | (with_reducible refine Kd.C_drewN ?_ _) | (with_reducible refine Kd.C_drew ?_)));(case side2=>exact HC0_1.out);(case side3=>repeat (first | exact (Kd.C_below HR1_1.out HB.out) | (with_reducible refine Kd.C_alloc ?_ _) | (with_reducible refine Kd.C_drewN ?_ _) | (with_reducible refine Kd.C_drew ?_)));(case side4=>exact HC1_1.out);rintro e w' ⟨rfl,⟨nd,rfl⟩⟩;refine ⟨_,rfl,?_⟩))
  go_ret
  exact ⟨by first | rfl | (simp [errW_none,errW_some] <;> rfl) | (simp [*,errW_none,errW_some] <;> rfl),hs2 HB GE860 GE861⟩
 replace c10:=Bool.eq_false_iff.mpr c10;subst c10;have H1 : (some false) = some r:=by rw [if_neg (show ¬ (false = true) by decide)] at H;exact H
 clear H;have H:=H1;clear H1;obtain rfl:=Option.some.inj H
 go_enter Try.func145,Try.ntmps145
 go_wp2_with (first | ((with_reducible refine gate_dst (N:=2) rfl ?_);refine box_event ?hg (N:=2) ?hd (cs:=#[.bool a0_0,.slice A0_1 l0_1.length c0_1]) (t:=133) ?hr ?_;(case hd=>rfl);(case hg=>rfl);(case hr=>first | (go_simp;done) | (go_simp;rfl));intro gb860 hg w16 hbox hb;have n0_:=Aside0.mk (below_step (hs HB) hb);have n1_:=Aside0.mk (hbox);have n2_:=Aside0.mk ((by rw [hg];exact (below_size (hs HB)) : w.heap.size ≤ gb860));have n3_:=Aside0.mk ((by rw [hg];exact (below_size (hs HB)) : w.heap.size ≤ gb860));clear HB;have HB:=n0_;have BK860:=n1_;have GW860:=n2_;have GE860:=n3_;clear n0_ n1_ n2_ n3_;clear hb hbox hg) | ((with_reducible refine gate_dst (N:=3) rfl ?_);refine box_event ?hg (N:=3) ?hd (cs:=#[.bool a1_0,.slice A1_1 l1_1.length c1_1]) (t:=133) ?hr ?_;(case hd=>rfl);(case hg=>rfl);(case hr=>first | (go_simp;done) | (go_simp;rfl));intro gb861 hg w17 hbox hb;have n0_:=Aside0.mk (blk_below (g:=gb860) (o:=.cells #[.bool a0_0,.slice A0_1 l0_1.length c0_1] 133 (0,0)) (bs BK860) hb);have n1_:=Aside0.mk (below_step (hs1 HB GE860) hb);have n2_:=Aside0.mk (hbox);have n3_:=Aside0.mk ((by rw [hg];exact (below_size (hs1 HB GE860)) : w.heap.size ≤ gb861));have n4_:=Aside0.mk ((by rw [hg];exact (below_size (hs1 HB GE860)) : w.heap.size ≤ gb861));have n5_:=Aside0.mk ((by rw [hg];exact Nat.ne_of_lt (blk_lt (g:=gb860) (o:=.cells #[.bool a0_0,.slice A0_1 l0_1.length c0_1] 133 (0,0)) (bs BK860)) : gb860 ≠ gb861));have n6_:=Aside0.mk ((by rw [hg];exact Nat.ne_of_gt (blk_lt (g:=gb860) (o:=.cells #[.bool a0_0,.slice A0_1 l0_1.length c0_1] 133 (0,0)) (bs BK860)) : gb861 ≠ gb860));clear BK860;clear HB;have BK860:=n0_;have HB:=n1_;have BK861:=n2_;have GW861:=n3_;have GE861:=n4_;have NB860_861:=n5_;have NB861_860:=n6_;clear n0_ n1_ n2_ n3_ n4_ n5_ n6_;clear hb hbox hg;have hnb18:=NB860_861.out;have hnc18:=NB861_860.out;have hcz19_0 : w17.cell? ⟨gb860,0,none⟩ = some (.bool a0_0):=(blk_cell BK860.out 0).trans rfl;have hcz19_1 : w17.cell? ⟨gb860,1,none⟩ = some (.slice A0_1 l0_1.length c0_1):=(blk_cell BK860.out 1).trans rfl;have hfz19_0:=blk_frozen BK860.out 0;have hfz19_1:=blk_frozen BK860.out 1;have hcz20_0 : w17.cell? ⟨gb861,0,none⟩ = some (.bool a1_0):=(blk_cell BK861.out 0).trans rfl;have hcz20_1 : w17.cell? ⟨gb861,1,none⟩ = some (.slice A1_1 l1_1.length c1_1):=(blk_cell BK861.out 1).trans rfl;have hfz20_0:=blk_frozen BK861.out 0;have hfz20_1:=blk_frozen BK861.out 1) | ((with_reducible refine gate_callee (f:=74) rfl ?_);refine goesL_ (some 14) rfl rfl Try.func74 (by kernel_rfl) rfl #[.slice A0_1 l0_1.length c0_1,.slice A1_1 l1_1.length c1_1] rfl (by (try simp only [List.map_toArray,List.map_cons,List.map_nil]);first | done | rfl | (simp only [List.length_drop,List.length_take];rfl)) ?_;(with_reducible refine (laws_eqIntS.calls k _ _ l0_1 _ _ l1_1 false _ ?side1 ?side2 ?side3 ?side4 A9.out).mono ?_);(case side1=>repeat (first | exact (Kd.C_below HR0_1.out HB.out) | (with_reducible refine Kd.C_alloc ?_ _) | (with_reducible refine Kd.C_drewN ?_ _) | (with_reducible refine Kd.C_drew ?_)));(case side2=>exact HC0_1.out);(case side3=>repeat (first | exact (Kd.C_below HR1_1.out HB.out) | (with_reducible refine Kd.C_alloc ?_ _) | (with_reducible refine Kd.C_drewN ?_ _) | (with_reducible refine Kd.C_drew ?_)));(case side4=>exact HC1_1.out);rintro e w' ⟨rfl,⟨nd,rfl⟩⟩;refine ⟨_,rfl,?_⟩))
 go_ret
 exact ⟨by first | rfl | (simp [errW_none,errW_some] <;> rfl) | (simp [*,errW_none,errW_some] <;> rfl),hs2 HB GE860 GE861⟩
end Go.Proofs.Ytdolplcbokioaaa.PB
