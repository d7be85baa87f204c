/- FnExactPutAt: functions of the translation as Lean functions with what their calls come to, plain lemmas on them, and, at the end, the row. Parts of one proof, merged by a program of this session; each part's own sentence stands at its head. -/
import Derived.Test.YtdolplcbokioaaaMFnExactPutAtb
namespace Go.Proofs.Ytdolplcbokioaaa.PB
open Go.RowKit Go.Proofs.YtdolplcbokioaaaW.PrintWords Go.Proofs.YtdolplcbokioaaaW.PrintLast Go.Proofs.YtdolplcbokioaaaW.PrintMore
attribute [local go_sem] max2_int min2_int max_two min_two max_three min_three max_four min_four   -- for this text's walks alone
set_option linter.unusedVariables false
set_option linter.unusedSimpArgs false
def spec_l11Copy.l0 : Nat → Int → List (S133) → List (S133) → Option ((List (S133)))
 | 0,_,_,_=>none
 | k + 1,x4,x489000,x491000=>if x4 < (x489000.length : Int) then (if 0 ≤ x4 then ((some (([] : List Int) : List Int)).bind fun y492=>(if y492.length + ((rd_T133 x489000 x4).f1).length < 17592186044416 then (if x491000.length < 4398046511104 then (spec_l11Copy.l0 k (wrap64 (x4 + 1)) x489000 (x491000 ++ [(⟨(rd_T133 x489000 x4).f0,(y492 ++ ((rd_T133 x489000 x4).f1))⟩ : S133)])) else (none)) else (none))) else (none)) else (some x491000)
def spec_l11Copy.f (k : Nat) (l0_0 : List (S133)) : Option ((List (S133))):=spec_l11Copy.l0 k 0 l0_0 ([] : List (S133))
theorem spec_l11Copy.mono_l : ∀ k,(∀ y0 y1 y2,LeO (spec_l11Copy.l0 k y0 y1 y2) (spec_l11Copy.l0 (k + 1) y0 y1 y2))
 | 0=>fun _ _ _ r h=>by simp [spec_l11Copy.l0] at h
 | k + 1=>by
  have ih0:=spec_l11Copy.mono_l k;intro y0 y1 y2;unfold spec_l11Copy.l0
  repeat' first
  | (with_reducible exact ih0 _ _ _)
  | (with_reducible exact LeO.refl _)
  | (with_reducible exact LeO.none _)
  | (with_reducible refine LeO.ite ?_ ?_)
  | (with_reducible refine LeO.bind ?_ (fun _=>?_))
  | exact ih0 _ _ _
  | exact LeO.none _
  | refine LeO.ite ?_ ?_
  | refine LeO.bind ?_ (fun _=>?_)
theorem spec_l11Copy.mono : ∀ a0 k,LeO (spec_l11Copy.f k a0) (spec_l11Copy.f (k + 1) a0):=by
 intro a0 k;have ih0:=spec_l11Copy.mono_l k;unfold spec_l11Copy.f
 repeat' first
   | (with_reducible exact ih0 _ _ _)
   | (with_reducible exact LeO.refl _)
   | (with_reducible exact LeO.none _)
   | (with_reducible refine LeO.ite ?_ ?_)
   | (with_reducible refine LeO.bind ?_ (fun _=>?_))
   | exact ih0 _ _ _
   | exact LeO.none _
   | refine LeO.ite ?_ ?_
   | refine LeO.bind ?_ (fun _=>?_)
def spec_l11Copy.T5 : Bool × List (List Nat × List Nat):=(true,[([],[]),([0],[0]),([],[]),([2],[2]),([],[]),([3,4],[3,4]),([5],[5]),([6],[6]),([],[]),([],[]),([9],[9]),([],[]),([10,11],[10,11]),([12],[12]),([13],[13]),([8,14],[8,14]),([7,15],[7,15]),([16],[16]),([1,17,15],[1,17]),([0,1,2,3,4,5,6,7,8,9,10,11,12,13,14,15,16,17,18],[]),([19,18,18,0,1,2,3,4,5,6,7,8,9,10,11,12,13,14,15,16,17,18],[18,19])])
def spec_l11Copy.B5 : List Nat:=[0,1,0,4,0,28,60,124,0,0,512,0,3584,7680,15872,32512,65532,131068,262143,524287,1048575]
theorem spec_l11Copy.tab5 : rtab .any (opsOf Try.f98 5) = spec_l11Copy.T5:=by kernel_rfl
theorem spec_l11Copy.bits5 : waitsOk spec_l11Copy.T5.2 spec_l11Copy.B5 = true:=by kernel_rfl
set_option maxHeartbeats 8000000 in
set_option maxRecDepth 100000 in
theorem spec_l11Copy.calls (k : Nat) (A0_0 : Option Addr) (c0_0 : Nat) (l0_0 : List (S133)) (r : List (S133)) (w : World) (hr0_0 : Kd.C k133 w A0_0 l0_0.length l0_0) (hc0_0 : l0_0.length ≤ c0_0) (h : spec_l11Copy.f k l0_0 = some r) :
  Calls Try.prog 98 #[.agg #[.slice A0_0 l0_0.length c0_0]] w fun e w'=>∃ v0_ : Value,e = .returned (.agg #[v0_]) ∧ Kd.S k133 133 w' w.heap.size (fun _=>True) v0_ r ∧ Below w.heap.size w w':=by
 have hu44:=Try.underlying44;have hu133:=Try.underlying133;have HR0_0:=Aside0.mk hr0_0;have HC0_0:=Aside0.mk hc0_0;clear hr0_0 hc0_0;have HB:=Aside0.mk (Below.refl w.heap.size w);have H : (spec_l11Copy.l0 k 0 l0_0 ([] : List (S133))) = some r:=h;clear h;have H':=Aside0.mk H;clear H
 go_enter Try.func98,Try.ntmps98
 go_wp2_with (first | ((with_reducible refine gate_dst (N:=1) rfl ?_);refine box_event ?hg (N:=1) ?hd (cs:=#[.slice A0_0 l0_0.length c0_0]) (t:=44) ?hr ?_;(case hd=>rfl);(case hg=>rfl);(case hr=>first | (go_simp;done) | (go_simp;rfl));intro gb488 hg w2 hbox hb;have n0_:=Aside0.mk (below_step (hs HB) hb);have n1_:=Aside0.mk (hbox);have n2_:=Aside0.mk ((by rw [hg];exact (below_size (hs HB)) : w.heap.size ≤ gb488));have n3_:=Aside0.mk ((by rw [hg];exact (below_size (hs HB)) : w.heap.size ≤ gb488));clear HB;have HB:=n0_;have BK488:=n1_;have GW488:=n2_;have GE488:=n3_;clear n0_ n1_ n2_ n3_;clear hb hbox hg) | ((with_reducible refine gate_dst (N:=2) rfl ?_);refine box_event ?hg (N:=2) ?hd (cs:=#[.slice none 0 0]) (t:=44) ?hr ?_;(case hd=>rfl);(case hg=>rfl);(case hr=>first | (go_simp;done) | (go_simp;rfl));intro gb489 hg w3 hbox hb;have n0_:=Aside0.mk (blk_below (g:=gb488) (o:=.cells #[.slice A0_0 l0_0.length c0_0] 44 (0,0)) (bs BK488) hb);have n1_:=Aside0.mk (below_step (hs1 HB GE488) hb);have n2_:=Aside0.mk (hbox);have n3_:=Aside0.mk ((by rw [hg];exact (below_size (hs1 HB GE488)) : w.heap.size ≤ gb489));have n4_:=Aside0.mk ((by rw [hg];exact (below_size (hs1 HB GE488)) : w.heap.size ≤ gb489));have n5_:=Aside0.mk ((by rw [hg];exact Nat.ne_of_lt (blk_lt (g:=gb488) (o:=.cells #[.slice A0_0 l0_0.length c0_0] 44 (0,0)) (bs BK488)) : gb488 ≠ gb489));have n6_:=Aside0.mk ((by rw [hg];exact Nat.ne_of_gt (blk_lt (g:=gb488) (o:=.cells #[.slice A0_0 l0_0.length c0_0] 44 (0,0)) (bs BK488)) : gb489 ≠ gb488));clear BK488;clear HB;have BK488:=n0_;have HB:=n1_;have BK489:=n2_;have GW489:=n3_;have GE489:=n4_;have NB488_489:=n5_;have NB489_488:=n6_;clear n0_ n1_ n2_ n3_ n4_ n5_ n6_;clear hb hbox hg) | ((with_reducible refine gate_dst (N:=3) rfl ?_);refine box_event ?hg (N:=3) ?hd (cs:=#[.slice none 0 0]) (t:=44) ?hr ?_;(case hd=>rfl);(case hg=>rfl);(case hr=>first | (go_simp;done) | (go_simp;rfl));intro gb490 hg w4 hbox hb;have n0_:=Aside0.mk (blk_below (g:=gb488) (o:=.cells #[.slice A0_0 l0_0.length c0_0] 44 (0,0)) (bs BK488) hb);have n1_:=Aside0.mk (blk_below (g:=gb489) (o:=.cells #[.slice none 0 0] 44 (0,0)) (bs BK489) hb);have n2_:=Aside0.mk (below_step (hs2 HB GE488 GE489) hb);have n3_:=Aside0.mk (hbox);have n4_:=Aside0.mk ((by rw [hg];exact (below_size (hs2 HB GE488 GE489)) : w.heap.size ≤ gb490));have n5_:=Aside0.mk ((by rw [hg];exact (below_size (hs2 HB GE488 GE489)) : w.heap.size ≤ gb490));have n6_:=Aside0.mk ((by rw [hg];exact Nat.ne_of_lt (blk_lt (g:=gb488) (o:=.cells #[.slice A0_0 l0_0.length c0_0] 44 (0,0)) (bs BK488)) : gb488 ≠ gb490));have n7_:=Aside0.mk ((by rw [hg];exact Nat.ne_of_gt (blk_lt (g:=gb488) (o:=.cells #[.slice A0_0 l0_0.length c0_0] 44 (0,0)) (bs BK488)) : gb490 ≠ gb488));have n8_:=Aside0.mk ((by rw [hg];exact Nat.ne_of_lt (blk_lt (g:=gb489) (o:=.cells #[.slice none 0 0] 44 (0,0)) (bs BK489)) : gb489 ≠ gb490));have n9_:=Aside0.mk ((by rw [hg];exact Nat.ne_of_gt (blk_lt (g:=gb489) (o:=.cells #[.slice none 0 0] 44 (0,0)) (bs BK489)) : gb490 ≠ gb489));clear BK488;clear BK489;clear HB;have BK488:=n0_;have BK489:=n1_;have HB:=n2_;have BK490:=n3_;have GW490:=n4_;have GE490:=n5_;have NB488_490:=n6_;have NB490_488:=n7_;have NB489_490:=n8_;have NB490_489:=n9_;clear n0_ n1_ n2_ n3_ n4_ n5_ n6_ n7_ n8_ n9_;clear hb hbox hg;have hnb5:=NB490_488.out;have hnc5:=NB488_490.out;have hnb6:=NB490_489.out;have hnc6:=NB489_490.out;have hcz7_0 : w4.cell? ⟨gb490,0,none⟩ = some (.slice none 0 0):=(blk_cell BK490.out 0).trans rfl;have hfz7_0:=blk_frozen BK490.out 0));go_loopg [4] k (fun kq v4 w'=>∃ (x4_1 : Int) (x491000_1 : List (S133)) (u491000 : Value),v4 = .int .i64 x4_1 ∧ Aside0 (spec_l11Copy.l0 kq x4_1 l0_0 x491000_1 = some r) ∧ Aside0 (kq ≤ k) ∧ Aside0 (Kd.S k133 133 w' w.heap.size (fun _=>True) u491000 x491000_1) ∧ Aside0 (w'.heap[gb488]? = some (.cells #[(.slice A0_0 l0_0.length c0_0)] 44 (0,0))) ∧ Aside0 (w'.heap[gb489]? = some (.cells #[(.slice none 0 0)] 44 (0,0))) ∧ Aside0 (w'.heap[gb490]? = some (.cells #[u491000] 44 (0,0))) ∧ Aside0 (Below w.heap.size w w'));case atStart=>exact ⟨(0),(([] : List (S133))),(.slice none 0 0),(by first | rfl | (simp;done) | (simp [*];done)),H',⟨Nat.le_refl _⟩,⟨by first | exact Kd.S_nil _ _ _ _ _ | exact Kd.N_nil _ _ _ _ _ | exact Kd.V_nil _ _ _ _ _ | exact Kd.Q_nil _ _ _ _ _ | exact Kd.R_nil _ _ _ _ _⟩,⟨by (with_reducible repeat (first | refine blk_drewN ?_ _ | refine blk_drew ?_ | refine blk_alloc ?_ _));refine blk_far ?_ NB488_490.out _;(with_reducible repeat (first | refine blk_drewN ?_ _ | refine blk_drew ?_ | refine blk_alloc ?_ _));exact BK488.out⟩,⟨by (with_reducible repeat (first | refine blk_drewN ?_ _ | refine blk_drew ?_ | refine blk_alloc ?_ _));refine blk_far ?_ NB489_490.out _;(with_reducible repeat (first | refine blk_drewN ?_ _ | refine blk_drew ?_ | refine blk_alloc ?_ _));exact BK489.out⟩,⟨by (with_reducible repeat (first | refine blk_drewN ?_ _ | refine blk_drew ?_ | refine blk_alloc ?_ _));refine blk_put (cs:=#[.slice none 0 0]) ?_ 0 _ rfl;(with_reducible repeat (first | refine blk_drewN ?_ _ | refine blk_drew ?_ | refine blk_alloc ?_ _));exact BK490.out⟩,⟨hs3 HB GE488 GE489 GE490⟩⟩
 case round =>
  clear H'
  try clear p2
  try clear c5
  try clear c6
  try clear hcz7_0
  try clear hfz7_0
  obtain ⟨x4_1,x491000_1,u491000,rfl,HA,HK1,HO_491000,BK488,BK489,BK490,HB⟩:=hrel;cases gk with
  | zero=>exact absurd HA.out (by simp [spec_l11Copy.l0])
  | succ k1 =>
   have H:=HA.out;clear HA;simp only [spec_l11Copy.l0] at H
   by_cases c8 : x4_1 < (l0_0.length : Int)
   ·rw [if_pos c8] at H;have c8b0 : decide (x4_1 < (l0_0.length : Int)) = true:=decide_eq_true c8;clear c8
    by_cases c9 : 0 ≤ x4_1
    ·rw [if_pos c9] at H;have c9b0 : decide (0 ≤ x4_1) = true:=decide_eq_true c9;clear c9;obtain ⟨y492,hy492⟩ : ∃ y_ : List Int,y_ = (([] : List Int)):=⟨_,rfl⟩;replace H : (if y492.length + ((rd_T133 l0_0 x4_1).f1).length < 17592186044416 then (if x491000_1.length < 4398046511104 then (spec_l11Copy.l0 k1 (wrap64 (x4_1 + 1)) l0_0 (x491000_1 ++ [(⟨(rd_T133 l0_0 x4_1).f0,(y492 ++ ((rd_T133 l0_0 x4_1).f1))⟩ : S133)])) else (none)) else (none)) = some r:=by first | (rw [hy492];with_reducible exact H) | (have H2_:=(Option.bind_some _ _).symm.trans H;rw [hy492];with_reducible exact H2_) | (have H2_:=(Option.bind_some _ _).symm.trans H;with_reducible exact H2_) | with_reducible exact H | (rw [hy492];exact H) | exact H
     have Ny492:=Aside0.mk hy492;clear hy492
     by_cases c10 : y492.length + ((rd_T133 l0_0 x4_1).f1).length < 17592186044416
     ·rw [if_pos c10] at H;have LMc10:=Aside0.mk c10;clear c10;obtain ⟨y496,hy496⟩ : ∃ y_ : List Int,y_ = (y492 ++ ((rd_T133 l0_0 x4_1).f1)):=⟨_,rfl⟩;replace H : (if x491000_1.length < 4398046511104 then (spec_l11Copy.l0 k1 (wrap64 (x4_1 + 1)) l0_0 (x491000_1 ++ [(⟨(rd_T133 l0_0 x4_1).f0,y496⟩ : S133)])) else (none)) = some r:=by first | (rw [hy496];with_reducible exact H) | (have H2_:=(Option.bind_some _ _).symm.trans H;rw [hy496];with_reducible exact H2_) | (have H2_:=(Option.bind_some _ _).symm.trans H;with_reducible exact H2_) | with_reducible exact H | (rw [hy496];exact H) | exact H
      have Ny496:=Aside0.mk hy496;clear hy496
      by_cases c11 : x491000_1.length < 4398046511104
      ·rw [if_pos c11] at H;have LMc11:=Aside0.mk c11;clear c11;obtain ⟨y499,hy499⟩ : ∃ y_ : List (S133),y_ = (x491000_1 ++ [(⟨(rd_T133 l0_0 x4_1).f0,y496⟩ : S133)]):=⟨_,rfl⟩;replace H : (spec_l11Copy.l0 k1 (wrap64 (x4_1 + 1)) l0_0 y499) = some r:=by first | (rw [hy499];with_reducible exact H) | (have H2_:=(Option.bind_some _ _).symm.trans H;rw [hy499];with_reducible exact H2_) | (have H2_:=(Option.bind_some _ _).symm.trans H;with_reducible exact H2_) | with_reducible exact H | (rw [hy499];exact H) | exact H
       have Ny499:=Aside0.mk hy499;clear hy499;have H':=Aside0.mk H;clear H;have hnb12:=NB488_489.out;have hnc12:=NB489_488.out;have hnb13:=NB488_490.out;have hnc13:=NB490_488.out;have hcz14_0 : wr.cell? ⟨gb488,0,none⟩ = some (.slice A0_0 l0_0.length c0_0):=(blk_cell BK488.out 0).trans rfl;have hfz14_0:=blk_frozen BK488.out 0
       try go_wp2
       have n0_:=Aside0.mk (Kd.S_drew HO_491000.out);have n1_:=Aside0.mk (blk_drew BK488.out);have n2_:=Aside0.mk (blk_drew BK489.out);have n3_:=Aside0.mk (blk_drew BK490.out);have n4_:=Aside0.mk (below_drew1 HB.out);clear HO_491000;clear BK488;clear BK489;clear BK490;clear HB;have HO_491000:=n0_;have BK488:=n1_;have BK489:=n2_;have BK490:=n3_;have HB:=n4_;clear n0_ n1_ n2_ n3_ n4_;have p491 : 0 ≤ (x4_1 : Int):=of_decide_eq_true (by first | (with_reducible assumption) | assumption);have q491 : x4_1 < (l0_0.length : Int):=of_decide_eq_true (by first | (with_reducible assumption) | assumption);obtain ⟨ad491,A491_1,c491_1,e491,hx491_0,hx491_1,hl491_1,hi491_1⟩:=at_T133 HR0_0.out x4_1 p491 q491;have hw491_1:=hx491_1;have hw491_0:=hx491_0;cases e491;replace hx491_0:=(HB.out.cell (World.block_lt_of_cell? w _ hx491_0)).trans hx491_0;replace hx491_1:=(HB.out.cell (World.block_lt_of_cell? w _ hx491_1)).trans hx491_1;have HR491_1:=Aside0.mk hi491_1;have HC491_1:=Aside0.mk hl491_1;clear hi491_1 hl491_1;replace p491:=eq_true p491;replace q491:=eq_true q491;have p495 : 0 ≤ (x4_1 : Int):=of_decide_eq_true (by first | (with_reducible assumption) | assumption);have q495 : x4_1 < (l0_0.length : Int):=of_decide_eq_true (by first | (with_reducible assumption) | assumption);obtain ⟨ad495,A495_1,c495_1,e495,hx495_0,hx495_1,hl495_1,hi495_1⟩:=at_T133 HR0_0.out x4_1 p495 q495;have hw495_1:=hx495_1;have hw495_0:=hx495_0;obtain rfl : ad491 = ad495:=(by injection e495);replace hx495_0:=(HB.out.cell (World.block_lt_of_cell? w _ hx495_0)).trans hx495_0;replace hx495_1:=(HB.out.cell (World.block_lt_of_cell? w _ hx495_1)).trans hx495_1;have HR495_1:=Aside0.mk hi495_1;have HC495_1:=Aside0.mk hl495_1;clear hi495_1 hl495_1;replace p495:=eq_true p495;replace q495:=eq_true q495;have ea_:=Option.some.inj (hx491_1.symm.trans hx495_1);injection ea_ with ea_ en_ ec_;subst ea_;subst ec_;clear en_;refine start_ (n:=21) (S:=fun w'=>w'.cell? ⟨gb490,0,none⟩ = some (u491000) ∧ w'.cell? ⟨gb488,0,none⟩ = some (.slice (some ad491) l0_0.length c0_0) ∧ w'.cell? (ad491.add ((x4_1).toNat * 2)) = some (.bool ((rd_T133 l0_0 x4_1).f0)) ∧ w'.cell? ⟨(ad491.add ((x4_1).toNat * 2)).block,(ad491.add ((x4_1).toNat * 2)).off + 1,none⟩ = some (.slice A491_1 ((rd_T133 l0_0 x4_1).f1).length c491_1) ∧ w'.cell? (ad491.add ((x4_1).toNat * 2)) = some (.bool ((rd_T133 l0_0 x4_1).f0)) ∧ w'.cell? ⟨(ad491.add ((x4_1).toNat * 2)).block,(ad491.add ((x4_1).toNat * 2)).off + 1,none⟩ = some (.slice A491_1 ((rd_T133 l0_0 x4_1).f1).length c491_1)) (ds:=[20]) #[false,false,false,false,false,false,false,false,false,false,false,false,false,false,false,false,false,false,false,false,false] (by kernel_rfl) rfl rfl ⟨(blk_cell BK490.out 0).trans rfl,(blk_cell BK488.out 0).trans rfl,((HB.out.cell (World.block_lt_of_cell? w _ hw491_0)).trans hw491_0),((HB.out.cell (World.block_lt_of_cell? w _ hw491_1)).trans hw491_1),((HB.out.cell (World.block_lt_of_cell? w _ hw495_0)).trans hw495_0),((HB.out.cell (World.block_lt_of_cell? w _ hw495_1)).trans hw495_1)⟩ (fun hHeld=>?_);refine with_tabW spec_l11Copy.tab5 spec_l11Copy.bits5 (fun HT_ HW_=>?_);generalize wr.drew = w15 at HO_491000 BK488 BK489 BK490 HB HR491_1 HR495_1 hx491_0 hx491_1 hx495_0 hx495_1 hHeld ⊢;refine pure_ (i:=0) (N:=some 13) (v:=?_) (a':=?_) #[true,false,false,false,false,false,false,false,false,false,false,false,false,false,false,false,false,false,false,false,false] rfl rfl (any_of HT_.out (by kernel_rfl)) (fun _ _ _ h=>h) (Or.inl ⟨by rfl,?_⟩) ?_ ?_;rotate_left
       ·intro w';go_simp;with_reducible rfl
       rotate_left
       ·simp only [Act.put,List.setIfInBounds_toArray,List.set_cons_zero,List.set_cons_succ,i64_w,i32_w];rfl
       refine pure_ (i:=2) (N:=some 15) (v:=?_) (a':=?_) #[true,false,true,false,false,false,false,false,false,false,false,false,false,false,false,false,false,false,false,false,false] rfl rfl (any_of HT_.out (by kernel_rfl)) (fun _ _ _ h=>h) (Or.inl ⟨by rfl,?_⟩) ?_ ?_;rotate_left
       ·intro w';go_simp;with_reducible rfl
       rotate_left
       ·simp only [Act.put,List.setIfInBounds_toArray,List.set_cons_zero,List.set_cons_succ,i64_w,i32_w];rfl
       refine pure_ (i:=4) (N:=some 17) (v:=?_) (a':=?_) #[true,false,true,false,true,false,false,false,false,false,false,false,false,false,false,false,false,false,false,false,false] rfl rfl (any_of HT_.out (by kernel_rfl)) (fun _ _ _ h=>h) (Or.inl ⟨by rfl,?_⟩) ?_ ?_;rotate_left
       ·intro w';go_simp;with_reducible rfl
       rotate_left
       ·simp only [Act.put,List.setIfInBounds_toArray,List.set_cons_zero,List.set_cons_succ,i64_w,i32_w];rfl
       refine pure_ (i:=9) (N:=some 22) (v:=?_) (a':=?_) #[true,false,true,false,true,false,false,false,false,true,false,false,false,false,false,false,false,false,false,false,false] rfl rfl (any_of HT_.out (by kernel_rfl)) (fun _ _ _ h=>h) (Or.inl ⟨by rfl,?_⟩) ?_ ?_;rotate_left
       ·intro w';go_simp;with_reducible rfl
       rotate_left
       ·simp only [Act.put,List.setIfInBounds_toArray,List.set_cons_zero,List.set_cons_succ,i64_w,i32_w];rfl
       refine pure_ (i:=11) (N:=some 24) (v:=?_) (a':=?_) #[true,false,true,false,true,false,false,false,false,true,false,true,false,false,false,false,false,false,false,false,false] rfl rfl (any_of HT_.out (by kernel_rfl)) (fun _ _ _ h=>h) (Or.inl ⟨by rfl,?_⟩) ?_ ?_;rotate_left
       ·intro w';go_simp;with_reducible rfl
       rotate_left
       ·simp only [Act.put,List.setIfInBounds_toArray,List.set_cons_zero,List.set_cons_succ,i64_w,i32_w];rfl
       refine take_ (i:=1) (N:=some 14) (v:=?_) (a':=?_) #[true,true,true,false,true,false,false,false,false,true,false,true,false,false,false,false,false,false,false,false,false] rfl rfl (take_ofW HT_.out HW_.out (by kernel_rfl)) (fun _ _ _ h=>h) (Or.inl ⟨by rfl,?_⟩) hHeld ?_ ?_;rotate_left
       ·rintro w' ⟨s0,s1,s2,s3,s4,s5⟩;go_simp;with_reducible rfl
       rotate_left
       ·simp only [Act.put,List.setIfInBounds_toArray,List.set_cons_zero,List.set_cons_succ,i64_w,i32_w];rfl
       refine take_ (i:=3) (N:=some 16) (v:=?_) (a':=?_) #[true,true,true,true,true,false,false,false,false,true,false,true,false,false,false,false,false,false,false,false,false] rfl rfl (take_ofW HT_.out HW_.out (by kernel_rfl)) (fun _ _ _ h=>h) (Or.inl ⟨by rfl,?_⟩) hHeld ?_ ?_;rotate_left
       ·rintro w' ⟨s0,s1,s2,s3,s4,s5⟩;go_simp;with_reducible rfl
       rotate_left
       ·simp only [Act.put,List.setIfInBounds_toArray,List.set_cons_zero,List.set_cons_succ,i64_w,i32_w];rfl
       refine pure_ (i:=5) (N:=some 18) (v:=?_) (a':=?_) #[true,true,true,true,true,true,false,false,false,true,false,true,false,false,false,false,false,false,false,false,false] rfl rfl (any_of HT_.out (by kernel_rfl)) (fun _ _ _ h=>h) (Or.inl ⟨by rfl,?_⟩) ?_ ?_;rotate_left
       ·intro w';go_simp;with_reducible rfl
       rotate_left
       ·simp only [Act.put,List.setIfInBounds_toArray,List.set_cons_zero,List.set_cons_succ,i64_w,i32_w];rfl
       refine pure_ (i:=6) (N:=some 19) (v:=?_) (a':=?_) #[true,true,true,true,true,true,true,false,false,true,false,true,false,false,false,false,false,false,false,false,false] rfl rfl (any_of HT_.out (by kernel_rfl)) (fun _ _ _ h=>h) (Or.inl ⟨by rfl,?_⟩) ?_ ?_;rotate_left
       ·intro w';go_simp;with_reducible rfl
       rotate_left
       ·simp only [Act.put,List.setIfInBounds_toArray,List.set_cons_zero,List.set_cons_succ,i64_w,i32_w];rfl
       refine take_ (i:=7) (N:=some 20) (v:=?_) (a':=?_) #[true,true,true,true,true,true,true,true,false,true,false,true,false,false,false,false,false,false,false,false,false] rfl rfl (take_ofW HT_.out HW_.out (by kernel_rfl)) (fun _ _ _ h=>h) (Or.inl ⟨by rfl,?_⟩) hHeld ?_ ?_;rotate_left
       ·rintro w' ⟨s0,s1,s2,s3,s4,s5⟩;go_simp;with_reducible rfl
       rotate_left
       ·simp only [Act.put,List.setIfInBounds_toArray,List.set_cons_zero,List.set_cons_succ,i64_w,i32_w];rfl
       refine take_ (i:=10) (N:=some 23) (v:=?_) (a':=?_) #[true,true,true,true,true,true,true,true,false,true,true,true,false,false,false,false,false,false,false,false,false] rfl rfl (take_ofW HT_.out HW_.out (by kernel_rfl)) (fun _ _ _ h=>h) (Or.inl ⟨by rfl,?_⟩) hHeld ?_ ?_;rotate_left
       ·rintro w' ⟨s0,s1,s2,s3,s4,s5⟩;go_simp;with_reducible rfl
       rotate_left
       ·simp only [Act.put,List.setIfInBounds_toArray,List.set_cons_zero,List.set_cons_succ,i64_w,i32_w];rfl
       refine pure_ (i:=12) (N:=some 25) (v:=?_) (a':=?_) #[true,true,true,true,true,true,true,true,false,true,true,true,true,false,false,false,false,false,false,false,false] rfl rfl (any_of HT_.out (by kernel_rfl)) (fun _ _ _ h=>h) (Or.inl ⟨by rfl,?_⟩) ?_ ?_;rotate_left
       ·intro w';go_simp;with_reducible rfl
       rotate_left
       ·simp only [Act.put,List.setIfInBounds_toArray,List.set_cons_zero,List.set_cons_succ,i64_w,i32_w];rfl
       refine pure_ (i:=13) (N:=some 26) (v:=?_) (a':=?_) #[true,true,true,true,true,true,true,true,false,true,true,true,true,true,false,false,false,false,false,false,false] rfl rfl (any_of HT_.out (by kernel_rfl)) (fun _ _ _ h=>h) (Or.inl ⟨by rfl,?_⟩) ?_ ?_;rotate_left
       ·intro w';go_simp;with_reducible rfl
       rotate_left
       ·simp only [Act.put,List.setIfInBounds_toArray,List.set_cons_zero,List.set_cons_succ,i64_w,i32_w];rfl
       refine take_ (i:=14) (N:=some 27) (v:=?_) (a':=?_) #[true,true,true,true,true,true,true,true,false,true,true,true,true,true,true,false,false,false,false,false,false] rfl rfl (take_ofW HT_.out HW_.out (by kernel_rfl)) (fun _ _ _ h=>h) (Or.inl ⟨by rfl,?_⟩) hHeld ?_ ?_;rotate_left
       ·rintro w' ⟨s0,s1,s2,s3,s4,s5⟩;go_simp;with_reducible rfl
       rotate_left
       ·simp only [Act.put,List.setIfInBounds_toArray,List.set_cons_zero,List.set_cons_succ,i64_w,i32_w];rfl
       refine one_ (i:=8) (N:=some 21) #[true,true,true,true,true,true,true,true,true,true,true,true,true,true,true,false,false,false,false,false,false] rfl rfl (one_of HT_.out (by kernel_rfl)) (by decide) (fun K hK=>?_);refine Kd.R_lit_step (Kd.int .i64) _ 3 ?hg (N:=21) ?hd (xs:=([] : List Int)) (inner:=[]) (ok:=fun _=>True) (okp:=fun _=>True) ?hr ?hp (fun _ hk=>hk) trivial (Below.refl _ _) (Nat.le_refl _) (by simp) ?_;(case hd=>rfl);(case hg=>rfl);(case hr=>first | (go_simp;done) | (go_simp;rfl));(case hp=>exact (Reps.none _ _));intro v493 w16 ho17 hb hg_ hnew_;clear hg_ hnew_
       (first | rw [← Ny492.out] at ho17 | (simp only [Int.reduceToNat] at ho17;rw [← Ny492.out] at ho17))
       have n0_:=Aside0.mk (Kd.S_elder' (ss HO_491000) (Kd.R_base ho17) hb);have n1_:=Aside0.mk (Kd.R_lower ho17 (below_size (hs3 HB GE488 GE489 GE490)));have n2_:=Aside0.mk (blk_below (g:=gb488) (o:=.cells #[.slice (some ad491) l0_0.length c0_0] 44 (0,0)) (bs BK488) hb);have n3_:=Aside0.mk (blk_below (g:=gb489) (o:=.cells #[.slice none 0 0] 44 (0,0)) (bs BK489) hb);have n4_:=Aside0.mk (blk_below (g:=gb490) (o:=.cells #[u491000] 44 (0,0)) (bs BK490) hb);have n5_:=Aside0.mk (below_step (hs3 HB GE488 GE489 GE490) hb);clear HO_491000;clear BK488;clear BK489;clear BK490;clear HB;have HO_491000:=n0_;have HO494:=n1_;have BK488:=n2_;have BK489:=n3_;have BK490:=n4_;have HB:=n5_;clear n0_ n1_ n2_ n3_ n4_ n5_;clear hb ho17;refine hK.out _ _ ⟨(blk_cell BK490.out 0).trans rfl,(blk_cell BK488.out 0).trans rfl,((HB.out.cell (World.block_lt_of_cell? w _ hw491_0)).trans hw491_0),((HB.out.cell (World.block_lt_of_cell? w _ hw491_1)).trans hw491_1),((HB.out.cell (World.block_lt_of_cell? w _ hw495_0)).trans hw495_0),((HB.out.cell (World.block_lt_of_cell? w _ hw495_1)).trans hw495_1)⟩ (fun hHeld=>?_);clear hK K;refine norm_ (a':=?_) ?_ ?_;rotate_left
       ·show Act.put _ (some 21) _ = _;simp only [Act.put,List.setIfInBounds_toArray,List.set_cons_zero,List.set_cons_succ,i64_w,i32_w];rfl
       refine one_ (i:=15) (N:=some 28) #[true,true,true,true,true,true,true,true,true,true,true,true,true,true,true,true,false,false,false,false,false] rfl rfl (one_of HT_.out (by kernel_rfl)) (by decide) (fun K hK=>?_);refine Kd.R_append_rows_step (Kd.int .i64) (w0:=w) w.heap.size (by rfl) (.tmp 21) (.tmp 27) 26 3 (.int .i64 0) 8 rfl Try.underlying26 info3 rfl (by decide) (by omega) v493 y492 ((rd_T133 l0_0 x4_1).f1) _ _ _ (fun _=>True) (fun _=>False) rfl rfl ?aO ?aR (fun _ _ h=>h) (fun _ h=>h.elim) ?aF ?aB ?aS ?aL ?_
       (case aR=>repeat (first | exact (Kd.C_below HR495_1.out HB.out) | (with_reducible refine Kd.C_alloc ?_ _) | (with_reducible refine Kd.C_drewN ?_ _) | (with_reducible refine Kd.C_drew ?_)))
       (case aB=>exact (hs3 HB GE488 GE489 GE490))
       (case aF=>exact (fun _ _=>trivial))
       (case aO=>exact (rs HO494))
       (case aS=>exact (below_size (hs3 HB GE488 GE489 GE490)))
       (case aL=>have:=LMc10.out;omega)
       intro v497 w18 ho hb hg hat;rw [← Ny496.out] at ho;have n0_:=Aside0.mk (Kd.S_after (ok:=(fun _=>True)) (ss HO_491000) hg hat);have n1_:=Aside0.mk (blk_grown (g:=gb488) (o:=.cells #[.slice (some ad491) l0_0.length c0_0] 44 (0,0)) (bs BK488) hg (Kd.R_ne HO494.out BK488.out (by decide)));have n2_:=Aside0.mk (blk_grown (g:=gb489) (o:=.cells #[.slice none 0 0] 44 (0,0)) (bs BK489) hg (Kd.R_ne HO494.out BK489.out (by decide)));have n3_:=Aside0.mk (blk_grown (g:=gb490) (o:=.cells #[u491000] 44 (0,0)) (bs BK490) hg (Kd.R_ne HO494.out BK490.out (by decide)));have n4_:=Aside0.mk (hb);have n5_:=Aside0.mk (ho);clear HO_491000;clear BK488;clear BK489;clear BK490;clear HB;clear HO494;have HO_491000:=n0_;have BK488:=n1_;have BK489:=n2_;have BK490:=n3_;have HB:=n4_;have HO498:=n5_;clear n0_ n1_ n2_ n3_ n4_ n5_;clear ho hb hg hat;obtain ⟨Ao19,co19,eo19⟩:=Kd.R_slice HO498.out
       (first | subst eo19 | (injection eo19 with f1_ f2_ f3_;have f4_:=f1_.symm;have f5_:=f3_.symm;clear f1_ f2_ f3_;subst f4_;subst f5_))
       refine hK.out _ _ ⟨(blk_cell BK490.out 0).trans rfl,(blk_cell BK488.out 0).trans rfl,((HB.out.cell (World.block_lt_of_cell? w _ hw491_0)).trans hw491_0),((HB.out.cell (World.block_lt_of_cell? w _ hw491_1)).trans hw491_1),((HB.out.cell (World.block_lt_of_cell? w _ hw495_0)).trans hw495_0),((HB.out.cell (World.block_lt_of_cell? w _ hw495_1)).trans hw495_1)⟩ (fun hHeld=>?_);clear hK K;refine norm_ (a':=?_) ?_ ?_;rotate_left
       ·show Act.put _ (some 28) _ = _;simp only [Act.put,List.setIfInBounds_toArray,List.set_cons_zero,List.set_cons_succ,i64_w,i32_w];rfl
       refine pure_ (i:=16) (N:=some 29) (v:=?_) (a':=?_) #[true,true,true,true,true,true,true,true,true,true,true,true,true,true,true,true,true,false,false,false,false] rfl rfl (any_of HT_.out (by kernel_rfl)) (fun _ _ _ h=>h) (Or.inl ⟨by rfl,?_⟩) ?_ ?_;rotate_left
       ·intro w';go_simp;with_reducible rfl
       rotate_left
       ·simp only [Act.put,List.setIfInBounds_toArray,List.set_cons_zero,List.set_cons_succ,i64_w,i32_w];rfl
       refine one_ (i:=17) (N:=some 30) #[true,true,true,true,true,true,true,true,true,true,true,true,true,true,true,true,true,true,false,false,false] rfl rfl (one_of HT_.out (by kernel_rfl)) (by decide) (fun K hK=>?_);refine value_ (w1:=?_) (v:=?_) (by rfl) rfl ?_ ?_;rotate_left 2
       ·go_simp;constructor
        ·rfl
        rfl
       refine hK.out _ _ ⟨(blk_cell (blk_alloc BK490.out _) 0).trans rfl,(blk_cell (blk_alloc BK488.out _) 0).trans rfl,(World.cell?_alloc_lt _ _ _ (World.block_lt_of_cell? _ _ (((HB.out.cell (World.block_lt_of_cell? w _ hw491_0)).trans hw491_0)))).trans (((HB.out.cell (World.block_lt_of_cell? w _ hw491_0)).trans hw491_0)),(World.cell?_alloc_lt _ _ _ (World.block_lt_of_cell? _ _ (((HB.out.cell (World.block_lt_of_cell? w _ hw491_1)).trans hw491_1)))).trans (((HB.out.cell (World.block_lt_of_cell? w _ hw491_1)).trans hw491_1)),(World.cell?_alloc_lt _ _ _ (World.block_lt_of_cell? _ _ (((HB.out.cell (World.block_lt_of_cell? w _ hw495_0)).trans hw495_0)))).trans (((HB.out.cell (World.block_lt_of_cell? w _ hw495_0)).trans hw495_0)),(World.cell?_alloc_lt _ _ _ (World.block_lt_of_cell? _ _ (((HB.out.cell (World.block_lt_of_cell? w _ hw495_1)).trans hw495_1)))).trans (((HB.out.cell (World.block_lt_of_cell? w _ hw495_1)).trans hw495_1))⟩ (fun hHeld=>?_);clear hK K;refine norm_ (a':=?_) ?_ ?_;rotate_left
       ·show Act.put _ (some 30) _ = _;simp only [Act.put,List.setIfInBounds_toArray,List.set_cons_zero,List.set_cons_succ,i64_w,i32_w];rfl
       refine one_ (i:=18) (N:=some 31) #[true,true,true,true,true,true,true,true,true,true,true,true,true,true,true,true,true,true,true,false,false] rfl rfl (one_of HT_.out (by kernel_rfl)) (by decide) (fun K hK=>?_);refine Kd.S_append_step k133 (w0:=w) w.heap.size (by rfl) (.tmp 14) (.tmp 30) 42 133 (.agg #[(.bool false),(.slice none 0 0)]) 32 rfl Try.underlying42 info133 rfl (by decide) (by omega) u491000 x491000_1 (⟨(rd_T133 l0_0 x4_1).f0,y496⟩ : S133) [.bool ((rd_T133 l0_0 x4_1).f0),.slice Ao19 y496.length co19] (fun _=>True) (fun k_=>some k_ = (.slice Ao19 y496.length co19 : Value).ownBlock) rfl rfl ?aP (fun k_ hk_=>((Kd.R_mono (ok':=fun k_=>((fun _=>True)) k_ ∧ some k_ ≠ (u491000 : Value).ownBlock) (Kd.R_apart' (HO498.out) (Kd.S_typed HO_491000.out) (by decide)) (fun k_ hk=>⟨trivial,hk.2⟩))).1 k_ hk_.symm) ?aF ?aO ?aB ?aS ?aL ?_
       (case aP=>exact k133_mkM _ _ _ (⟨(rd_T133 l0_0 x4_1).f0,y496⟩ : S133) (Kd.R_mono (Kd.R_tight rfl (Kd.R_mono (ok':=fun k_=>((fun _=>True)) k_ ∧ some k_ ≠ (u491000 : Value).ownBlock) (Kd.R_apart' (HO498.out) (Kd.S_typed HO_491000.out) (by decide)) (fun k_ hk=>⟨trivial,hk.2⟩))) (fun _ h_=>h_)))
       (case aB=>exact (hs3 HB GE488 GE489 GE490))
       (case aF=>exact (fun _ _=>trivial))
       (case aO=>exact (by (with_reducible repeat (first | apply Kd.S_alloc | apply Kd.S_drewN | apply Kd.S_drew));exact Kd.S_mono HO_491000.out (fun k_ hk=>⟨trivial,fun e_=>hk.2 e_⟩)))
       (case aS=>exact (below_size (hs3 HB GE488 GE489 GE490)))
       (case aL=>have:=LMc11.out;omega)
       intro v500 w20 ho hb hg hat;rw [← Ny499.out] at ho;have n0_:=Aside0.mk (blk_grown (g:=gb488) (o:=.cells #[.slice (some ad491) l0_0.length c0_0] 44 (0,0)) (bs BK488) hg (Kd.S_ne HO_491000.out BK488.out (by decide)));have n1_:=Aside0.mk (blk_grown (g:=gb489) (o:=.cells #[.slice none 0 0] 44 (0,0)) (bs BK489) hg (Kd.S_ne HO_491000.out BK489.out (by decide)));have n2_:=Aside0.mk (blk_grown (g:=gb490) (o:=.cells #[u491000] 44 (0,0)) (bs BK490) hg (Kd.S_ne HO_491000.out BK490.out (by decide)));have n3_:=Aside0.mk (hb);have n4_:=Aside0.mk (ho);clear BK488;clear BK489;clear BK490;clear HB;clear HO_491000;clear HO498;have BK488:=n0_;have BK489:=n1_;have BK490:=n2_;have HB:=n3_;have HO501:=n4_;clear n0_ n1_ n2_ n3_ n4_;clear ho hb hg hat;obtain ⟨Ao21,co21,eo21⟩:=Kd.S_slice HO501.out
       (first | subst eo21 | (injection eo21 with f1_ f2_ f3_;have f4_:=f1_.symm;have f5_:=f3_.symm;clear f1_ f2_ f3_;subst f4_;subst f5_))
       refine hK.out _ _ ⟨(blk_cell BK490.out 0).trans rfl,(blk_cell BK488.out 0).trans rfl,((HB.out.cell (World.block_lt_of_cell? w _ hw491_0)).trans hw491_0),((HB.out.cell (World.block_lt_of_cell? w _ hw491_1)).trans hw491_1),((HB.out.cell (World.block_lt_of_cell? w _ hw495_0)).trans hw495_0),((HB.out.cell (World.block_lt_of_cell? w _ hw495_1)).trans hw495_1)⟩ (fun hHeld=>?_);clear hK K;refine norm_ (a':=?_) ?_ ?_;rotate_left
       ·show Act.put _ (some 31) _ = _;simp only [Act.put,List.setIfInBounds_toArray,List.set_cons_zero,List.set_cons_succ,i64_w,i32_w];rfl
       refine pure_ (i:=19) (N:=some 32) (v:=?_) (a':=?_) #[true,true,true,true,true,true,true,true,true,true,true,true,true,true,true,true,true,true,true,true,false] rfl rfl (any_of HT_.out (by kernel_rfl)) (fun _ _ _ h=>h) (Or.inl ⟨by rfl,?_⟩) ?_ ?_;rotate_left
       ·intro w';go_simp;with_reducible rfl
       rotate_left
       ·simp only [Act.put,List.setIfInBounds_toArray,List.set_cons_zero,List.set_cons_succ,i64_w,i32_w];rfl
       refine last_ (i:=20) (N:=none) #[true,true,true,true,true,true,true,true,true,true,true,true,true,true,true,true,true,true,true,true,true] rfl rfl (one_of HT_.out (by kernel_rfl)) (by decide) (fun K hK=>?_);have hs22 : w20.cell? ⟨gb490,0,none⟩ = some (u491000):=(blk_cell BK490.out 0).trans rfl;have hfs22:=blk_frozen BK490.out 0;have hns22_0:=NB488_490.out;have hns22_1:=NB489_490.out;have hms22_0:=NB490_488.out;have hms22_1:=NB490_489.out;refine skip_ (w1:=?_) (by rfl) rfl ?_ ?_;rotate_left
       ·go_simp;rfl
       refine hK.out _ _ ?_;clear hK K;refine done_ (done_of HT_.out (by kernel_rfl)) ?_
       try go_wp2
       go_roundg k1;case measure=>have:=HK1.out;omega
       case rel=>exact ⟨(wrap64 (x4_1 + 1)),(y499),(.slice Ao21 y499.length co21),(by first | rfl | (simp;done) | (simp [*];done)),H',⟨by have:=HK1.out;omega⟩,⟨by (with_reducible repeat (first | apply Kd.S_alloc | apply Kd.S_drewN | apply Kd.S_drew));exact Kd.S_mono (Kd.S_far (p:=⟨gb490,0,none⟩) (Kd.S_types HO501.out BK490.out (by decide)) (fun _ hk=>hk.2) (.slice Ao21 y499.length co21)) (fun _ hk=>trivial)⟩,⟨by (with_reducible repeat (first | refine blk_drewN ?_ _ | refine blk_drew ?_ | refine blk_alloc ?_ _));refine blk_far ?_ NB488_490.out _;(with_reducible repeat (first | refine blk_drewN ?_ _ | refine blk_drew ?_ | refine blk_alloc ?_ _));exact BK488.out⟩,⟨by (with_reducible repeat (first | refine blk_drewN ?_ _ | refine blk_drew ?_ | refine blk_alloc ?_ _));refine blk_far ?_ NB489_490.out _;(with_reducible repeat (first | refine blk_drewN ?_ _ | refine blk_drew ?_ | refine blk_alloc ?_ _));exact BK489.out⟩,⟨by (with_reducible repeat (first | refine blk_drewN ?_ _ | refine blk_drew ?_ | refine blk_alloc ?_ _));refine blk_put (cs:=#[u491000]) ?_ 0 _ rfl;(with_reducible repeat (first | refine blk_drewN ?_ _ | refine blk_drew ?_ | refine blk_alloc ?_ _));exact BK490.out⟩,⟨hs3 HB GE488 GE489 GE490⟩⟩
      rw [if_neg c11] at H;exact absurd H (by simp)
     rw [if_neg c10] at H;exact absurd H (by simp)
    rw [if_neg c9] at H;exact absurd H (by simp)
   rw [if_neg c8] at H;have c8b0 : decide (x4_1 < (l0_0.length : Int)) = false:=decide_eq_false c8;clear c8;obtain rfl:=Option.some.inj H;have hnb23:=NB488_489.out;have hnc23:=NB489_488.out;have hnb24:=NB488_490.out;have hnc24:=NB490_488.out;have hcz25_0 : wr.cell? ⟨gb488,0,none⟩ = some (.slice A0_0 l0_0.length c0_0):=(blk_cell BK488.out 0).trans rfl;have hfz25_0:=blk_frozen BK488.out 0;have hnb26:=NB490_489.out;have hnc26:=NB489_490.out;have hcz27_0 : wr.cell? ⟨gb490,0,none⟩ = some (u491000):=(blk_cell BK490.out 0).trans rfl;have hfz27_0:=blk_frozen BK490.out 0;obtain ⟨Ao28,co28,eo28⟩:=Kd.S_slice HO_491000.out;subst eo28;have hcz29_0 : wr.cell? ⟨gb489,0,none⟩ = some (.slice none 0 0):=(blk_cell BK489.out 0).trans rfl;have hfz29_0:=blk_frozen BK489.out 0
   go_wp2
   refine bodyPost_ret (results_cell_row rfl _ _ gb489 44 #[.slice Ao28 x491000_1.length co28] (0,0) _ rfl (by (with_reducible repeat (first | refine blk_drewN ?_ _ | refine blk_drew ?_ | refine blk_alloc ?_ _));refine blk_put (cs:=#[.slice none 0 0]) ?_ 0 _ rfl;(with_reducible repeat (first | refine blk_drewN ?_ _ | refine blk_drew ?_ | refine blk_alloc ?_ _));exact BK489.out) Try.underlying44 rfl (by kernel_rfl)) rfl ?_;exact ⟨_,by first | rfl | (simp [errW_none,errW_some] <;> rfl) | (simp [*,errW_none,errW_some] <;> rfl),by (with_reducible repeat (first | apply Kd.S_alloc | apply Kd.S_drewN | apply Kd.S_drew));exact Kd.S_mono (Kd.S_far (p:=⟨gb489,0,none⟩) (Kd.S_types HO_491000.out BK489.out (by decide)) (fun _ hk=>hk.2) (.slice Ao28 x491000_1.length co28)) (fun _ hk=>trivial),hs3 HB GE488 GE489 GE490⟩
end Go.Proofs.Ytdolplcbokioaaa.PB

namespace Go.Proofs.Ytdolplcbokioaaa.PB
open Go.RowKit Go.Proofs.YtdolplcbokioaaaW.PrintWords Go.Proofs.YtdolplcbokioaaaW.PrintLast Go.Proofs.YtdolplcbokioaaaW.PrintMore
attribute [local go_sem] max2_int min2_int max_two min_two max_three min_three max_four min_four   -- for this text's walks alone
set_option linter.unusedVariables false
set_option linter.unusedSimpArgs false
mutual
def spec_ArenaOk.l0 : Nat → Int → List (S133) → Option (Bool)
 | 0,_,_=>none
 | k + 1,x3,x503000=>if x3 < (x503000.length : Int) then (if 0 ≤ x3 then (if (((rd_T133 x503000 x3).f1).length : Int) = 4 then (spec_ArenaOk.l1 k x3 0 x503000 ((rd_T133 x503000 x3).f0) ((rd_T133 x503000 x3).f1)) else (some false)) else (none)) else (some true)
def spec_ArenaOk.l1 : Nat → Int → Int → List (S133) → Bool → List Int → Option (Bool)
 | 0,_,_,_,_,_=>none
 | k + 1,x3,x5,x503000,x505000,x505001=>if x5 < 4 then (if 0 ≤ x5 then (if x5 < (x505001.length : Int) then (if x505000 = true then (if (rd x505001 x5) < 0 then (some false) else (spec_ArenaOk.l1 k x3 (wrap64 (x5 + 1)) x503000 x505000 x505001)) else (if (rd x505001 x5) = (-1) then (spec_ArenaOk.l1 k x3 (wrap64 (x5 + 1)) x503000 x505000 x505001) else ((spec_l01In.f (rd x505001 x5) 0 (wrap64 (x3 - 1))).bind fun t506=>(if t506 = true then (if 0 ≤ (rd x505001 x5) then (if (rd x505001 x5) < (x503000.length : Int) then (if ((rd_T133 x503000 (rd x505001 x5)).f0 = true) then (spec_ArenaOk.l1 k x3 (wrap64 (x5 + 1)) x503000 x505000 x505001) else (some false)) else (none)) else (none)) else (some false))))) else (none)) else (none)) else (spec_ArenaOk.l0 k (wrap64 (x3 + 1)) x503000)
end
def spec_ArenaOk.f (k : Nat) (l0_0 : List (S133)) : Option (Bool):=spec_ArenaOk.l0 k 0 l0_0
theorem spec_ArenaOk.mono_l : ∀ k,(∀ y0 y1,LeO (spec_ArenaOk.l0 k y0 y1) (spec_ArenaOk.l0 (k + 1) y0 y1)) ∧ (∀ y0 y1 y2 y3 y4,LeO (spec_ArenaOk.l1 k y0 y1 y2 y3 y4) (spec_ArenaOk.l1 (k + 1) y0 y1 y2 y3 y4))
 | 0=>⟨fun _ _ r h=>by simp [spec_ArenaOk.l0] at h,fun _ _ _ _ _ r h=>by simp [spec_ArenaOk.l1] at h⟩
 | k + 1=>by
  obtain ⟨ih0,ih1⟩:=spec_ArenaOk.mono_l k;refine ⟨?_,?_⟩
  ·intro y0 y1;unfold spec_ArenaOk.l0
   repeat' first
   | (with_reducible exact ih0 _ _)
   | (with_reducible exact ih1 _ _ _ _ _)
   | (with_reducible exact LeO.refl _)
   | (with_reducible exact LeO.none _)
   | (with_reducible refine LeO.ite ?_ ?_)
   | (with_reducible refine LeO.bind ?_ (fun _=>?_))
   | exact ih0 _ _
   | exact ih1 _ _ _ _ _
   | exact LeO.none _
   | refine LeO.ite ?_ ?_
   | refine LeO.bind ?_ (fun _=>?_)
  intro y0 y1 y2 y3 y4;unfold spec_ArenaOk.l1
  repeat' first
  | (with_reducible exact ih0 _ _)
  | (with_reducible exact ih1 _ _ _ _ _)
  | (with_reducible exact LeO.refl _)
  | (with_reducible exact LeO.none _)
  | (with_reducible refine LeO.ite ?_ ?_)
  | (with_reducible refine LeO.bind ?_ (fun _=>?_))
  | exact ih0 _ _
  | exact ih1 _ _ _ _ _
  | exact LeO.none _
  | refine LeO.ite ?_ ?_
  | refine LeO.bind ?_ (fun _=>?_)
theorem spec_ArenaOk.mono : ∀ a0 k,LeO (spec_ArenaOk.f k a0) (spec_ArenaOk.f (k + 1) a0):=by
 intro a0 k;obtain ⟨ih0,ih1⟩:=spec_ArenaOk.mono_l k;unfold spec_ArenaOk.f
 repeat' first
   | (with_reducible exact ih0 _ _)
   | (with_reducible exact ih1 _ _ _ _ _)
   | (with_reducible exact LeO.refl _)
   | (with_reducible exact LeO.none _)
   | (with_reducible refine LeO.ite ?_ ?_)
   | (with_reducible refine LeO.bind ?_ (fun _=>?_))
   | exact ih0 _ _
   | exact ih1 _ _ _ _ _
   | exact LeO.none _
   | refine LeO.ite ?_ ?_
   | refine LeO.bind ?_ (fun _=>?_)
set_option maxHeartbeats 8000000 in
set_option maxRecDepth 100000 in
theorem spec_ArenaOk.calls (k : Nat) (A0_0 : Option Addr) (c0_0 : Nat) (l0_0 : List (S133)) (r : Bool) (w : World) (hr0_0 : Kd.C k133 w A0_0 l0_0.length l0_0) (hc0_0 : l0_0.length ≤ c0_0) (h : spec_ArenaOk.f k l0_0 = some r) :
  Calls Try.prog 99 #[.agg #[.slice A0_0 l0_0.length c0_0]] w fun e w'=>e = .returned (.bool r) ∧ Below w.heap.size w w':=by
 have hu44:=Try.underlying44;have hu133:=Try.underlying133;have HR0_0:=Aside0.mk hr0_0;have HC0_0:=Aside0.mk hc0_0;clear hr0_0 hc0_0;have HB:=Aside0.mk (Below.refl w.heap.size w);have H : (spec_ArenaOk.l0 k 0 l0_0) = some r:=h;clear h;have H':=Aside0.mk H;clear H
 go_enter Try.func99,Try.ntmps99
 go_wp2_with (first | ((with_reducible refine gate_dst (N:=1) rfl ?_);refine box_event ?hg (N:=1) ?hd (cs:=#[.slice A0_0 l0_0.length c0_0]) (t:=44) ?hr ?_;(case hd=>rfl);(case hg=>rfl);(case hr=>first | (go_simp;done) | (go_simp;rfl));intro gb502 hg w2 hbox hb;have n0_:=Aside0.mk (below_step (hs HB) hb);have n1_:=Aside0.mk (hbox);have n2_:=Aside0.mk ((by rw [hg];exact (below_size (hs HB)) : w.heap.size ≤ gb502));have n3_:=Aside0.mk ((by rw [hg];exact (below_size (hs HB)) : w.heap.size ≤ gb502));clear HB;have HB:=n0_;have BK502:=n1_;have GW502:=n2_;have GE502:=n3_;clear n0_ n1_ n2_ n3_;clear hb hbox hg));go_loopg [3] k (fun kq v3 w'=>∃ (x3_1 : Int),v3 = .int .i64 x3_1 ∧ Aside0 (spec_ArenaOk.l0 kq x3_1 l0_0 = some r) ∧ Aside0 (kq ≤ k) ∧ Aside0 (w'.heap[gb502]? = some (.cells #[(.slice A0_0 l0_0.length c0_0)] 44 (0,0))) ∧ Aside0 (Below w.heap.size w w'));case atStart=>exact ⟨(0),(by first | rfl | (simp;done) | (simp [*];done)),H',⟨Nat.le_refl _⟩,⟨bs BK502⟩,⟨hs1 HB GE502⟩⟩
 case round =>
  clear H'
  try clear p2
  obtain ⟨x3_1,rfl,HA,HK1,BK502,HB⟩:=hrel;cases gk with
  | zero=>exact absurd HA.out (by simp [spec_ArenaOk.l0])
  | succ k1 =>
   have H:=HA.out;clear HA;simp only [spec_ArenaOk.l0] at H
   by_cases c3 : x3_1 < (l0_0.length : Int)
   ·rw [if_pos c3] at H;have c3b0 : decide (x3_1 < (l0_0.length : Int)) = true:=decide_eq_true c3;clear c3
    by_cases c4 : 0 ≤ x3_1
    ·rw [if_pos c4] at H;have c4b0 : decide (0 ≤ x3_1) = true:=decide_eq_true c4;clear c4
     by_cases c5 : (((rd_T133 l0_0 x3_1).f1).length : Int) = 4
     ·rw [if_pos c5] at H;have c5b0 : ((((rd_T133 l0_0 x3_1).f1).length : Int) == 4) = true:=beq_iff_eq.mpr c5;have c5b1 : ((((rd_T133 l0_0 x3_1).f1).length : Int) != 4) = false:=bne_eq_false_iff_eq.mpr c5;clear c5;have H':=Aside0.mk H;clear H;have hcz6_0 : wr.cell? ⟨gb502,0,none⟩ = some (.slice A0_0 l0_0.length c0_0):=(blk_cell BK502.out 0).trans rfl;have hfz6_0:=blk_frozen BK502.out 0;have p503 : 0 ≤ (x3_1 : Int):=of_decide_eq_true (by first | (with_reducible assumption) | assumption);have q503 : x3_1 < (l0_0.length : Int):=of_decide_eq_true (by first | (with_reducible assumption) | assumption);obtain ⟨ad503,A503_1,c503_1,e503,hx503_0,hx503_1,hl503_1,hi503_1⟩:=at_T133 HR0_0.out x3_1 p503 q503;cases e503;replace hx503_0:=(HB.out.cell (World.block_lt_of_cell? w _ hx503_0)).trans hx503_0;replace hx503_1:=(HB.out.cell (World.block_lt_of_cell? w _ hx503_1)).trans hx503_1;have HR503_1:=Aside0.mk hi503_1;have HC503_1:=Aside0.mk hl503_1;clear hi503_1 hl503_1;replace p503:=eq_true p503;replace q503:=eq_true q503;go_wp2_with (first | ((with_reducible refine gate_dst (N:=4) rfl ?_);refine box_event ?hg (N:=4) ?hd (cs:=#[.bool false,.slice none 0 0]) (t:=133) ?hr ?_;(case hd=>rfl);(case hg=>rfl);(case hr=>first | (go_simp;done) | (go_simp;rfl));intro gb504 hg w7 hbox hb;have n0_:=Aside0.mk (blk_below (g:=gb502) (o:=.cells #[.slice (some ad503) l0_0.length c0_0] 44 (0,0)) (bs BK502) hb);have n1_:=Aside0.mk (below_step (hs1 HB GE502) hb);have n2_:=Aside0.mk (hbox);have n3_:=Aside0.mk ((by rw [hg];exact (below_size (hs1 HB GE502)) : w.heap.size ≤ gb504));have n4_:=Aside0.mk ((by rw [hg];exact (below_size (hs1 HB GE502)) : w.heap.size ≤ gb504));have n5_:=Aside0.mk ((by rw [hg];exact Nat.ne_of_lt (blk_lt (g:=gb502) (o:=.cells #[.slice (some ad503) l0_0.length c0_0] 44 (0,0)) (bs BK502)) : gb502 ≠ gb504));have n6_:=Aside0.mk ((by rw [hg];exact Nat.ne_of_gt (blk_lt (g:=gb502) (o:=.cells #[.slice (some ad503) l0_0.length c0_0] 44 (0,0)) (bs BK502)) : gb504 ≠ gb502));clear BK502;clear HB;have BK502:=n0_;have HB:=n1_;have BK504:=n2_;have GW504:=n3_;have GE504:=n4_;have NB502_504:=n5_;have NB504_502:=n6_;clear n0_ n1_ n2_ n3_ n4_ n5_ n6_;clear hb hbox hg;have hnb8:=NB504_502.out;have hnc8:=NB502_504.out;have hcz9_0 : w7.cell? ⟨gb504,0,none⟩ = some (.bool false):=(blk_cell BK504.out 0).trans rfl;have hcz9_1 : w7.cell? ⟨gb504,1,none⟩ = some (.slice none 0 0):=(blk_cell BK504.out 1).trans rfl;have hfz9_0:=blk_frozen BK504.out 0;have hfz9_1:=blk_frozen BK504.out 1))
      (try generalize (Value.agg #[.bool ((rd_T133 l0_0 x3_1).f0),.slice A503_1 ((rd_T133 l0_0 x3_1).f1).length c503_1]) = gd18)
      go_loopg [5] k1 (fun kq v5 w'=>∃ (x5_2 : Int),v5 = .int .i64 x5_2 ∧ Aside0 (spec_ArenaOk.l1 kq x3_1 x5_2 l0_0 ((rd_T133 l0_0 x3_1).f0) ((rd_T133 l0_0 x3_1).f1) = some r) ∧ Aside0 (kq ≤ k1) ∧ Aside0 (w'.heap[gb502]? = some (.cells #[(.slice (some ad503) l0_0.length c0_0)] 44 (0,0))) ∧ Aside0 (w'.heap[gb504]? = some (.cells #[.bool ((rd_T133 l0_0 x3_1).f0),(.slice A503_1 ((rd_T133 l0_0 x3_1).f1).length c503_1)] 133 (0,0))) ∧ Aside0 (Below w.heap.size w w'));case atStart=>exact ⟨(0),(by first | rfl | (simp;done) | (simp [*];done)),H',⟨Nat.le_refl _⟩,⟨by (with_reducible repeat (first | refine blk_drewN ?_ _ | refine blk_drew ?_ | refine blk_alloc ?_ _));refine blk_far ?_ NB502_504.out _;(with_reducible repeat (first | refine blk_drewN ?_ _ | refine blk_drew ?_ | refine blk_alloc ?_ _));refine blk_far ?_ NB502_504.out _;(with_reducible repeat (first | refine blk_drewN ?_ _ | refine blk_drew ?_ | refine blk_alloc ?_ _));exact BK502.out⟩,⟨by (with_reducible repeat (first | refine blk_drewN ?_ _ | refine blk_drew ?_ | refine blk_alloc ?_ _));refine blk_put (cs:=#[.bool ((rd_T133 l0_0 x3_1).f0),.slice none 0 0]) ?_ 1 _ rfl;(with_reducible repeat (first | refine blk_drewN ?_ _ | refine blk_drew ?_ | refine blk_alloc ?_ _));refine blk_put (cs:=#[.bool false,.slice none 0 0]) ?_ 0 _ rfl;(with_reducible repeat (first | refine blk_drewN ?_ _ | refine blk_drew ?_ | refine blk_alloc ?_ _));exact BK504.out⟩,⟨hs2 HB GE502 GE504⟩⟩
      case round =>
       clear H'
       try clear p2
       try clear c3
       try clear c3b0
       try clear c4
       try clear c4b0
       try clear c5
       try clear c5b0
       try clear c5b1
       try clear p5
       try clear q5
       try clear hx5
       try clear c8
       try clear c9
       try clear hcz6_0
       try clear hcz9_0
       try clear hcz9_1
       try clear hfz6_0
       try clear hfz9_0
       try clear hfz9_1
       try clear hx503_0
       try clear hx503_1
       try clear p2
       try clear p503
       try clear q503
       obtain ⟨x5_2,rfl,HA,HK2,BK502,BK504,HB⟩:=hrel;cases gk with
       | zero=>exact absurd HA.out (by simp [spec_ArenaOk.l1])
       | succ k2 =>
        have H:=HA.out;clear HA;simp only [spec_ArenaOk.l1] at H
        by_cases c10 : x5_2 < 4
        ·rw [if_pos c10] at H;have c10b0 : decide (x5_2 < 4) = true:=decide_eq_true c10;clear c10
         by_cases c11 : 0 ≤ x5_2
         ·rw [if_pos c11] at H;have c11b0 : decide (0 ≤ x5_2) = true:=decide_eq_true c11;clear c11
          by_cases c12 : x5_2 < (((rd_T133 l0_0 x3_1).f1).length : Int)
          ·rw [if_pos c12] at H;have c12b0 : decide (x5_2 < (((rd_T133 l0_0 x3_1).f1).length : Int)) = true:=decide_eq_true c12;clear c12
           by_cases c13 : ((rd_T133 l0_0 x3_1).f0) = true
           ·rw [if_pos c13] at H;have c13b0 : ((rd_T133 l0_0 x3_1).f0) = true:=c13;clear c13
            by_cases c14 : (rd ((rd_T133 l0_0 x3_1).f1) x5_2) < 0
            ·rw [if_pos c14] at H;have c14b0 : decide ((rd ((rd_T133 l0_0 x3_1).f1) x5_2) < 0) = true:=decide_eq_true c14;clear c14;obtain rfl:=Option.some.inj H;have hnb15:=NB504_502.out;have hnc15:=NB502_504.out;have hcz16_0 : wr.cell? ⟨gb504,0,none⟩ = some (.bool ((rd_T133 l0_0 x3_1).f0)):=(blk_cell BK504.out 0).trans rfl;have hcz16_1 : wr.cell? ⟨gb504,1,none⟩ = some (.slice A503_1 ((rd_T133 l0_0 x3_1).f1).length c503_1):=(blk_cell BK504.out 1).trans rfl;have hfz16_0:=blk_frozen BK504.out 0;have hfz16_1:=blk_frozen BK504.out 1;have p505 : 0 ≤ (x5_2 : Int):=of_decide_eq_true (by first | (with_reducible assumption) | assumption);have q505 : x5_2 < (((rd_T133 l0_0 x3_1).f1).length : Int):=of_decide_eq_true (by first | (with_reducible assumption) | assumption);obtain ⟨ad505,e505,hx505_0⟩:=Kd.at_int HR503_1.out x5_2 p505 q505;cases e505;replace hx505_0:=(HB.out.cell (World.block_lt_of_cell? w _ hx505_0)).trans hx505_0;replace p505:=eq_true p505;replace q505:=eq_true q505
             go_wp2
             go_ret
             exact ⟨by first | rfl | (simp [errW_none,errW_some] <;> rfl) | (simp [*,errW_none,errW_some] <;> rfl),hs2 HB GE502 GE504⟩
            rw [if_neg c14] at H;have c14b0 : decide ((rd ((rd_T133 l0_0 x3_1).f1) x5_2) < 0) = false:=decide_eq_false c14;clear c14;have H':=Aside0.mk H;clear H;have hnb17:=NB504_502.out;have hnc17:=NB502_504.out;have hcz18_0 : wr.cell? ⟨gb504,0,none⟩ = some (.bool ((rd_T133 l0_0 x3_1).f0)):=(blk_cell BK504.out 0).trans rfl;have hcz18_1 : wr.cell? ⟨gb504,1,none⟩ = some (.slice A503_1 ((rd_T133 l0_0 x3_1).f1).length c503_1):=(blk_cell BK504.out 1).trans rfl;have hfz18_0:=blk_frozen BK504.out 0;have hfz18_1:=blk_frozen BK504.out 1;have p505 : 0 ≤ (x5_2 : Int):=of_decide_eq_true (by first | (with_reducible assumption) | assumption);have q505 : x5_2 < (((rd_T133 l0_0 x3_1).f1).length : Int):=of_decide_eq_true (by first | (with_reducible assumption) | assumption);obtain ⟨ad505,e505,hx505_0⟩:=Kd.at_int HR503_1.out x5_2 p505 q505;cases e505;replace hx505_0:=(HB.out.cell (World.block_lt_of_cell? w _ hx505_0)).trans hx505_0;replace p505:=eq_true p505;replace q505:=eq_true q505
            go_wp2
            go_roundg k2;case measure=>have:=HK1.out;have:=HK2.out;omega
            case rel=>exact ⟨(wrap64 (x5_2 + 1)),(by first | rfl | (simp;done) | (simp [*];done)),H',⟨by have:=HK1.out;have:=HK2.out;omega⟩,⟨bs BK502⟩,⟨bs BK504⟩,⟨hs2 HB GE502 GE504⟩⟩
           rw [if_neg c13] at H;have c13b0 : ((rd_T133 l0_0 x3_1).f0) = false:=by simpa using c13
           clear c13
           by_cases c19 : (rd ((rd_T133 l0_0 x3_1).f1) x5_2) = (-1)
           ·rw [if_pos c19] at H;have c19b0 : ((rd ((rd_T133 l0_0 x3_1).f1) x5_2) == (-1)) = true:=beq_iff_eq.mpr c19;have c19b1 : ((rd ((rd_T133 l0_0 x3_1).f1) x5_2) != (-1)) = false:=bne_eq_false_iff_eq.mpr c19;clear c19;have H':=Aside0.mk H;clear H;have hnb20:=NB504_502.out;have hnc20:=NB502_504.out;have hcz21_0 : wr.cell? ⟨gb504,0,none⟩ = some (.bool ((rd_T133 l0_0 x3_1).f0)):=(blk_cell BK504.out 0).trans rfl;have hcz21_1 : wr.cell? ⟨gb504,1,none⟩ = some (.slice A503_1 ((rd_T133 l0_0 x3_1).f1).length c503_1):=(blk_cell BK504.out 1).trans rfl;have hfz21_0:=blk_frozen BK504.out 0;have hfz21_1:=blk_frozen BK504.out 1;have p505 : 0 ≤ (x5_2 : Int):=of_decide_eq_true (by first | (with_reducible assumption) | assumption);have q505 : x5_2 < (((rd_T133 l0_0 x3_1).f1).length : Int):=of_decide_eq_true (by first | (with_reducible assumption) | assumption);obtain ⟨ad505,e505,hx505_0⟩:=Kd.at_int HR503_1.out x5_2 p505 q505;cases e505;replace hx505_0:=(HB.out.cell (World.block_lt_of_cell? w _ hx505_0)).trans hx505_0;replace p505:=eq_true p505;replace q505:=eq_true q505
            go_wp2
            go_roundg k2;case measure=>have:=HK1.out;have:=HK2.out;omega
            case rel=>exact ⟨(wrap64 (x5_2 + 1)),(by first | rfl | (simp;done) | (simp [*];done)),H',⟨by have:=HK1.out;have:=HK2.out;omega⟩,⟨bs BK502⟩,⟨bs BK504⟩,⟨hs2 HB GE502 GE504⟩⟩
           rw [if_neg c19] at H;have c19b0 : ((rd ((rd_T133 l0_0 x3_1).f1) x5_2) == (-1)) = false:=beq_eq_false_iff_ne.mpr c19;have c19b1 : ((rd ((rd_T133 l0_0 x3_1).f1) x5_2) != (-1)) = true:=bne_iff_ne.mpr c19;replace H:=Option.bind_eq_some_iff.mp H;obtain ⟨t506,A220,H⟩:=H;replace H : (if t506 = true then (if 0 ≤ (rd ((rd_T133 l0_0 x3_1).f1) x5_2) then (if (rd ((rd_T133 l0_0 x3_1).f1) x5_2) < (l0_0.length : Int) then (if ((rd_T133 l0_0 (rd ((rd_T133 l0_0 x3_1).f1) x5_2)).f0 = true) then (spec_ArenaOk.l1 k2 x3_1 (wrap64 (x5_2 + 1)) l0_0 ((rd_T133 l0_0 x3_1).f0) ((rd_T133 l0_0 x3_1).f1)) else (some false)) else (none)) else (none)) else (some false)) = some r:=H;have A22:=Aside0.mk A220;clear A220
           by_cases c23 : t506 = true
           ·subst c23;have H1 : (if 0 ≤ (rd ((rd_T133 l0_0 x3_1).f1) x5_2) then (if (rd ((rd_T133 l0_0 x3_1).f1) x5_2) < (l0_0.length : Int) then (if ((rd_T133 l0_0 (rd ((rd_T133 l0_0 x3_1).f1) x5_2)).f0 = true) then (spec_ArenaOk.l1 k2 x3_1 (wrap64 (x5_2 + 1)) l0_0 ((rd_T133 l0_0 x3_1).f0) ((rd_T133 l0_0 x3_1).f1)) else (some false)) else (none)) else (none)) = some r:=by rw [if_pos rfl] at H;exact H
            clear H;have H:=H1;clear H1
            by_cases c24 : 0 ≤ (rd ((rd_T133 l0_0 x3_1).f1) x5_2)
            ·rw [if_pos c24] at H;have c24b0 : decide (0 ≤ (rd ((rd_T133 l0_0 x3_1).f1) x5_2)) = true:=decide_eq_true c24;clear c24
             by_cases c25 : (rd ((rd_T133 l0_0 x3_1).f1) x5_2) < (l0_0.length : Int)
             ·rw [if_pos c25] at H;have c25b0 : decide ((rd ((rd_T133 l0_0 x3_1).f1) x5_2) < (l0_0.length : Int)) = true:=decide_eq_true c25;clear c25;obtain ⟨bq26,hbq26⟩ : ∃ b_ : Bool,b_ = ((rd_T133 l0_0 (rd ((rd_T133 l0_0 x3_1).f1) x5_2)).f0):=⟨_,rfl⟩;replace H : (if (bq26 = true) then (spec_ArenaOk.l1 k2 x3_1 (wrap64 (x5_2 + 1)) l0_0 ((rd_T133 l0_0 x3_1).f0) ((rd_T133 l0_0 x3_1).f1)) else (some false)) = some r:=by rw [← hbq26] at H;exact H
              have Nbq26:=Aside0.mk hbq26;clear hbq26
              (try rw [← Nbq26.out] at A22)
              by_cases c27 : (bq26 = true)
              ·subst c27;have H1 : (spec_ArenaOk.l1 k2 x3_1 (wrap64 (x5_2 + 1)) l0_0 ((rd_T133 l0_0 x3_1).f0) ((rd_T133 l0_0 x3_1).f1)) = some r:=by rw [if_pos rfl] at H;exact H
               clear H;have H:=H1;clear H1;have H':=Aside0.mk H;clear H;have hnb28:=NB504_502.out;have hnc28:=NB502_504.out;have hcz29_0 : wr.cell? ⟨gb504,0,none⟩ = some (.bool ((rd_T133 l0_0 x3_1).f0)):=(blk_cell BK504.out 0).trans rfl;have hcz29_1 : wr.cell? ⟨gb504,1,none⟩ = some (.slice A503_1 ((rd_T133 l0_0 x3_1).f1).length c503_1):=(blk_cell BK504.out 1).trans rfl;have hfz29_0:=blk_frozen BK504.out 0;have hfz29_1:=blk_frozen BK504.out 1;have p505 : 0 ≤ (x5_2 : Int):=of_decide_eq_true (by first | (with_reducible assumption) | assumption);have q505 : x5_2 < (((rd_T133 l0_0 x3_1).f1).length : Int):=of_decide_eq_true (by first | (with_reducible assumption) | assumption);obtain ⟨ad505,e505,hx505_0⟩:=Kd.at_int HR503_1.out x5_2 p505 q505;cases e505;replace hx505_0:=(HB.out.cell (World.block_lt_of_cell? w _ hx505_0)).trans hx505_0;replace p505:=eq_true p505;replace q505:=eq_true q505;go_wp2_with (first | (go_at_call 86;(with_reducible refine (spec_l01In.calls (rd ((rd_T133 l0_0 x3_1).f1) x5_2) 0 (wrap64 (x3_1 - 1)) true _ A22.out).mono ?_);rintro e w' ⟨rfl,⟨nd,rfl⟩⟩;have hcz30_0 : wr.cell? ⟨gb502,0,none⟩ = some (.slice (some ad503) l0_0.length c0_0):=(blk_cell BK502.out 0).trans rfl;have hfz30_0:=blk_frozen BK502.out 0;have p507 : 0 ≤ ((rd ((rd_T133 l0_0 x3_1).f1) x5_2) : Int):=of_decide_eq_true (by first | (with_reducible assumption) | assumption);have q507 : (rd ((rd_T133 l0_0 x3_1).f1) x5_2) < (l0_0.length : Int):=of_decide_eq_true (by first | (with_reducible assumption) | assumption);obtain ⟨ad507,A507_1,c507_1,e507,hx507_0,hx507_1,hl507_1,hi507_1⟩:=at_T133 HR0_0.out (rd ((rd_T133 l0_0 x3_1).f1) x5_2) p507 q507;(try rw [← Nbq26.out] at hx507_0);obtain rfl : ad503 = ad507:=(by injection e507);replace hx507_0:=(HB.out.cell (World.block_lt_of_cell? w _ hx507_0)).trans hx507_0;replace hx507_1:=(HB.out.cell (World.block_lt_of_cell? w _ hx507_1)).trans hx507_1;have HR507_1:=Aside0.mk hi507_1;have HC507_1:=Aside0.mk hl507_1;clear hi507_1 hl507_1;replace p507:=eq_true p507;replace q507:=eq_true q507));go_roundg k2;case measure=>have:=HK1.out;have:=HK2.out;omega
               case rel=>exact ⟨(wrap64 (x5_2 + 1)),(by first | rfl | (simp;done) | (simp [*];done)),H',⟨by have:=HK1.out;have:=HK2.out;omega⟩,⟨bs BK502⟩,⟨bs BK504⟩,⟨hs2 HB GE502 GE504⟩⟩
              replace c27:=Bool.eq_false_iff.mpr c27;subst c27;have H1 : (some false) = some r:=by rw [if_neg (show ¬ (false = true) by decide)] at H;exact H
              clear H;have H:=H1;clear H1;obtain rfl:=Option.some.inj H;have hnb31:=NB504_502.out;have hnc31:=NB502_504.out;have hcz32_0 : wr.cell? ⟨gb504,0,none⟩ = some (.bool ((rd_T133 l0_0 x3_1).f0)):=(blk_cell BK504.out 0).trans rfl;have hcz32_1 : wr.cell? ⟨gb504,1,none⟩ = some (.slice A503_1 ((rd_T133 l0_0 x3_1).f1).length c503_1):=(blk_cell BK504.out 1).trans rfl;have hfz32_0:=blk_frozen BK504.out 0;have hfz32_1:=blk_frozen BK504.out 1;have p505 : 0 ≤ (x5_2 : Int):=of_decide_eq_true (by first | (with_reducible assumption) | assumption);have q505 : x5_2 < (((rd_T133 l0_0 x3_1).f1).length : Int):=of_decide_eq_true (by first | (with_reducible assumption) | assumption);obtain ⟨ad505,e505,hx505_0⟩:=Kd.at_int HR503_1.out x5_2 p505 q505;cases e505;replace hx505_0:=(HB.out.cell (World.block_lt_of_cell? w _ hx505_0)).trans hx505_0;replace p505:=eq_true p505;replace q505:=eq_true q505;go_wp2_with (first | (go_at_call 86;(with_reducible refine (spec_l01In.calls (rd ((rd_T133 l0_0 x3_1).f1) x5_2) 0 (wrap64 (x3_1 - 1)) true _ A22.out).mono ?_);rintro e w' ⟨rfl,⟨nd,rfl⟩⟩;have hcz33_0 : wr.cell? ⟨gb502,0,none⟩ = some (.slice (some ad503) l0_0.length c0_0):=(blk_cell BK502.out 0).trans rfl;have hfz33_0:=blk_frozen BK502.out 0;have p507 : 0 ≤ ((rd ((rd_T133 l0_0 x3_1).f1) x5_2) : Int):=of_decide_eq_true (by first | (with_reducible assumption) | assumption);have q507 : (rd ((rd_T133 l0_0 x3_1).f1) x5_2) < (l0_0.length : Int):=of_decide_eq_true (by first | (with_reducible assumption) | assumption);obtain ⟨ad507,A507_1,c507_1,e507,hx507_0,hx507_1,hl507_1,hi507_1⟩:=at_T133 HR0_0.out (rd ((rd_T133 l0_0 x3_1).f1) x5_2) p507 q507;(try rw [← Nbq26.out] at hx507_0);obtain rfl : ad503 = ad507:=(by injection e507);replace hx507_0:=(HB.out.cell (World.block_lt_of_cell? w _ hx507_0)).trans hx507_0;replace hx507_1:=(HB.out.cell (World.block_lt_of_cell? w _ hx507_1)).trans hx507_1;have HR507_1:=Aside0.mk hi507_1;have HC507_1:=Aside0.mk hl507_1;clear hi507_1 hl507_1;replace p507:=eq_true p507;replace q507:=eq_true q507))
              go_ret
              exact ⟨by first | rfl | (simp [errW_none,errW_some] <;> rfl) | (simp [*,errW_none,errW_some] <;> rfl),hs2 HB GE502 GE504⟩
             rw [if_neg c25] at H;exact absurd H (by simp)
            rw [if_neg c24] at H;exact absurd H (by simp)
           replace c23:=Bool.eq_false_iff.mpr c23;subst c23;have H1 : (some false) = some r:=by rw [if_neg (show ¬ (false = true) by decide)] at H;exact H
           clear H;have H:=H1;clear H1;obtain rfl:=Option.some.inj H;have hnb34:=NB504_502.out;have hnc34:=NB502_504.out;have hcz35_0 : wr.cell? ⟨gb504,0,none⟩ = some (.bool ((rd_T133 l0_0 x3_1).f0)):=(blk_cell BK504.out 0).trans rfl;have hcz35_1 : wr.cell? ⟨gb504,1,none⟩ = some (.slice A503_1 ((rd_T133 l0_0 x3_1).f1).length c503_1):=(blk_cell BK504.out 1).trans rfl;have hfz35_0:=blk_frozen BK504.out 0;have hfz35_1:=blk_frozen BK504.out 1;have p505 : 0 ≤ (x5_2 : Int):=of_decide_eq_true (by first | (with_reducible assumption) | assumption);have q505 : x5_2 < (((rd_T133 l0_0 x3_1).f1).length : Int):=of_decide_eq_true (by first | (with_reducible assumption) | assumption);obtain ⟨ad505,e505,hx505_0⟩:=Kd.at_int HR503_1.out x5_2 p505 q505;cases e505;replace hx505_0:=(HB.out.cell (World.block_lt_of_cell? w _ hx505_0)).trans hx505_0;replace p505:=eq_true p505;replace q505:=eq_true q505;go_wp2_with (first | (go_at_call 86;(with_reducible refine (spec_l01In.calls (rd ((rd_T133 l0_0 x3_1).f1) x5_2) 0 (wrap64 (x3_1 - 1)) false _ A22.out).mono ?_);rintro e w' ⟨rfl,⟨nd,rfl⟩⟩))
           go_ret
           exact ⟨by first | rfl | (simp [errW_none,errW_some] <;> rfl) | (simp [*,errW_none,errW_some] <;> rfl),hs2 HB GE502 GE504⟩
          rw [if_neg c12] at H;exact absurd H (by simp)
         rw [if_neg c11] at H;exact absurd H (by simp)
        rw [if_neg c10] at H;have c10b0 : decide (x5_2 < 4) = false:=decide_eq_false c10;clear c10;have H':=Aside0.mk H;clear H
        go_wp2
        go_roundg k2;case measure=>have:=HK1.out;have:=HK2.out;omega
        case rel=>exact ⟨(wrap64 (x3_1 + 1)),(by first | rfl | (simp;done) | (simp [*];done)),H',⟨by have:=HK1.out;have:=HK2.out;omega⟩,⟨bs BK502⟩,⟨hs2 HB GE502 GE504⟩⟩
     rw [if_neg c5] at H;have c5b0 : ((((rd_T133 l0_0 x3_1).f1).length : Int) == 4) = false:=beq_eq_false_iff_ne.mpr c5;have c5b1 : ((((rd_T133 l0_0 x3_1).f1).length : Int) != 4) = true:=bne_iff_ne.mpr c5;obtain rfl:=Option.some.inj H;have hcz36_0 : wr.cell? ⟨gb502,0,none⟩ = some (.slice A0_0 l0_0.length c0_0):=(blk_cell BK502.out 0).trans rfl;have hfz36_0:=blk_frozen BK502.out 0;have p503 : 0 ≤ (x3_1 : Int):=of_decide_eq_true (by first | (with_reducible assumption) | assumption);have q503 : x3_1 < (l0_0.length : Int):=of_decide_eq_true (by first | (with_reducible assumption) | assumption);obtain ⟨ad503,A503_1,c503_1,e503,hx503_0,hx503_1,hl503_1,hi503_1⟩:=at_T133 HR0_0.out x3_1 p503 q503;cases e503;replace hx503_0:=(HB.out.cell (World.block_lt_of_cell? w _ hx503_0)).trans hx503_0;replace hx503_1:=(HB.out.cell (World.block_lt_of_cell? w _ hx503_1)).trans hx503_1;have HR503_1:=Aside0.mk hi503_1;have HC503_1:=Aside0.mk hl503_1;clear hi503_1 hl503_1;replace p503:=eq_true p503;replace q503:=eq_true q503;go_wp2_with (first | ((with_reducible refine gate_dst (N:=4) rfl ?_);refine box_event ?hg (N:=4) ?hd (cs:=#[.bool false,.slice none 0 0]) (t:=133) ?hr ?_;(case hd=>rfl);(case hg=>rfl);(case hr=>first | (go_simp;done) | (go_simp;rfl));intro gb504 hg w37 hbox hb;have n0_:=Aside0.mk (blk_below (g:=gb502) (o:=.cells #[.slice (some ad503) l0_0.length c0_0] 44 (0,0)) (bs BK502) hb);have n1_:=Aside0.mk (below_step (hs1 HB GE502) hb);have n2_:=Aside0.mk (hbox);have n3_:=Aside0.mk ((by rw [hg];exact (below_size (hs1 HB GE502)) : w.heap.size ≤ gb504));have n4_:=Aside0.mk ((by rw [hg];exact (below_size (hs1 HB GE502)) : w.heap.size ≤ gb504));have n5_:=Aside0.mk ((by rw [hg];exact Nat.ne_of_lt (blk_lt (g:=gb502) (o:=.cells #[.slice (some ad503) l0_0.length c0_0] 44 (0,0)) (bs BK502)) : gb502 ≠ gb504));have n6_:=Aside0.mk ((by rw [hg];exact Nat.ne_of_gt (blk_lt (g:=gb502) (o:=.cells #[.slice (some ad503) l0_0.length c0_0] 44 (0,0)) (bs BK502)) : gb504 ≠ gb502));clear BK502;clear HB;have BK502:=n0_;have HB:=n1_;have BK504:=n2_;have GW504:=n3_;have GE504:=n4_;have NB502_504:=n5_;have NB504_502:=n6_;clear n0_ n1_ n2_ n3_ n4_ n5_ n6_;clear hb hbox hg;have hnb38:=NB504_502.out;have hnc38:=NB502_504.out;have hcz39_0 : w37.cell? ⟨gb504,0,none⟩ = some (.bool false):=(blk_cell BK504.out 0).trans rfl;have hcz39_1 : w37.cell? ⟨gb504,1,none⟩ = some (.slice none 0 0):=(blk_cell BK504.out 1).trans rfl;have hfz39_0:=blk_frozen BK504.out 0;have hfz39_1:=blk_frozen BK504.out 1))
     go_ret
     exact ⟨by first | rfl | (simp [errW_none,errW_some] <;> rfl) | (simp [*,errW_none,errW_some] <;> rfl),hs2 HB GE502 GE504⟩
    rw [if_neg c4] at H;exact absurd H (by simp)
   rw [if_neg c3] at H;have c3b0 : decide (x3_1 < (l0_0.length : Int)) = false:=decide_eq_false c3;clear c3;obtain rfl:=Option.some.inj H;have hcz40_0 : wr.cell? ⟨gb502,0,none⟩ = some (.slice A0_0 l0_0.length c0_0):=(blk_cell BK502.out 0).trans rfl;have hfz40_0:=blk_frozen BK502.out 0
   go_wp2
   go_ret
   exact ⟨by first | rfl | (simp [errW_none,errW_some] <;> rfl) | (simp [*,errW_none,errW_some] <;> rfl),hs1 HB GE502⟩
end Go.Proofs.Ytdolplcbokioaaa.PB

namespace Go.Proofs.Ytdolplcbokioaaa.PB
open Go.RowKit Go.Proofs.YtdolplcbokioaaaW.PrintWords Go.Proofs.YtdolplcbokioaaaW.PrintLast Go.Proofs.YtdolplcbokioaaaW.PrintMore
attribute [local go_sem] max2_int min2_int max_two min_two max_three min_three max_four min_four   -- for this text's walks alone
set_option linter.unusedVariables false
set_option linter.unusedSimpArgs false
def spec_l11Root.f (l0_0 : List (S133)) (a1 : Int) : Option (Bool):=if a1 = (-1) then (some true) else ((spec_l01In.f a1 0 (wrap64 ((l0_0.length : Int) - 1))).bind fun t509=>(if t509 = true then (if 0 ≤ a1 then (if a1 < (l0_0.length : Int) then (some (!((rd_T133 l0_0 a1).f0))) else (none)) else (none)) else (some false)))
set_option maxHeartbeats 8000000 in
set_option maxRecDepth 100000 in
theorem spec_l11Root.calls (A0_0 : Option Addr) (c0_0 : Nat) (l0_0 : List (S133)) (a1 : Int) (r : Bool) (w : World) (hr0_0 : Kd.C k133 w A0_0 l0_0.length l0_0) (hc0_0 : l0_0.length ≤ c0_0) (h : spec_l11Root.f l0_0 a1 = some r) :
  Calls Try.prog 100 #[.agg #[.slice A0_0 l0_0.length c0_0],.int .i64 a1] w fun e w'=>e = .returned (.bool r) ∧ Below w.heap.size w w':=by
 have hu44:=Try.underlying44;have HR0_0:=Aside0.mk hr0_0;have HC0_0:=Aside0.mk hc0_0;clear hr0_0 hc0_0;have HB:=Aside0.mk (Below.refl w.heap.size w);have H : (if a1 = (-1) then (some true) else ((spec_l01In.f a1 0 (wrap64 ((l0_0.length : Int) - 1))).bind fun t509=>(if t509 = true then (if 0 ≤ a1 then (if a1 < (l0_0.length : Int) then (some (!((rd_T133 l0_0 a1).f0))) else (none)) else (none)) else (some false)))) = some r:=h;clear h
 by_cases c3 : a1 = (-1)
 ·rw [if_pos c3] at H;have c3b0 : (a1 == (-1)) = true:=beq_iff_eq.mpr c3;have c3b1 : (a1 != (-1)) = false:=bne_eq_false_iff_eq.mpr c3;clear c3;obtain rfl:=Option.some.inj H
  go_enter Try.func100,Try.ntmps100
  go_wp2_with (first | ((with_reducible refine gate_dst (N:=2) rfl ?_);(try (refine gate_guard (by rfl) ?_;dsimp only));refine box_event ?hg (N:=2) ?hd (cs:=#[.slice A0_0 l0_0.length c0_0]) (t:=44) ?hr ?_;(case hd=>rfl);(case hg=>rfl);(case hr=>first | (go_simp;done) | (go_simp;rfl));intro gb508 hg w4 hbox hb;have n0_:=Aside0.mk (below_step (hs HB) hb);have n1_:=Aside0.mk (hbox);have n2_:=Aside0.mk ((by rw [hg];exact (below_size (hs HB)) : w.heap.size ≤ gb508));have n3_:=Aside0.mk ((by rw [hg];exact (below_size (hs HB)) : w.heap.size ≤ gb508));clear HB;have HB:=n0_;have BK508:=n1_;have GW508:=n2_;have GE508:=n3_;clear n0_ n1_ n2_ n3_;clear hb hbox hg))
  go_ret
  exact ⟨by first | rfl | (simp [errW_none,errW_some] <;> rfl) | (simp [*,errW_none,errW_some] <;> rfl),hs1 HB GE508⟩
 rw [if_neg c3] at H;have c3b0 : (a1 == (-1)) = false:=beq_eq_false_iff_ne.mpr c3;have c3b1 : (a1 != (-1)) = true:=bne_iff_ne.mpr c3;replace H:=Option.bind_eq_some_iff.mp H;obtain ⟨t509,A50,H⟩:=H;replace H : (if t509 = true then (if 0 ≤ a1 then (if a1 < (l0_0.length : Int) then (some (!((rd_T133 l0_0 a1).f0))) else (none)) else (none)) else (some false)) = some r:=H;have A5:=Aside0.mk A50;clear A50
 by_cases c6 : t509 = true
 ·subst c6;have H1 : (if 0 ≤ a1 then (if a1 < (l0_0.length : Int) then (some (!((rd_T133 l0_0 a1).f0))) else (none)) else (none)) = some r:=by rw [if_pos rfl] at H;exact H
  clear H;have H:=H1;clear H1
  by_cases c7 : 0 ≤ a1
  ·rw [if_pos c7] at H;have c7b0 : decide (0 ≤ a1) = true:=decide_eq_true c7;clear c7
   by_cases c8 : a1 < (l0_0.length : Int)
   ·rw [if_pos c8] at H;have c8b0 : decide (a1 < (l0_0.length : Int)) = true:=decide_eq_true c8;clear c8;obtain rfl:=Option.some.inj H
    go_enter Try.func100,Try.ntmps100
    go_wp2_with (first | ((with_reducible refine gate_dst (N:=2) rfl ?_);(try (refine gate_guard (by rfl) ?_;dsimp only));refine box_event ?hg (N:=2) ?hd (cs:=#[.slice A0_0 l0_0.length c0_0]) (t:=44) ?hr ?_;(case hd=>rfl);(case hg=>rfl);(case hr=>first | (go_simp;done) | (go_simp;rfl));intro gb508 hg w9 hbox hb;have n0_:=Aside0.mk (below_step (hs HB) hb);have n1_:=Aside0.mk (hbox);have n2_:=Aside0.mk ((by rw [hg];exact (below_size (hs HB)) : w.heap.size ≤ gb508));have n3_:=Aside0.mk ((by rw [hg];exact (below_size (hs HB)) : w.heap.size ≤ gb508));clear HB;have HB:=n0_;have BK508:=n1_;have GW508:=n2_;have GE508:=n3_;clear n0_ n1_ n2_ n3_;clear hb hbox hg;have hcz10_0 : w9.cell? ⟨gb508,0,none⟩ = some (.slice A0_0 l0_0.length c0_0):=(blk_cell BK508.out 0).trans rfl;have hfz10_0:=blk_frozen BK508.out 0) | (go_at_call 86;(with_reducible refine (spec_l01In.calls a1 0 (wrap64 ((l0_0.length : Int) - 1)) true _ A5.out).mono ?_);rintro e w' ⟨rfl,⟨nd,rfl⟩⟩;have p510 : 0 ≤ (a1 : Int):=of_decide_eq_true (by first | (with_reducible assumption) | assumption);have q510 : a1 < (l0_0.length : Int):=of_decide_eq_true (by first | (with_reducible assumption) | assumption);obtain ⟨ad510,A510_1,c510_1,e510,hx510_0,hx510_1,hl510_1,hi510_1⟩:=at_T133 HR0_0.out a1 p510 q510;cases e510;replace hx510_0:=(HB.out.cell (World.block_lt_of_cell? w _ hx510_0)).trans hx510_0;replace hx510_1:=(HB.out.cell (World.block_lt_of_cell? w _ hx510_1)).trans hx510_1;have HR510_1:=Aside0.mk hi510_1;have HC510_1:=Aside0.mk hl510_1;clear hi510_1 hl510_1;replace p510:=eq_true p510;replace q510:=eq_true q510))
    go_ret
    exact ⟨by first | rfl | (simp [errW_none,errW_some] <;> rfl) | (simp [*,errW_none,errW_some] <;> rfl),hs1 HB GE508⟩
   rw [if_neg c8] at H;exact absurd H (by simp)
  rw [if_neg c7] at H;exact absurd H (by simp)
 replace c6:=Bool.eq_false_iff.mpr c6;subst c6;have H1 : (some false) = some r:=by rw [if_neg (show ¬ (false = true) by decide)] at H;exact H
 clear H;have H:=H1;clear H1;obtain rfl:=Option.some.inj H
 go_enter Try.func100,Try.ntmps100
 go_wp2_with (first | ((with_reducible refine gate_dst (N:=2) rfl ?_);(try (refine gate_guard (by rfl) ?_;dsimp only));refine box_event ?hg (N:=2) ?hd (cs:=#[.slice A0_0 l0_0.length c0_0]) (t:=44) ?hr ?_;(case hd=>rfl);(case hg=>rfl);(case hr=>first | (go_simp;done) | (go_simp;rfl));intro gb508 hg w11 hbox hb;have n0_:=Aside0.mk (below_step (hs HB) hb);have n1_:=Aside0.mk (hbox);have n2_:=Aside0.mk ((by rw [hg];exact (below_size (hs HB)) : w.heap.size ≤ gb508));have n3_:=Aside0.mk ((by rw [hg];exact (below_size (hs HB)) : w.heap.size ≤ gb508));clear HB;have HB:=n0_;have BK508:=n1_;have GW508:=n2_;have GE508:=n3_;clear n0_ n1_ n2_ n3_;clear hb hbox hg;have hcz12_0 : w11.cell? ⟨gb508,0,none⟩ = some (.slice A0_0 l0_0.length c0_0):=(blk_cell BK508.out 0).trans rfl;have hfz12_0:=blk_frozen BK508.out 0) | (go_at_call 86;(with_reducible refine (spec_l01In.calls a1 0 (wrap64 ((l0_0.length : Int) - 1)) false _ A5.out).mono ?_);rintro e w' ⟨rfl,⟨nd,rfl⟩⟩))
 go_ret
 exact ⟨by first | rfl | (simp [errW_none,errW_some] <;> rfl) | (simp [*,errW_none,errW_some] <;> rfl),hs1 HB GE508⟩
end Go.Proofs.Ytdolplcbokioaaa.PB
