/- FnSweepTrees: functions of the translation as Lean functions with what their calls come to, plain lemmas on them, and, at the end, the row. Parts of one proof, merged by a program of this session; each part's own sentence stands at its head. -/
import Derived.Test.YtjpjikhokpfhmaaMFnSweepTreesd
namespace Go.Proofs.Ytjpjikhokpfhmaa.PT
open Go.RowKit Go.Proofs.YtjpjikhokpfhmaaW.PrintWords Go.Proofs.YtjpjikhokpfhmaaW.PrintLast Go.Proofs.YtjpjikhokpfhmaaW.PrintMore
attribute [local go_sem] max2_int min2_int max_two min_two max_three min_three max_four min_four   -- for this text's walks alone
set_option linter.unusedVariables false
set_option linter.unusedSimpArgs false
mutual
def laws_FnSweepTrees.l0 : Nat → List Int → List Int → List Int → Int → List (S47) → Option (Bool)
 | 0,_,_,_,_,_=>none
 | k + 1,x4,x5,x6,x7,x444000=>if x7 < (x4.length : Int) then (if 0 ≤ (Int.tmod x7 12) then (if (Int.tmod x7 12) < (x5.length : Int) then (if (Int.tmod (rd x5 (Int.tmod x7 12)) 2) = 0 then (if 0 ≤ x7 then (if x6.length < 17592186044416 then (laws_FnSweepTrees.l0 k x4 x5 (x6 ++ [rd x4 x7]) (wrap64 (x7 + 1)) x444000) else (none)) else (none)) else (laws_FnSweepTrees.l0 k x4 x5 x6 (wrap64 (x7 + 1)) x444000)) else (none)) else (none)) else ((impl_SweepArena.f k x444000 x6).bind fun bt455=>((impl_ArenaOk.f k bt455.1).bind fun t462=>(if t462 = true then (if (bt455.2.length : Int) = (x6.length : Int) then (laws_FnSweepTrees.j1 k x6 bt455.2 (decide ((bt455.1.length : Int) > (x444000.length : Int))) x444000 bt455.1) else (laws_FnSweepTrees.j1 k x6 bt455.2 true x444000 bt455.1)) else (laws_FnSweepTrees.j1 k x6 bt455.2 true x444000 bt455.1))))
def laws_FnSweepTrees.j1 : Nat → List Int → List Int → Bool → List (S47) → List (S47) → Option (Bool)
 | 0,_,_,_,_,_=>none
 | k + 1,x6,x9,x67,x444000,x462000=>if x67 = true then (some false) else (laws_FnSweepTrees.l1 k x6 x9 0 x444000 x462000)
def laws_FnSweepTrees.l1 : Nat → List Int → List Int → Int → List (S47) → List (S47) → Option (Bool)
 | 0,_,_,_,_,_=>none
 | k + 1,x6,x9,x10,x444000,x462000=>if x10 < (x6.length : Int) then (if 0 ≤ x10 then (if x10 < (x9.length : Int) then ((impl_AllAt.f k x462000 (rd x9 x10)).bind fun t472=>((spec_AllAt.f k x444000 (rd x6 x10)).bind fun t476=>((laws_sameInts.f k t472 t476).bind fun t479=>(if t479 = true then (laws_FnSweepTrees.l1 k x6 x9 (wrap64 (x10 + 1)) x444000 x462000) else (some false))))) else (none)) else (none)) else ((impl_SweepArena.f k x462000 x9).bind fun bt463=>(if (bt463.1.length : Int) = (x462000.length : Int) then ((laws_sameInts.f k bt463.2 x9).bind fun t470=>(some t470)) else (some false)))
end
def laws_FnSweepTrees.f (k : Nat) (l0 : List Int) : Option (Bool):=(laws_big.f l0).bind fun t436=>(if t436 = true then (some true) else ((spec_DrawForest.f k l0).bind fun bt437=>((spec_DrawPlaces.f k l0).bind fun t444=>(laws_FnSweepTrees.l0 k bt437.2 t444 (([] : List Int)) 0 bt437.1))))
theorem laws_FnSweepTrees.mono_l : ∀ k,(∀ y0 y1 y2 y3 y4,LeO (laws_FnSweepTrees.l0 k y0 y1 y2 y3 y4) (laws_FnSweepTrees.l0 (k + 1) y0 y1 y2 y3 y4)) ∧ (∀ y0 y1 y2 y3 y4,LeO (laws_FnSweepTrees.j1 k y0 y1 y2 y3 y4) (laws_FnSweepTrees.j1 (k + 1) y0 y1 y2 y3 y4)) ∧ (∀ y0 y1 y2 y3 y4,LeO (laws_FnSweepTrees.l1 k y0 y1 y2 y3 y4) (laws_FnSweepTrees.l1 (k + 1) y0 y1 y2 y3 y4))
 | 0=>⟨fun _ _ _ _ _ r h=>by simp [laws_FnSweepTrees.l0] at h,fun _ _ _ _ _ r h=>by simp [laws_FnSweepTrees.j1] at h,fun _ _ _ _ _ r h=>by simp [laws_FnSweepTrees.l1] at h⟩
 | k + 1=>by
  obtain ⟨ih0,ih1,ih2⟩:=laws_FnSweepTrees.mono_l k;refine ⟨?_,?_,?_⟩
  ·intro y0 y1 y2 y3 y4;unfold laws_FnSweepTrees.l0
   repeat' first
   | (with_reducible exact ih0 _ _ _ _ _)
   | (with_reducible exact ih1 _ _ _ _ _)
   | (with_reducible exact ih2 _ _ _ _ _)
   | (with_reducible exact impl_AllAt.mono _ _ _)
   | (with_reducible exact impl_ArenaOk.mono _ _)
   | (with_reducible exact impl_SweepArena.mono _ _ _)
   | (with_reducible exact laws_sameInts.mono _ _ _)
   | (with_reducible exact spec_AllAt.mono _ _ _)
   | (with_reducible exact spec_DrawForest.mono _ _)
   | (with_reducible exact spec_DrawPlaces.mono _ _)
   | (with_reducible exact LeO.refl _)
   | (with_reducible exact LeO.none _)
   | (with_reducible refine LeO.ite ?_ ?_)
   | (with_reducible refine LeO.bind ?_ (fun _=>?_))
   | exact ih0 _ _ _ _ _
   | exact ih1 _ _ _ _ _
   | exact ih2 _ _ _ _ _
   | exact impl_AllAt.mono _ _ _
   | exact impl_ArenaOk.mono _ _
   | exact impl_SweepArena.mono _ _ _
   | exact laws_sameInts.mono _ _ _
   | exact spec_AllAt.mono _ _ _
   | exact spec_DrawForest.mono _ _
   | exact spec_DrawPlaces.mono _ _
   | exact LeO.none _
   | refine LeO.ite ?_ ?_
   | refine LeO.bind ?_ (fun _=>?_)
  ·intro y0 y1 y2 y3 y4;unfold laws_FnSweepTrees.j1
   repeat' first
   | (with_reducible exact ih0 _ _ _ _ _)
   | (with_reducible exact ih1 _ _ _ _ _)
   | (with_reducible exact ih2 _ _ _ _ _)
   | (with_reducible exact impl_AllAt.mono _ _ _)
   | (with_reducible exact impl_ArenaOk.mono _ _)
   | (with_reducible exact impl_SweepArena.mono _ _ _)
   | (with_reducible exact laws_sameInts.mono _ _ _)
   | (with_reducible exact spec_AllAt.mono _ _ _)
   | (with_reducible exact spec_DrawForest.mono _ _)
   | (with_reducible exact spec_DrawPlaces.mono _ _)
   | (with_reducible exact LeO.refl _)
   | (with_reducible exact LeO.none _)
   | (with_reducible refine LeO.ite ?_ ?_)
   | (with_reducible refine LeO.bind ?_ (fun _=>?_))
   | exact ih0 _ _ _ _ _
   | exact ih1 _ _ _ _ _
   | exact ih2 _ _ _ _ _
   | exact impl_AllAt.mono _ _ _
   | exact impl_ArenaOk.mono _ _
   | exact impl_SweepArena.mono _ _ _
   | exact laws_sameInts.mono _ _ _
   | exact spec_AllAt.mono _ _ _
   | exact spec_DrawForest.mono _ _
   | exact spec_DrawPlaces.mono _ _
   | exact LeO.none _
   | refine LeO.ite ?_ ?_
   | refine LeO.bind ?_ (fun _=>?_)
  intro y0 y1 y2 y3 y4;unfold laws_FnSweepTrees.l1
  repeat' first
  | (with_reducible exact ih0 _ _ _ _ _)
  | (with_reducible exact ih1 _ _ _ _ _)
  | (with_reducible exact ih2 _ _ _ _ _)
  | (with_reducible exact impl_AllAt.mono _ _ _)
  | (with_reducible exact impl_ArenaOk.mono _ _)
  | (with_reducible exact impl_SweepArena.mono _ _ _)
  | (with_reducible exact laws_sameInts.mono _ _ _)
  | (with_reducible exact spec_AllAt.mono _ _ _)
  | (with_reducible exact spec_DrawForest.mono _ _)
  | (with_reducible exact spec_DrawPlaces.mono _ _)
  | (with_reducible exact LeO.refl _)
  | (with_reducible exact LeO.none _)
  | (with_reducible refine LeO.ite ?_ ?_)
  | (with_reducible refine LeO.bind ?_ (fun _=>?_))
  | exact ih0 _ _ _ _ _
  | exact ih1 _ _ _ _ _
  | exact ih2 _ _ _ _ _
  | exact impl_AllAt.mono _ _ _
  | exact impl_ArenaOk.mono _ _
  | exact impl_SweepArena.mono _ _ _
  | exact laws_sameInts.mono _ _ _
  | exact spec_AllAt.mono _ _ _
  | exact spec_DrawForest.mono _ _
  | exact spec_DrawPlaces.mono _ _
  | exact LeO.none _
  | refine LeO.ite ?_ ?_
  | refine LeO.bind ?_ (fun _=>?_)
theorem laws_FnSweepTrees.mono : ∀ a0 k,LeO (laws_FnSweepTrees.f k a0) (laws_FnSweepTrees.f (k + 1) a0):=by
 intro a0 k;obtain ⟨ih0,ih1,ih2⟩:=laws_FnSweepTrees.mono_l k;unfold laws_FnSweepTrees.f
 repeat' first
   | (with_reducible exact ih0 _ _ _ _ _)
   | (with_reducible exact ih1 _ _ _ _ _)
   | (with_reducible exact ih2 _ _ _ _ _)
   | (with_reducible exact impl_AllAt.mono _ _ _)
   | (with_reducible exact impl_ArenaOk.mono _ _)
   | (with_reducible exact impl_SweepArena.mono _ _ _)
   | (with_reducible exact laws_sameInts.mono _ _ _)
   | (with_reducible exact spec_AllAt.mono _ _ _)
   | (with_reducible exact spec_DrawForest.mono _ _)
   | (with_reducible exact spec_DrawPlaces.mono _ _)
   | (with_reducible exact LeO.refl _)
   | (with_reducible exact LeO.none _)
   | (with_reducible refine LeO.ite ?_ ?_)
   | (with_reducible refine LeO.bind ?_ (fun _=>?_))
   | exact ih0 _ _ _ _ _
   | exact ih1 _ _ _ _ _
   | exact ih2 _ _ _ _ _
   | exact impl_AllAt.mono _ _ _
   | exact impl_ArenaOk.mono _ _
   | exact impl_SweepArena.mono _ _ _
   | exact laws_sameInts.mono _ _ _
   | exact spec_AllAt.mono _ _ _
   | exact spec_DrawForest.mono _ _
   | exact spec_DrawPlaces.mono _ _
   | exact LeO.none _
   | refine LeO.ite ?_ ?_
   | refine LeO.bind ?_ (fun _=>?_)
def laws_FnSweepTrees.T17 : Bool × List (List Nat × List Nat):=(true,[([],[]),([],[]),([],[]),([1,2],[1,2]),([3],[3]),([0,4],[0,4]),([],[]),([],[]),([],[]),([7,8],[7,8]),([9],[9]),([6,10,5],[6,10]),([5,11,11],[5,11]),([12],[12])])
def laws_FnSweepTrees.B17 : List Nat:=[0,0,0,6,14,31,0,0,0,384,896,2047,4095,8191]
theorem laws_FnSweepTrees.tab17 : rtab .any (opsOf Try.f5 17) = laws_FnSweepTrees.T17:=by kernel_rfl
theorem laws_FnSweepTrees.bits17 : waitsOk laws_FnSweepTrees.T17.2 laws_FnSweepTrees.B17 = true:=by kernel_rfl
set_option maxHeartbeats 8000000 in
set_option maxRecDepth 100000 in
theorem laws_FnSweepTrees.calls (k : Nat) (A0 : Option Addr) (c0 : Nat) (l0 : List Int) (r : Bool) (hT : Aside0 (r = true)) (w : World) (hr0 : Kd.C (Kd.int .u8) w A0 l0.length l0) (hc0 : l0.length ≤ c0) (h : laws_FnSweepTrees.f k l0 = some r) :
  Calls Try.prog 5 #[.slice A0 l0.length c0] w fun e w'=>e = .returned (.bool r) ∧ Below w.heap.size w w':=by
 have hu26:=Try.underlying26;have HR0:=zMk hr0;have HC0:=zMk hc0;clear hr0 hc0;have HB:=zMk (Below.refl w.heap.size w);have H : ((laws_big.f l0).bind fun t436=>(if t436 = true then (some true) else ((spec_DrawForest.f k l0).bind fun bt437=>((spec_DrawPlaces.f k l0).bind fun t444=>(laws_FnSweepTrees.l0 k bt437.2 t444 (([] : List Int)) 0 bt437.1))))) = some r:=h;clear h;replace H:=Option.bind_eq_some_iff.mp H;obtain ⟨t436,A20,H⟩:=H;replace H : (if t436 = true then (some true) else ((spec_DrawForest.f k l0).bind fun bt437=>((spec_DrawPlaces.f k l0).bind fun t444=>(laws_FnSweepTrees.l0 k bt437.2 t444 (([] : List Int)) 0 bt437.1)))) = some r:=H;have A2:=zMk A20;clear A20
 by_cases c3 : t436 = true
 ·subst c3;have H1 : (some true) = some r:=by rw [if_pos rfl] at H;exact H
  clear H;have H:=H1;clear H1;obtain rfl:=Option.some.inj H
  go_enter Try.func5,Try.ntmps5
  go_wp2_with (first | ((with_reducible refine gate_callee (f:=6) rfl ?_);refine goesL_ (some 14) rfl rfl Try.func6 (by kernel_rfl) rfl #[.slice A0 l0.length c0] rfl (by (try simp only [List.map_toArray,List.map_cons,List.map_nil]);first | done | rfl | (simp only [List.length_drop,List.length_take];rfl)) ?_;(with_reducible refine (laws_big.calls _ _ l0 true _ ?side1 ?side2 A2.out).mono ?_);(case side1=>repeat (first | exact HR0.out | (with_reducible refine Kd.C_alloc ?_ _) | (with_reducible refine Kd.C_drewN ?_ _) | (with_reducible refine Kd.C_drew ?_)));(case side2=>exact HC0.out);rintro e w' ⟨rfl,⟨nd,rfl⟩⟩;refine ⟨_,rfl,?_⟩))
  go_ret
  exact ⟨by first | rfl | (simp [errW_none,errW_some] <;> rfl) | (simp [*,errW_none,errW_some] <;> rfl),hs HB⟩
 replace c3:=Bool.eq_false_iff.mpr c3;subst c3;have H1 : ((spec_DrawForest.f k l0).bind fun bt437=>((spec_DrawPlaces.f k l0).bind fun t444=>(laws_FnSweepTrees.l0 k bt437.2 t444 (([] : List Int)) 0 bt437.1))) = some r:=by rw [if_neg (show ¬ (false = true) by decide)] at H;exact H
 clear H;have H:=H1;clear H1;replace H:=Option.bind_eq_some_iff.mp H;obtain ⟨⟨t437,t440⟩,A40,H⟩:=H;replace H : ((spec_DrawPlaces.f k l0).bind fun t444=>(laws_FnSweepTrees.l0 k t440 t444 (([] : List Int)) 0 t437)) = some r:=H;have A4:=zMk A40;clear A40;replace H:=Option.bind_eq_some_iff.mp H;obtain ⟨t444,A50,H⟩:=H;replace H : (laws_FnSweepTrees.l0 k t440 t444 (([] : List Int)) 0 t437) = some r:=H;have A5:=zMk A50;clear A50;obtain ⟨y447,hy447⟩ : ∃ y_ : List Int,y_ = (([] : List Int)):=⟨_,rfl⟩;replace H : (laws_FnSweepTrees.l0 k t440 t444 y447 0 t437) = some r:=by first | (rw [hy447];with_reducible exact H) | (have H2_:=(Option.bind_some _ _).symm.trans H;rw [hy447];with_reducible exact H2_) | (have H2_:=(Option.bind_some _ _).symm.trans H;with_reducible exact H2_) | with_reducible exact H | (rw [hy447];exact H) | exact H
 have Ny447:=zMk hy447;clear hy447;have H':=zMk H;clear H
 go_enter Try.func5,Try.ntmps5
 go_wp2_with (first | ((with_reducible refine gate_callee (f:=6) rfl ?_);refine goesL_ (some 14) rfl rfl Try.func6 (by kernel_rfl) rfl #[.slice A0 l0.length c0] rfl (by (try simp only [List.map_toArray,List.map_cons,List.map_nil]);first | done | rfl | (simp only [List.length_drop,List.length_take];rfl)) ?_;(with_reducible refine (laws_big.calls _ _ l0 false _ ?side1 ?side2 A2.out).mono ?_);(case side1=>repeat (first | exact HR0.out | (with_reducible refine Kd.C_alloc ?_ _) | (with_reducible refine Kd.C_drewN ?_ _) | (with_reducible refine Kd.C_drew ?_)));(case side2=>exact HC0.out);rintro e w' ⟨rfl,⟨nd,rfl⟩⟩;refine ⟨_,rfl,?_⟩) | ((with_reducible refine gate_callee (f:=7) rfl ?_);refine goesL_ (some 17) rfl rfl Try.func7 (by kernel_rfl) rfl #[.slice A0 l0.length c0] rfl (by (try simp only [List.map_toArray,List.map_cons,List.map_nil]);first | done | rfl | (simp only [List.length_drop,List.length_take];rfl)) ?_;(with_reducible refine (spec_DrawForest.calls k _ _ l0 t437 t440 _ ?side1 ?side2 A4.out).mono ?_);(case side1=>repeat (first | exact HR0.out | (with_reducible refine Kd.C_alloc ?_ _) | (with_reducible refine Kd.C_drewN ?_ _) | (with_reducible refine Kd.C_drew ?_)));(case side2=>exact HC0.out);rintro e w6 ⟨v438,v441,rfl,ho0,ho1,hb⟩;refine ⟨_,rfl,?_⟩;have n0_:=zMk (Kd.S_lower ho0 (below_size (hs HB)));have n1_:=zMk (Kd.R_lower ho1 (below_size (hs HB)));have n2_:=zMk (below_step (hs HB) hb);clear HB;have HO439:=n0_;have HO442:=n1_;have HB:=n2_;clear n0_ n1_ n2_;(try clear hb);(try clear hb2);(try clear hk);(try clear hi);(try clear ho0);(try clear ho1)) | ((with_reducible refine gate_dst (N:=3) rfl ?_);(try (refine gate_guard (by rfl) ?_;dsimp only));refine box_event ?hg (N:=3) ?hd (cs:=#[.slice none 0 0]) (t:=26) ?hr ?_;(case hd=>rfl);(case hg=>rfl);(case hr=>first | (go_simp;done) | (go_simp;rfl));intro gb443 hg w7 hbox hb;have n0_:=zMk (Kd.S_below (ss HO439) hb);have n1_:=zMk (Kd.R_below (rs HO442) hb);have n2_:=zMk (below_step (hs HB) hb);have n3_:=zMk (hbox);have n4_:=zMk ((by rw [hg];exact (below_size (hs HB)) : w.heap.size ≤ gb443));have n5_:=zMk ((by rw [hg];exact (below_size (hs HB)) : w.heap.size ≤ gb443));clear HO439;clear HO442;clear HB;have HO439:=n0_;have HO442:=n1_;have HB:=n2_;have BK443:=n3_;have GW443:=n4_;have GE443:=n5_;clear n0_ n1_ n2_ n3_ n4_ n5_;clear hb hbox hg;obtain ⟨Ao8,co8,eo8⟩:=Kd.S_slice HO439.out;subst eo8;have hcz9_0 : w7.cell? ⟨gb443,0,none⟩ = some (.slice none 0 0):=(zCl BK443.out 0).trans rfl;have hfz9_0:=zFr BK443.out 0) | ((with_reducible refine gate_callee (f:=8) rfl ?_);refine goesL_ (some 21) rfl rfl Try.func8 (by kernel_rfl) rfl #[.slice A0 l0.length c0] rfl (by (try simp only [List.map_toArray,List.map_cons,List.map_nil]);first | done | rfl | (simp only [List.length_drop,List.length_take];rfl)) ?_;(with_reducible refine (spec_DrawPlaces.calls k _ _ l0 t444 _ ?side1 ?side2 A5.out).mono ?_);(case side1=>exact Kd.C_below HR0.out (hs1 HB GE443));(case side2=>exact HC0.out);rintro e w10 ⟨v445,rfl,ho0,hb⟩;refine ⟨_,rfl,?_⟩;have n0_:=zMk (Kd.S_elder' (by (with_reducible repeat (first | apply Kd.S_alloc | apply Kd.S_drewN | apply Kd.S_drew));exact (Kd.S_mono (Kd.S_far (p:=⟨gb443,0,none⟩) (Kd.S_types HO439.out BK443.out (by decide)) (fun _ hk=>hk.2) (.slice Ao8 t437.length co8)) (fun _ h_=>h_.1))) (Kd.R_base ho0) hb);have n1_:=zMk (Kd.R_elder' (by (with_reducible repeat (first | apply Kd.R_alloc | apply Kd.R_drewN | apply Kd.R_drew));exact (Kd.R_mono (Kd.R_far (p:=⟨gb443,0,none⟩) (Kd.R_types HO442.out BK443.out (by decide)) (fun _ hk=>hk.2) (.slice Ao8 t437.length co8)) (fun _ h_=>h_.1))) (Kd.R_base ho0) hb);have n2_:=zMk (Kd.R_lower (Kd.R_new' ho0 (Kd.R_lt (by (with_reducible repeat (first | apply Kd.R_alloc | apply Kd.R_drewN | apply Kd.R_drew));exact (Kd.R_mono (Kd.R_far (p:=⟨gb443,0,none⟩) (Kd.R_types HO442.out BK443.out (by decide)) (fun _ hk=>hk.2) (.slice Ao8 t437.length co8)) (fun _ h_=>h_.1))))) (below_size (hs1 HB GE443)));have n3_:=zMk (blk_below (g:=gb443) (o:=.cells #[.slice Ao8 t437.length co8] 26 (0,0)) (by (with_reducible repeat (first | refine blk_drewN ?_ _ | refine blk_drew ?_ | refine blk_alloc ?_ _));refine blk_put (cs:=#[.slice none 0 0]) ?_ 0 _ rfl;(with_reducible repeat (first | refine blk_drewN ?_ _ | refine blk_drew ?_ | refine blk_alloc ?_ _));exact BK443.out) hb);have n4_:=zMk (below_step (hs1 HB GE443) hb);clear HO439;clear HO442;clear BK443;clear HB;have HO439:=n0_;have HO442:=n1_;have HO446:=n2_;have BK443:=n3_;have HB:=n4_;clear n0_ n1_ n2_ n3_ n4_;(try clear hb);(try clear hb2);(try clear hk);(try clear hi);(try clear ho0)) | ((with_reducible refine gate_dst (N:=22) rfl ?_);(try (refine gate_guard (by rfl) ?_;dsimp only));refine Kd.R_lit (Kd.int .i64) _ 3 ?hg (N:=22) ?hd (xs:=([] : List Int)) (inner:=[]) (ok:=fun _=>True) (okp:=fun _=>True) ?hr ?hp (fun _ hk=>hk) trivial (Below.refl _ _) (Nat.le_refl _) (by simp) ?_;(case hd=>rfl);(case hg=>rfl);(case hr=>first | (go_simp;done) | (go_simp;rfl));(case hp=>exact (Reps.none _ _));intro v448 w11 ho12 hb hg_ hnew_;clear hg_ hnew_;(first | rw [← Ny447.out] at ho12 | (simp only [Int.reduceToNat] at ho12;rw [← Ny447.out] at ho12));have n0_:=zMk (Kd.S_elder' (ss HO439) (Kd.R_base ho12) hb);have n1_:=zMk (Kd.R_elder' (rs HO442) (Kd.R_base ho12) hb);have n2_:=zMk (Kd.R_elder' (rs HO446) (Kd.R_base ho12) hb);have n3_:=zMk (Kd.R_lower (Kd.R_new' (Kd.R_new' ho12 (Kd.R_lt (rs HO442))) (Kd.R_lt (rs HO446))) (below_size (hs1 HB GE443)));have n4_:=zMk (blk_below (g:=gb443) (o:=.cells #[.slice Ao8 t437.length co8] 26 (0,0)) (bs BK443) hb);have n5_:=zMk (below_step (hs1 HB GE443) hb);clear HO439;clear HO442;clear HO446;clear BK443;clear HB;have HO439:=n0_;have HO442:=n1_;have HO446:=n2_;have HO449:=n3_;have BK443:=n4_;have HB:=n5_;clear n0_ n1_ n2_ n3_ n4_ n5_;clear hb ho12));go_loopg [6,7] k (fun kq v6 v7 w'=>∃ (x6_1 : List Int) (x7_1 : Int),v7 = .int .i64 x7_1 ∧ Aside0 (laws_FnSweepTrees.l0 kq t440 t444 x6_1 x7_1 t437 = some r) ∧ Aside0 (kq ≤ k) ∧ Aside0 (Kd.R (Kd.int .i64) 3 w' w.heap.size (fun k_=>some k_ ≠ (v445 : Value).ownBlock ∧ some k_ ≠ (v6 : Value).ownBlock) v441 t440) ∧ Aside0 (Kd.R (Kd.int .i64) 3 w' w.heap.size (fun k_=>some k_ ≠ (v441 : Value).ownBlock ∧ some k_ ≠ (v6 : Value).ownBlock) v445 t444) ∧ Aside0 (Kd.R (Kd.int .i64) 3 w' w.heap.size (fun k_=>some k_ ≠ (v441 : Value).ownBlock ∧ some k_ ≠ (v445 : Value).ownBlock) v6 x6_1) ∧ Aside0 (Kd.S k47 47 w' w.heap.size (fun k_=>some k_ ≠ (v441 : Value).ownBlock ∧ some k_ ≠ (v445 : Value).ownBlock ∧ some k_ ≠ (v6 : Value).ownBlock) (.slice Ao8 t437.length co8) t437) ∧ Aside0 (w'.heap[gb443]? = some (.cells #[(.slice Ao8 t437.length co8)] 26 (0,0))) ∧ Aside0 (Below w.heap.size w w'));case atStart=>exact ⟨(y447),(0),(by first | rfl | (simp;done) | (simp [*];done)),H',⟨Nat.le_refl _⟩,⟨by (with_reducible repeat (first | apply Kd.R_alloc | apply Kd.R_drewN | apply Kd.R_drew));exact Kd.R_mono HO442.out (fun _ hk=>⟨hk.1.2,hk.2⟩)⟩,⟨by (with_reducible repeat (first | apply Kd.R_alloc | apply Kd.R_drewN | apply Kd.R_drew));exact Kd.R_mono HO446.out (fun _ hk=>⟨hk.1.2,hk.2⟩)⟩,⟨by (with_reducible repeat (first | apply Kd.R_alloc | apply Kd.R_drewN | apply Kd.R_drew));exact Kd.R_mono HO449.out (fun _ hk=>⟨hk.1.2,hk.2⟩)⟩,⟨by (with_reducible repeat (first | apply Kd.S_alloc | apply Kd.S_drewN | apply Kd.S_drew));exact Kd.S_mono HO439.out (fun _ hk=>⟨hk.1.1,⟨hk.1.2,hk.2⟩⟩)⟩,⟨bs BK443⟩,⟨hs1 HB GE443⟩⟩
 case round =>
  clear H'
  try clear p2
  try clear c3
  try clear c5
  try clear c6
  try clear c7
  try clear c8
  try clear hcz9_0
  try clear hfz9_0
  obtain ⟨x6_1,x7_1,rfl,HA,HK1,HO_4,HO_5,HO_6,HO_444000,BK443,HB⟩:=hrel;cases gk with
  | zero=>exact absurd HA.out (by simp [laws_FnSweepTrees.l0])
  | succ k1 =>
   have H:=HA.out;clear HA;simp only [laws_FnSweepTrees.l0] at H
   by_cases c13 : x7_1 < (t440.length : Int)
   ·rw [if_pos c13] at H;have c13b0 : decide (x7_1 < (t440.length : Int)) = true:=decide_eq_true c13;clear c13;obtain ⟨ji14,hji14⟩ : ∃ j_ : Int,(Int.tmod x7_1 12) = j_:=⟨_,rfl⟩;replace H : (if 0 ≤ (ji14) then (if (ji14) < (t444.length : Int) then (if (Int.tmod (rd t444 (ji14)) 2) = 0 then (if 0 ≤ x7_1 then (if x6_1.length < 17592186044416 then (laws_FnSweepTrees.l0 k1 t440 t444 (x6_1 ++ [rd t440 x7_1]) (wrap64 (x7_1 + 1)) t437) else (none)) else (none)) else (laws_FnSweepTrees.l0 k1 t440 t444 x6_1 (wrap64 (x7_1 + 1)) t437)) else (none)) else (none)) = some r:=by first | (rw [hji14] at H;exact H) | (simp only [hji14] at H ⊢;exact H)
    by_cases c15 : 0 ≤ (ji14)
    ·rw [if_pos c15] at H;have c15b0 : decide (0 ≤ (ji14)) = true:=decide_eq_true c15;clear c15
     by_cases c16 : (ji14) < (t444.length : Int)
     ·rw [if_pos c16] at H;have c16b0 : decide ((ji14) < (t444.length : Int)) = true:=decide_eq_true c16;clear c16
      by_cases c17 : (Int.tmod (rd t444 (ji14)) 2) = 0
      ·rw [if_pos c17] at H;have c17b0 : ((Int.tmod (rd t444 (ji14)) 2) == 0) = true:=beq_iff_eq.mpr c17;have c17b1 : ((Int.tmod (rd t444 (ji14)) 2) != 0) = false:=bne_eq_false_iff_eq.mpr c17;clear c17
       by_cases c18 : 0 ≤ x7_1
       ·rw [if_pos c18] at H;have c18b0 : decide (0 ≤ x7_1) = true:=decide_eq_true c18;clear c18
        by_cases c19 : x6_1.length < 17592186044416
        ·rw [if_pos c19] at H;have LMc19:=zMk c19;clear c19;obtain ⟨y452,hy452⟩ : ∃ y_ : List Int,y_ = (x6_1 ++ [rd t440 x7_1]):=⟨_,rfl⟩;replace H : (laws_FnSweepTrees.l0 k1 t440 t444 y452 (wrap64 (x7_1 + 1)) t437) = some r:=by first | (rw [hy452];with_reducible exact H) | (have H2_:=(Option.bind_some _ _).symm.trans H;rw [hy452];with_reducible exact H2_) | (have H2_:=(Option.bind_some _ _).symm.trans H;with_reducible exact H2_) | with_reducible exact H | (rw [hy452];exact H) | exact H
         have Ny452:=zMk hy452;clear hy452;have H':=zMk H;clear H;obtain ⟨Ao20,co20,eo20⟩:=Kd.R_slice HO_4.out;subst eo20;obtain ⟨Ao21,co21,eo21⟩:=Kd.R_slice HO_5.out;subst eo21;have p450 : 0 ≤ ((ji14) : Int):=of_decide_eq_true (by first | (with_reducible assumption) | assumption);have q450 : (ji14) < (t444.length : Int):=of_decide_eq_true (by first | (with_reducible assumption) | assumption);obtain ⟨ad450,e450,hx450_0⟩:=Kd.at_int (Kd.R_reads' HO_5.out).2.2 (ji14) p450 q450;cases e450;replace p450:=eq_true p450;replace q450:=eq_true q450;have p451 : 0 ≤ (x7_1 : Int):=of_decide_eq_true (by first | (with_reducible assumption) | assumption);have q451 : x7_1 < (t440.length : Int):=of_decide_eq_true (by first | (with_reducible assumption) | assumption);obtain ⟨ad451,e451,hx451_0⟩:=Kd.at_int (Kd.R_reads' HO_4.out).2.2 x7_1 p451 q451;cases e451;replace p451:=eq_true p451;replace q451:=eq_true q451;go_wp2_with (first | ((with_reducible refine gate_builtin (b:=.append) (xs:=#[.tmp 36,.tmp 41]) rfl ?_);(try (refine gate_guard (by rfl) ?_;dsimp only));at_builtin;refine Kd.R_append (Kd.int .i64) (w0:=w) w.heap.size rfl (.tmp 36) (.tmp 41) 27 3 (.int .i64 0) 8 rfl Try.underlying27 info3 rfl (by decide) (by omega) u6 x6_1 (rd t440 x7_1) [.int .i64 (rd t440 x7_1)] (fun k_=>some k_ ≠ (.slice (some ad451) t440.length co20 : Value).ownBlock ∧ some k_ ≠ (.slice (some ad450) t444.length co21 : Value).ownBlock) (fun _=>False) rfl rfl ?aP (fun _ hk=>hk.elim) ?aF ?aO ?aB ?aS ?aL ?_;(case aP=>exact rfl);(case aB=>exact (hs1 HB GE443));(case aF=>exact (fun k_ hk=>⟨Kd.fresh' (Kd.R_lt (rs HO_4)) k_ hk,Kd.fresh' (Kd.R_lt (rs HO_5)) k_ hk⟩));(case aO=>exact (rs HO_6));(case aS=>exact (below_size (hs1 HB GE443)));(case aL=>have:=LMc19.out;omega);intro v453 w22 ho hb hg hat;rw [← Ny452.out] at ho;have n0_:=zMk (Kd.R_after (ok:=(fun k_=>some k_ ≠ (.slice (some ad450) t444.length co21 : Value).ownBlock)) (rs HO_4) hg hat);have n1_:=zMk (Kd.R_after (ok:=(fun k_=>some k_ ≠ (.slice (some ad451) t440.length co20 : Value).ownBlock)) (rs HO_5) hg hat);have n2_:=zMk (Kd.S_after (ok:=(fun k_=>some k_ ≠ (.slice (some ad451) t440.length co20 : Value).ownBlock ∧ some k_ ≠ (.slice (some ad450) t444.length co21 : Value).ownBlock)) (by (with_reducible repeat (first | apply Kd.S_alloc | apply Kd.S_drewN | apply Kd.S_drew));exact Kd.S_mono HO_444000.out (fun _ hk=>⟨⟨hk.1,hk.2.1⟩,hk.2.2⟩)) hg hat);have n3_:=zMk (blk_grown (g:=gb443) (o:=.cells #[.slice Ao8 t437.length co8] 26 (0,0)) (bs BK443) hg (Kd.R_ne HO_6.out BK443.out (by decide)));have n4_:=zMk (hb);have n5_:=zMk (ho);clear HO_4;clear HO_5;clear HO_444000;clear BK443;clear HB;clear HO_6;have HO_4:=n0_;have HO_5:=n1_;have HO_444000:=n2_;have BK443:=n3_;have HB:=n4_;have HO454:=n5_;clear n0_ n1_ n2_ n3_ n4_ n5_;clear ho hb hg hat));go_roundg k1;case measure=>have:=HK1.out;omega
         case rel=>exact ⟨(y452),(wrap64 (x7_1 + 1)),(by first | rfl | (simp;done) | (simp [*];done)),H',⟨by have:=HK1.out;omega⟩,⟨rs HO_4⟩,⟨rs HO_5⟩,⟨rs HO454⟩,⟨by (with_reducible repeat (first | apply Kd.S_alloc | apply Kd.S_drewN | apply Kd.S_drew));exact Kd.S_mono HO_444000.out (fun _ hk=>⟨hk.1.1,⟨hk.1.2,hk.2⟩⟩)⟩,⟨bs BK443⟩,⟨hs1 HB GE443⟩⟩
        rw [if_neg c19] at H;exact absurd H (by simp)
       rw [if_neg c18] at H;exact absurd H (by simp)
      rw [if_neg c17] at H;have c17b0 : ((Int.tmod (rd t444 (ji14)) 2) == 0) = false:=beq_eq_false_iff_ne.mpr c17;have c17b1 : ((Int.tmod (rd t444 (ji14)) 2) != 0) = true:=bne_iff_ne.mpr c17;have H':=zMk H;clear H;obtain ⟨Ao23,co23,eo23⟩:=Kd.R_slice HO_4.out;subst eo23;obtain ⟨Ao24,co24,eo24⟩:=Kd.R_slice HO_5.out;subst eo24;have p450 : 0 ≤ ((ji14) : Int):=of_decide_eq_true (by first | (with_reducible assumption) | assumption);have q450 : (ji14) < (t444.length : Int):=of_decide_eq_true (by first | (with_reducible assumption) | assumption);obtain ⟨ad450,e450,hx450_0⟩:=Kd.at_int (Kd.R_reads' HO_5.out).2.2 (ji14) p450 q450;cases e450;replace p450:=eq_true p450;replace q450:=eq_true q450
      go_wp2
      go_roundg k1;case measure=>have:=HK1.out;omega
      case rel=>exact ⟨(x6_1),(wrap64 (x7_1 + 1)),(by first | rfl | (simp;done) | (simp [*];done)),H',⟨by have:=HK1.out;omega⟩,⟨rs HO_4⟩,⟨rs HO_5⟩,⟨rs HO_6⟩,⟨ss HO_444000⟩,⟨bs BK443⟩,⟨hs1 HB GE443⟩⟩
     rw [if_neg c16] at H;exact absurd H (by simp)
    rw [if_neg c15] at H;exact absurd H (by simp)
   rw [if_neg c13] at H;have c13b0 : decide (x7_1 < (t440.length : Int)) = false:=decide_eq_false c13;clear c13;replace H:=Option.bind_eq_some_iff.mp H;obtain ⟨⟨t455,t458⟩,A250,H⟩:=H;replace H : ((impl_ArenaOk.f k1 t455).bind fun t462=>(if t462 = true then (if (t458.length : Int) = (x6_1.length : Int) then (laws_FnSweepTrees.j1 k1 x6_1 t458 (decide ((t455.length : Int) > (t437.length : Int))) t437 t455) else (laws_FnSweepTrees.j1 k1 x6_1 t458 true t437 t455)) else (laws_FnSweepTrees.j1 k1 x6_1 t458 true t437 t455))) = some r:=H;have A25:=zMk A250;clear A250;have HC26:=zMk H;clear H;obtain ⟨Ao27,co27,eo27⟩:=Kd.R_slice HO_4.out;subst eo27;have hcz28_0 : wr.cell? ⟨gb443,0,none⟩ = some (.slice Ao8 t437.length co8):=(zCl BK443.out 0).trans rfl;have hfz28_0:=zFr BK443.out 0;obtain ⟨Ao29,co29,eo29⟩:=Kd.R_slice HO_6.out;subst eo29;go_upto_region 12 with (first | ((with_reducible refine gate_callee (f:=18) rfl ?_);refine goesL_ (some 46) rfl rfl Try.func18 (by kernel_rfl) rfl #[.agg #[.slice Ao8 t437.length co8],.slice Ao29 x6_1.length co29] rfl (by (try simp only [List.map_toArray,List.map_cons,List.map_nil]);first | done | rfl | (simp only [List.length_drop,List.length_take];rfl)) ?_;(with_reducible refine (impl_SweepArena.calls k1 _ _ t437 _ _ x6_1 t455 t458 _ ?side1 ?side2 ?side3 ?side4 A25.out).mono ?_);(case side1=>repeat (first | exact (Kd.S_reads' HO_444000.out).2.2 | (with_reducible refine Kd.C_alloc ?_ _) | (with_reducible refine Kd.C_drewN ?_ _) | (with_reducible refine Kd.C_drew ?_)));(case side2=>exact (Kd.S_reads' HO_444000.out).2.1);(case side3=>repeat (first | exact (Kd.R_reads' HO_6.out).2.2 | (with_reducible refine Kd.C_alloc ?_ _) | (with_reducible refine Kd.C_drewN ?_ _) | (with_reducible refine Kd.C_drew ?_)));(case side4=>exact (Kd.R_reads' HO_6.out).2.1);rintro e w30 ⟨v456,v459,rfl,ho0,ho1,hb⟩;refine ⟨_,rfl,?_⟩;have n0_:=zMk (Kd.R_elder' (rs HO_4) (Kd.R_base ho1) hb);have n1_:=zMk (Kd.R_elder' (rs HO_5) (Kd.R_base ho1) hb);have n2_:=zMk (Kd.R_elder' (rs HO_6) (Kd.R_base ho1) hb);have n3_:=zMk (Kd.S_mono (Kd.S_told (Kd.S_told (Kd.S_old (ss HO_444000) hb) (Kd.S_base ho0)) (Kd.R_base ho1)) (fun _ h_=>h_.1));have n4_:=zMk (Kd.S_lower (Kd.S_new' (Kd.S_new' (Kd.S_new' (Kd.S_new' ho0 (Kd.R_lt (rs HO_4))) (Kd.R_lt (rs HO_5))) (Kd.R_lt (rs HO_6))) (Kd.S_lt (ss HO_444000))) (below_size (hs1 HB GE443)));have n5_:=zMk (Kd.R_lower (Kd.R_new' (Kd.R_new' (Kd.R_new' ho1 (Kd.R_lt (rs HO_4))) (Kd.R_lt (rs HO_5))) (Kd.R_lt (rs HO_6))) (below_size (hs1 HB GE443)));have n6_:=zMk (blk_below (g:=gb443) (o:=.cells #[.slice Ao8 t437.length co8] 26 (0,0)) (bs BK443) hb);have n7_:=zMk (below_step (hs1 HB GE443) hb);clear HO_4;clear HO_5;clear HO_6;clear HO_444000;clear BK443;clear HB;have HO_4:=n0_;have HO_5:=n1_;have HO_6:=n2_;have HO_444000:=n3_;have HO457:=n4_;have HO460:=n5_;have BK443:=n6_;have HB:=n7_;clear n0_ n1_ n2_ n3_ n4_ n5_ n6_ n7_;(try clear hb);(try clear hb2);(try clear hk);(try clear hi);(try clear ho0);(try clear ho1)) | ((with_reducible refine gate_dst (N:=8) rfl ?_);(try (refine gate_guard (by rfl) ?_;dsimp only));refine box_event ?hg (N:=8) ?hd (cs:=#[.slice none 0 0]) (t:=26) ?hr ?_;(case hd=>rfl);(case hg=>rfl);(case hr=>first | (go_simp;done) | (go_simp;rfl));intro gb461 hg w31 hbox hb;have n0_:=zMk (Kd.R_below (rs HO_4) hb);have n1_:=zMk (Kd.R_below (rs HO_5) hb);have n2_:=zMk (Kd.R_below (rs HO_6) hb);have n3_:=zMk (Kd.S_below (ss HO_444000) hb);have n4_:=zMk (Kd.S_below (ss HO457) hb);have n5_:=zMk (Kd.R_below (rs HO460) hb);have n6_:=zMk (blk_below (g:=gb443) (o:=.cells #[.slice Ao8 t437.length co8] 26 (0,0)) (bs BK443) hb);have n7_:=zMk (below_step (hs1 HB GE443) hb);have n8_:=zMk (hbox);have n9_:=zMk ((by rw [hg];exact (below_size (hs1 HB GE443)) : w.heap.size ≤ gb461));have n10_:=zMk ((by rw [hg];exact (below_size (hs1 HB GE443)) : w.heap.size ≤ gb461));have n11_:=zMk ((by rw [hg];exact Nat.ne_of_lt (blk_lt (g:=gb443) (o:=.cells #[.slice Ao8 t437.length co8] 26 (0,0)) (bs BK443)) : gb443 ≠ gb461));have n12_:=zMk ((by rw [hg];exact Nat.ne_of_gt (blk_lt (g:=gb443) (o:=.cells #[.slice Ao8 t437.length co8] 26 (0,0)) (bs BK443)) : gb461 ≠ gb443));clear HO_4;clear HO_5;clear HO_6;clear HO_444000;clear HO457;clear HO460;clear BK443;clear HB;have HO_4:=n0_;have HO_5:=n1_;have HO_6:=n2_;have HO_444000:=n3_;have HO457:=n4_;have HO460:=n5_;have BK443:=n6_;have HB:=n7_;have BK461:=n8_;have GW461:=n9_;have GE461:=n10_;have NB443_461:=n11_;have NB461_443:=n12_;clear n0_ n1_ n2_ n3_ n4_ n5_ n6_ n7_ n8_ n9_ n10_ n11_ n12_;clear hb hbox hg;obtain ⟨Ao32,co32,eo32⟩:=Kd.S_slice HO457.out;subst eo32;have hnb33:=NB461_443.out;have hnc33:=NB443_461.out;have hcz34_0 : w31.cell? ⟨gb461,0,none⟩ = some (.slice none 0 0):=(zCl BK461.out 0).trans rfl;have hfz34_0:=zFr BK461.out 0))
   (try simp only [Act.put,List.setIfInBounds_toArray,List.set_cons_zero,List.set_cons_succ])
   go_cut [67] (fun v67 wc=>∃ (kq : Nat) (x67_25 : Bool),v67 = .bool x67_25 ∧ Aside0 (laws_FnSweepTrees.j1 kq x6_1 t458 x67_25 t437 t455 = some r) ∧ Aside0 (kq ≤ k1) ∧ Aside0 (Kd.R (Kd.int .i64) 3 wc w.heap.size (fun k_=>some k_ ≠ (v459 : Value).ownBlock) (.slice Ao29 x6_1.length co29) x6_1) ∧ Aside0 (Kd.R (Kd.int .i64) 3 wc w.heap.size (fun k_=>some k_ ≠ ((.slice Ao29 x6_1.length co29) : Value).ownBlock) v459 t458) ∧ Aside0 (Kd.S k47 47 wc w.heap.size (fun k_=>some k_ ≠ ((.slice Ao29 x6_1.length co29) : Value).ownBlock ∧ some k_ ≠ (v459 : Value).ownBlock ∧ some k_ ≠ ((.slice Ao32 t455.length co32) : Value).ownBlock) (.slice Ao8 t437.length co8) t437) ∧ Aside0 (Kd.S k47 47 wc w.heap.size (fun k_=>some k_ ≠ ((.slice Ao29 x6_1.length co29) : Value).ownBlock ∧ some k_ ≠ (v459 : Value).ownBlock ∧ some k_ ≠ ((.slice Ao8 t437.length co8) : Value).ownBlock) (.slice Ao32 t455.length co32) t455) ∧ Aside0 (wc.heap[gb443]? = some (.cells #[(.slice Ao8 t437.length co8)] 26 (0,0))) ∧ Aside0 (wc.heap[gb461]? = some (.cells #[(.slice Ao32 t455.length co32)] 26 (0,0))) ∧ Aside0 (Below w.heap.size w wc))
   case first =>
    have H:=HC26.out;clear HC26;replace H:=Option.bind_eq_some_iff.mp H;obtain ⟨t462,A350,H⟩:=H;replace H : (if t462 = true then (if (t458.length : Int) = (x6_1.length : Int) then (laws_FnSweepTrees.j1 k1 x6_1 t458 (decide ((t455.length : Int) > (t437.length : Int))) t437 t455) else (laws_FnSweepTrees.j1 k1 x6_1 t458 true t437 t455)) else (laws_FnSweepTrees.j1 k1 x6_1 t458 true t437 t455)) = some r:=H;have A35:=zMk A350;clear A350
    by_cases c36 : t462 = true
    ·subst c36;have H1 : (if (t458.length : Int) = (x6_1.length : Int) then (laws_FnSweepTrees.j1 k1 x6_1 t458 (decide ((t455.length : Int) > (t437.length : Int))) t437 t455) else (laws_FnSweepTrees.j1 k1 x6_1 t458 true t437 t455)) = some r:=by rw [if_pos rfl] at H;exact H
     clear H;have H:=H1;clear H1
     by_cases c37 : (t458.length : Int) = (x6_1.length : Int)
     ·rw [if_pos c37] at H;have c37b0 : ((t458.length : Int) == (x6_1.length : Int)) = true:=beq_iff_eq.mpr c37;have c37b1 : ((t458.length : Int) != (x6_1.length : Int)) = false:=bne_eq_false_iff_eq.mpr c37;have c37b2 : (t458.length == x6_1.length) = true:=by first | simpa using c37 | (simp at c37 ⊢;omega)
      clear c37
      (first | rw [c37b0] | (simp only [i64_w,i32_w];rw [c37b0]) | skip)
      have H':=zMk H;clear H;have hnb38:=NB461_443.out;have hnc38:=NB443_461.out;have hcz39_0 : w31.cell? ⟨gb461,0,none⟩ = some (.slice none 0 0):=(zCl BK461.out 0).trans rfl;have hfz39_0:=zFr BK461.out 0;go_wp2_with (first | ((with_reducible refine gate_callee (f:=10) rfl ?_);refine goesL_ (some 50) rfl rfl Try.func10 (by kernel_rfl) rfl #[.agg #[.slice Ao32 t455.length co32]] rfl (by (try simp only [List.map_toArray,List.map_cons,List.map_nil]);first | done | rfl | (simp only [List.length_drop,List.length_take];rfl)) ?_;(with_reducible refine (impl_ArenaOk.calls k1 _ _ t455 true _ ?side1 ?side2 A35.out).mono ?_);(case side1=>refine (Kd.S_reads' (e:=47) (base:=w.heap.size) (ok:=fun k_=>((((some k_ ≠ (v459 : Value).ownBlock ∧ some k_ ≠ (.slice Ao27 t440.length co27 : Value).ownBlock) ∧ some k_ ≠ (v445 : Value).ownBlock) ∧ some k_ ≠ (.slice Ao29 x6_1.length co29 : Value).ownBlock) ∧ some k_ ≠ (.slice Ao8 t437.length co8 : Value).ownBlock)) (n:=t455.length) (c:=co32) ?_).2.2;exact (by (with_reducible repeat (first | apply Kd.S_alloc | apply Kd.S_drewN | apply Kd.S_drew));exact (Kd.S_mono (Kd.S_far (p:=⟨gb461,0,none⟩) (Kd.S_types HO457.out BK461.out (by decide)) (fun _ hk=>hk.2) (.slice Ao32 t455.length co32)) (fun _ h_=>h_.1))));(case side2=>exact (Kd.S_reads' HO457.out).2.1);rintro e w40 ⟨rfl,hb⟩;refine ⟨_,rfl,?_⟩;have n0_:=zMk (Kd.R_below (by (with_reducible repeat (first | apply Kd.R_alloc | apply Kd.R_drewN | apply Kd.R_drew));exact (Kd.R_mono (Kd.R_far (p:=⟨gb461,0,none⟩) (Kd.R_types HO_4.out BK461.out (by decide)) (fun _ hk=>hk.2) (.slice Ao32 t455.length co32)) (fun _ h_=>h_.1))) hb);have n1_:=zMk (Kd.R_below (by (with_reducible repeat (first | apply Kd.R_alloc | apply Kd.R_drewN | apply Kd.R_drew));exact (Kd.R_mono (Kd.R_far (p:=⟨gb461,0,none⟩) (Kd.R_types HO_5.out BK461.out (by decide)) (fun _ hk=>hk.2) (.slice Ao32 t455.length co32)) (fun _ h_=>h_.1))) hb);have n2_:=zMk (Kd.R_below (by (with_reducible repeat (first | apply Kd.R_alloc | apply Kd.R_drewN | apply Kd.R_drew));exact (Kd.R_mono (Kd.R_far (p:=⟨gb461,0,none⟩) (Kd.R_types HO_6.out BK461.out (by decide)) (fun _ hk=>hk.2) (.slice Ao32 t455.length co32)) (fun _ h_=>h_.1))) hb);have n3_:=zMk (Kd.S_below (by (with_reducible repeat (first | apply Kd.S_alloc | apply Kd.S_drewN | apply Kd.S_drew));exact (Kd.S_mono (Kd.S_far (p:=⟨gb461,0,none⟩) (Kd.S_types HO_444000.out BK461.out (by decide)) (fun _ hk=>hk.2) (.slice Ao32 t455.length co32)) (fun _ h_=>h_.1))) hb);have n4_:=zMk (Kd.S_below (by (with_reducible repeat (first | apply Kd.S_alloc | apply Kd.S_drewN | apply Kd.S_drew));exact (Kd.S_mono (Kd.S_far (p:=⟨gb461,0,none⟩) (Kd.S_types HO457.out BK461.out (by decide)) (fun _ hk=>hk.2) (.slice Ao32 t455.length co32)) (fun _ h_=>h_.1))) hb);have n5_:=zMk (Kd.R_below (by (with_reducible repeat (first | apply Kd.R_alloc | apply Kd.R_drewN | apply Kd.R_drew));exact (Kd.R_mono (Kd.R_far (p:=⟨gb461,0,none⟩) (Kd.R_types HO460.out BK461.out (by decide)) (fun _ hk=>hk.2) (.slice Ao32 t455.length co32)) (fun _ h_=>h_.1))) hb);have n6_:=zMk (blk_below (g:=gb443) (o:=.cells #[.slice Ao8 t437.length co8] 26 (0,0)) (by (with_reducible repeat (first | refine blk_drewN ?_ _ | refine blk_drew ?_ | refine blk_alloc ?_ _));refine blk_far ?_ NB443_461.out _;(with_reducible repeat (first | refine blk_drewN ?_ _ | refine blk_drew ?_ | refine blk_alloc ?_ _));exact BK443.out) hb);have n7_:=zMk (blk_below (g:=gb461) (o:=.cells #[.slice Ao32 t455.length co32] 26 (0,0)) (by (with_reducible repeat (first | refine blk_drewN ?_ _ | refine blk_drew ?_ | refine blk_alloc ?_ _));refine blk_put (cs:=#[.slice none 0 0]) ?_ 0 _ rfl;(with_reducible repeat (first | refine blk_drewN ?_ _ | refine blk_drew ?_ | refine blk_alloc ?_ _));exact BK461.out) hb);have n8_:=zMk (below_step (hs2 HB GE443 GE461) hb);clear HO_4;clear HO_5;clear HO_6;clear HO_444000;clear HO457;clear HO460;clear BK443;clear BK461;clear HB;have HO_4:=n0_;have HO_5:=n1_;have HO_6:=n2_;have HO_444000:=n3_;have HO457:=n4_;have HO460:=n5_;have BK443:=n6_;have BK461:=n7_;have HB:=n8_;clear n0_ n1_ n2_ n3_ n4_ n5_ n6_ n7_ n8_;(try clear hb);(try clear hb2);(try clear hk);(try clear hi);obtain ⟨Ao41,co41,eo41⟩:=Kd.R_slice HO460.out;subst eo41;have hcz42_0 : w40.cell? ⟨gb461,0,none⟩ = some (.slice Ao32 t455.length co32):=(zCl BK461.out 0).trans rfl;have hfz42_0:=zFr BK461.out 0;have hcz43_0 : w40.cell? ⟨gb443,0,none⟩ = some (.slice Ao8 t437.length co8):=(zCl BK443.out 0).trans rfl;have hfz43_0:=zFr BK443.out 0))
      go_meet
      case rel=>exact ⟨_,(decide ((t455.length : Int) > (t437.length : Int))),(by first | rfl | (simp;done) | (simp [*];done)),H',⟨by have:=HK1.out;first | omega | exact Nat.le_refl _⟩,⟨by (with_reducible repeat (first | apply Kd.R_alloc | apply Kd.R_drewN | apply Kd.R_drew));exact Kd.R_mono HO_6.out (fun _ hk=>hk.2)⟩,⟨by (with_reducible repeat (first | apply Kd.R_alloc | apply Kd.R_drewN | apply Kd.R_drew));exact Kd.R_mono HO460.out (fun _ hk=>hk.2)⟩,⟨by (with_reducible repeat (first | apply Kd.S_alloc | apply Kd.S_drewN | apply Kd.S_drew));exact Kd.S_mono HO_444000.out (fun _ hk=>⟨hk.1.1.2.2,⟨hk.2,hk.1.2⟩⟩)⟩,⟨by (with_reducible repeat (first | apply Kd.S_alloc | apply Kd.S_drewN | apply Kd.S_drew));exact Kd.S_mono HO457.out (fun _ hk=>⟨hk.1.2,⟨hk.1.1.1.1,hk.2⟩⟩)⟩,⟨bs BK443⟩,⟨bs BK461⟩,⟨hs2 HB GE443 GE461⟩⟩
     rw [if_neg c37] at H;have c37b0 : ((t458.length : Int) == (x6_1.length : Int)) = false:=beq_eq_false_iff_ne.mpr c37;have c37b1 : ((t458.length : Int) != (x6_1.length : Int)) = true:=bne_iff_ne.mpr c37;have c37b2 : (t458.length == x6_1.length) = false:=by first | simpa using c37 | (simp at c37 ⊢;omega)
     (first | rw [c37b0] | (simp only [i64_w,i32_w];rw [c37b0]) | skip)
     have H':=zMk H;clear H;have hnb44:=NB461_443.out;have hnc44:=NB443_461.out;have hcz45_0 : w31.cell? ⟨gb461,0,none⟩ = some (.slice none 0 0):=(zCl BK461.out 0).trans rfl;have hfz45_0:=zFr BK461.out 0;go_wp2_with (first | ((with_reducible refine gate_callee (f:=10) rfl ?_);refine goesL_ (some 50) rfl rfl Try.func10 (by kernel_rfl) rfl #[.agg #[.slice Ao32 t455.length co32]] rfl (by (try simp only [List.map_toArray,List.map_cons,List.map_nil]);first | done | rfl | (simp only [List.length_drop,List.length_take];rfl)) ?_;(with_reducible refine (impl_ArenaOk.calls k1 _ _ t455 true _ ?side1 ?side2 A35.out).mono ?_);(case side1=>refine (Kd.S_reads' (e:=47) (base:=w.heap.size) (ok:=fun k_=>((((some k_ ≠ (v459 : Value).ownBlock ∧ some k_ ≠ (.slice Ao27 t440.length co27 : Value).ownBlock) ∧ some k_ ≠ (v445 : Value).ownBlock) ∧ some k_ ≠ (.slice Ao29 x6_1.length co29 : Value).ownBlock) ∧ some k_ ≠ (.slice Ao8 t437.length co8 : Value).ownBlock)) (n:=t455.length) (c:=co32) ?_).2.2;exact (by (with_reducible repeat (first | apply Kd.S_alloc | apply Kd.S_drewN | apply Kd.S_drew));exact (Kd.S_mono (Kd.S_far (p:=⟨gb461,0,none⟩) (Kd.S_types HO457.out BK461.out (by decide)) (fun _ hk=>hk.2) (.slice Ao32 t455.length co32)) (fun _ h_=>h_.1))));(case side2=>exact (Kd.S_reads' HO457.out).2.1);rintro e w46 ⟨rfl,hb⟩;refine ⟨_,rfl,?_⟩;have n0_:=zMk (Kd.R_below (by (with_reducible repeat (first | apply Kd.R_alloc | apply Kd.R_drewN | apply Kd.R_drew));exact (Kd.R_mono (Kd.R_far (p:=⟨gb461,0,none⟩) (Kd.R_types HO_4.out BK461.out (by decide)) (fun _ hk=>hk.2) (.slice Ao32 t455.length co32)) (fun _ h_=>h_.1))) hb);have n1_:=zMk (Kd.R_below (by (with_reducible repeat (first | apply Kd.R_alloc | apply Kd.R_drewN | apply Kd.R_drew));exact (Kd.R_mono (Kd.R_far (p:=⟨gb461,0,none⟩) (Kd.R_types HO_5.out BK461.out (by decide)) (fun _ hk=>hk.2) (.slice Ao32 t455.length co32)) (fun _ h_=>h_.1))) hb);have n2_:=zMk (Kd.R_below (by (with_reducible repeat (first | apply Kd.R_alloc | apply Kd.R_drewN | apply Kd.R_drew));exact (Kd.R_mono (Kd.R_far (p:=⟨gb461,0,none⟩) (Kd.R_types HO_6.out BK461.out (by decide)) (fun _ hk=>hk.2) (.slice Ao32 t455.length co32)) (fun _ h_=>h_.1))) hb);have n3_:=zMk (Kd.S_below (by (with_reducible repeat (first | apply Kd.S_alloc | apply Kd.S_drewN | apply Kd.S_drew));exact (Kd.S_mono (Kd.S_far (p:=⟨gb461,0,none⟩) (Kd.S_types HO_444000.out BK461.out (by decide)) (fun _ hk=>hk.2) (.slice Ao32 t455.length co32)) (fun _ h_=>h_.1))) hb);have n4_:=zMk (Kd.S_below (by (with_reducible repeat (first | apply Kd.S_alloc | apply Kd.S_drewN | apply Kd.S_drew));exact (Kd.S_mono (Kd.S_far (p:=⟨gb461,0,none⟩) (Kd.S_types HO457.out BK461.out (by decide)) (fun _ hk=>hk.2) (.slice Ao32 t455.length co32)) (fun _ h_=>h_.1))) hb);have n5_:=zMk (Kd.R_below (by (with_reducible repeat (first | apply Kd.R_alloc | apply Kd.R_drewN | apply Kd.R_drew));exact (Kd.R_mono (Kd.R_far (p:=⟨gb461,0,none⟩) (Kd.R_types HO460.out BK461.out (by decide)) (fun _ hk=>hk.2) (.slice Ao32 t455.length co32)) (fun _ h_=>h_.1))) hb);have n6_:=zMk (blk_below (g:=gb443) (o:=.cells #[.slice Ao8 t437.length co8] 26 (0,0)) (by (with_reducible repeat (first | refine blk_drewN ?_ _ | refine blk_drew ?_ | refine blk_alloc ?_ _));refine blk_far ?_ NB443_461.out _;(with_reducible repeat (first | refine blk_drewN ?_ _ | refine blk_drew ?_ | refine blk_alloc ?_ _));exact BK443.out) hb);have n7_:=zMk (blk_below (g:=gb461) (o:=.cells #[.slice Ao32 t455.length co32] 26 (0,0)) (by (with_reducible repeat (first | refine blk_drewN ?_ _ | refine blk_drew ?_ | refine blk_alloc ?_ _));refine blk_put (cs:=#[.slice none 0 0]) ?_ 0 _ rfl;(with_reducible repeat (first | refine blk_drewN ?_ _ | refine blk_drew ?_ | refine blk_alloc ?_ _));exact BK461.out) hb);have n8_:=zMk (below_step (hs2 HB GE443 GE461) hb);clear HO_4;clear HO_5;clear HO_6;clear HO_444000;clear HO457;clear HO460;clear BK443;clear BK461;clear HB;have HO_4:=n0_;have HO_5:=n1_;have HO_6:=n2_;have HO_444000:=n3_;have HO457:=n4_;have HO460:=n5_;have BK443:=n6_;have BK461:=n7_;have HB:=n8_;clear n0_ n1_ n2_ n3_ n4_ n5_ n6_ n7_ n8_;(try clear hb);(try clear hb2);(try clear hk);(try clear hi);obtain ⟨Ao47,co47,eo47⟩:=Kd.R_slice HO460.out;subst eo47))
     go_meet
     case rel=>exact ⟨_,(true),(by first | rfl | (simp;done) | (simp [*];done)),H',⟨by have:=HK1.out;first | omega | exact Nat.le_refl _⟩,⟨by (with_reducible repeat (first | apply Kd.R_alloc | apply Kd.R_drewN | apply Kd.R_drew));exact Kd.R_mono HO_6.out (fun _ hk=>hk.2)⟩,⟨by (with_reducible repeat (first | apply Kd.R_alloc | apply Kd.R_drewN | apply Kd.R_drew));exact Kd.R_mono HO460.out (fun _ hk=>hk.2)⟩,⟨by (with_reducible repeat (first | apply Kd.S_alloc | apply Kd.S_drewN | apply Kd.S_drew));exact Kd.S_mono HO_444000.out (fun _ hk=>⟨hk.1.1.2.2,⟨hk.2,hk.1.2⟩⟩)⟩,⟨by (with_reducible repeat (first | apply Kd.S_alloc | apply Kd.S_drewN | apply Kd.S_drew));exact Kd.S_mono HO457.out (fun _ hk=>⟨hk.1.2,⟨hk.1.1.1.1,hk.2⟩⟩)⟩,⟨bs BK443⟩,⟨bs BK461⟩,⟨hs2 HB GE443 GE461⟩⟩
    replace c36:=Bool.eq_false_iff.mpr c36;subst c36;have H1 : (laws_FnSweepTrees.j1 k1 x6_1 t458 true t437 t455) = some r:=by rw [if_neg (show ¬ (false = true) by decide)] at H;exact H
    clear H;have H:=H1;clear H1;have H':=zMk H;clear H;have hnb48:=NB461_443.out;have hnc48:=NB443_461.out;have hcz49_0 : w31.cell? ⟨gb461,0,none⟩ = some (.slice none 0 0):=(zCl BK461.out 0).trans rfl;have hfz49_0:=zFr BK461.out 0;go_wp2_with (first | ((with_reducible refine gate_callee (f:=10) rfl ?_);refine goesL_ (some 50) rfl rfl Try.func10 (by kernel_rfl) rfl #[.agg #[.slice Ao32 t455.length co32]] rfl (by (try simp only [List.map_toArray,List.map_cons,List.map_nil]);first | done | rfl | (simp only [List.length_drop,List.length_take];rfl)) ?_;(with_reducible refine (impl_ArenaOk.calls k1 _ _ t455 false _ ?side1 ?side2 A35.out).mono ?_);(case side1=>refine (Kd.S_reads' (e:=47) (base:=w.heap.size) (ok:=fun k_=>((((some k_ ≠ (v459 : Value).ownBlock ∧ some k_ ≠ (.slice Ao27 t440.length co27 : Value).ownBlock) ∧ some k_ ≠ (v445 : Value).ownBlock) ∧ some k_ ≠ (.slice Ao29 x6_1.length co29 : Value).ownBlock) ∧ some k_ ≠ (.slice Ao8 t437.length co8 : Value).ownBlock)) (n:=t455.length) (c:=co32) ?_).2.2;exact (by (with_reducible repeat (first | apply Kd.S_alloc | apply Kd.S_drewN | apply Kd.S_drew));exact (Kd.S_mono (Kd.S_far (p:=⟨gb461,0,none⟩) (Kd.S_types HO457.out BK461.out (by decide)) (fun _ hk=>hk.2) (.slice Ao32 t455.length co32)) (fun _ h_=>h_.1))));(case side2=>exact (Kd.S_reads' HO457.out).2.1);rintro e w50 ⟨rfl,hb⟩;refine ⟨_,rfl,?_⟩;have n0_:=zMk (Kd.R_below (by (with_reducible repeat (first | apply Kd.R_alloc | apply Kd.R_drewN | apply Kd.R_drew));exact (Kd.R_mono (Kd.R_far (p:=⟨gb461,0,none⟩) (Kd.R_types HO_4.out BK461.out (by decide)) (fun _ hk=>hk.2) (.slice Ao32 t455.length co32)) (fun _ h_=>h_.1))) hb);have n1_:=zMk (Kd.R_below (by (with_reducible repeat (first | apply Kd.R_alloc | apply Kd.R_drewN | apply Kd.R_drew));exact (Kd.R_mono (Kd.R_far (p:=⟨gb461,0,none⟩) (Kd.R_types HO_5.out BK461.out (by decide)) (fun _ hk=>hk.2) (.slice Ao32 t455.length co32)) (fun _ h_=>h_.1))) hb);have n2_:=zMk (Kd.R_below (by (with_reducible repeat (first | apply Kd.R_alloc | apply Kd.R_drewN | apply Kd.R_drew));exact (Kd.R_mono (Kd.R_far (p:=⟨gb461,0,none⟩) (Kd.R_types HO_6.out BK461.out (by decide)) (fun _ hk=>hk.2) (.slice Ao32 t455.length co32)) (fun _ h_=>h_.1))) hb);have n3_:=zMk (Kd.S_below (by (with_reducible repeat (first | apply Kd.S_alloc | apply Kd.S_drewN | apply Kd.S_drew));exact (Kd.S_mono (Kd.S_far (p:=⟨gb461,0,none⟩) (Kd.S_types HO_444000.out BK461.out (by decide)) (fun _ hk=>hk.2) (.slice Ao32 t455.length co32)) (fun _ h_=>h_.1))) hb);have n4_:=zMk (Kd.S_below (by (with_reducible repeat (first | apply Kd.S_alloc | apply Kd.S_drewN | apply Kd.S_drew));exact (Kd.S_mono (Kd.S_far (p:=⟨gb461,0,none⟩) (Kd.S_types HO457.out BK461.out (by decide)) (fun _ hk=>hk.2) (.slice Ao32 t455.length co32)) (fun _ h_=>h_.1))) hb);have n5_:=zMk (Kd.R_below (by (with_reducible repeat (first | apply Kd.R_alloc | apply Kd.R_drewN | apply Kd.R_drew));exact (Kd.R_mono (Kd.R_far (p:=⟨gb461,0,none⟩) (Kd.R_types HO460.out BK461.out (by decide)) (fun _ hk=>hk.2) (.slice Ao32 t455.length co32)) (fun _ h_=>h_.1))) hb);have n6_:=zMk (blk_below (g:=gb443) (o:=.cells #[.slice Ao8 t437.length co8] 26 (0,0)) (by (with_reducible repeat (first | refine blk_drewN ?_ _ | refine blk_drew ?_ | refine blk_alloc ?_ _));refine blk_far ?_ NB443_461.out _;(with_reducible repeat (first | refine blk_drewN ?_ _ | refine blk_drew ?_ | refine blk_alloc ?_ _));exact BK443.out) hb);have n7_:=zMk (blk_below (g:=gb461) (o:=.cells #[.slice Ao32 t455.length co32] 26 (0,0)) (by (with_reducible repeat (first | refine blk_drewN ?_ _ | refine blk_drew ?_ | refine blk_alloc ?_ _));refine blk_put (cs:=#[.slice none 0 0]) ?_ 0 _ rfl;(with_reducible repeat (first | refine blk_drewN ?_ _ | refine blk_drew ?_ | refine blk_alloc ?_ _));exact BK461.out) hb);have n8_:=zMk (below_step (hs2 HB GE443 GE461) hb);clear HO_4;clear HO_5;clear HO_6;clear HO_444000;clear HO457;clear HO460;clear BK443;clear BK461;clear HB;have HO_4:=n0_;have HO_5:=n1_;have HO_6:=n2_;have HO_444000:=n3_;have HO457:=n4_;have HO460:=n5_;have BK443:=n6_;have BK461:=n7_;have HB:=n8_;clear n0_ n1_ n2_ n3_ n4_ n5_ n6_ n7_ n8_;(try clear hb);(try clear hb2);(try clear hk);(try clear hi)))
    go_meet
    case rel=>exact ⟨_,(true),(by first | rfl | (simp;done) | (simp [*];done)),H',⟨by have:=HK1.out;first | omega | exact Nat.le_refl _⟩,⟨by (with_reducible repeat (first | apply Kd.R_alloc | apply Kd.R_drewN | apply Kd.R_drew));exact Kd.R_mono HO_6.out (fun _ hk=>hk.2)⟩,⟨by (with_reducible repeat (first | apply Kd.R_alloc | apply Kd.R_drewN | apply Kd.R_drew));exact Kd.R_mono HO460.out (fun _ hk=>hk.2)⟩,⟨by (with_reducible repeat (first | apply Kd.S_alloc | apply Kd.S_drewN | apply Kd.S_drew));exact Kd.S_mono HO_444000.out (fun _ hk=>⟨hk.1.1.2.2,⟨hk.2,hk.1.2⟩⟩)⟩,⟨by (with_reducible repeat (first | apply Kd.S_alloc | apply Kd.S_drewN | apply Kd.S_drew));exact Kd.S_mono HO457.out (fun _ hk=>⟨hk.1.2,⟨hk.1.1.1.1,hk.2⟩⟩)⟩,⟨bs BK443⟩,⟨bs BK461⟩,⟨hs2 HB GE443 GE461⟩⟩
   case rest =>
    clear HC26
    try clear c1
    try clear p2
    try clear c3
    try clear c4
    try clear p4
    try clear q4
    try clear hx4
    try clear c5
    try clear c6
    try clear p6
    try clear c7
    try clear c8
    try clear c10
    try clear c13
    try clear c13b0
    try clear c15
    try clear c15b0
    try clear c16
    try clear c16b0
    try clear c17
    try clear c17b0
    try clear c17b1
    try clear c18
    try clear c18b0
    try clear c19
    try clear c33
    try clear c36
    try clear c37
    try clear c37b0
    try clear c37b1
    try clear c37b2
    try clear c38
    try clear c44
    try clear p45
    try clear q45
    try clear hx45
    try clear c48
    try clear hcz28_0
    try clear hcz34_0
    try clear hcz39_0
    try clear hcz42_0
    try clear hcz43_0
    try clear hcz45_0
    try clear hcz49_0
    try clear hcz9_0
    try clear hfz28_0
    try clear hfz34_0
    try clear hfz39_0
    try clear hfz42_0
    try clear hfz43_0
    try clear hfz45_0
    try clear hfz49_0
    try clear hfz9_0
    try clear hx450_0
    try clear hx451_0
    try clear p2
    try clear p450
    try clear p451
    try clear q450
    try clear q451
    obtain ⟨kq,x67_25,rfl,HA,HJ25,HO_6,HO_9,HO_444000,HO_462000,BK443,BK461,HB⟩:=hcut;cases kq with
    | zero=>exact absurd HA.out (by simp [laws_FnSweepTrees.j1])
    | succ kj25 =>
     have H:=HA.out;clear HA;simp only [laws_FnSweepTrees.j1] at H
     by_cases c51 : x67_25 = true
     ·subst c51;have H1 : (some false) = some r:=by rw [if_pos rfl] at H;exact H
      clear H;have H:=H1;clear H1;exact absurd ((Option.some.inj H).trans hT.out) (by decide)
     replace c51:=Bool.eq_false_iff.mpr c51;subst c51;have H1 : (laws_FnSweepTrees.l1 kj25 x6_1 t458 0 t437 t455) = some r:=by rw [if_neg (show ¬ (false = true) by decide)] at H;exact H
     clear H;have H:=H1;clear H1;have H':=zMk H;clear H
     go_wp2
     go_loopg [10] kj25 (fun kq v10 w'=>∃ (x10_3 : Int),v10 = .int .i64 x10_3 ∧ Aside0 (laws_FnSweepTrees.l1 kq x6_1 t458 x10_3 t437 t455 = some r) ∧ Aside0 (kq ≤ kj25) ∧ Aside0 (Kd.R (Kd.int .i64) 3 w' w.heap.size (fun k_=>some k_ ≠ (v459 : Value).ownBlock) (.slice Ao29 x6_1.length co29) x6_1) ∧ Aside0 (Kd.R (Kd.int .i64) 3 w' w.heap.size (fun k_=>some k_ ≠ ((.slice Ao29 x6_1.length co29) : Value).ownBlock) v459 t458) ∧ Aside0 (Kd.S k47 47 w' w.heap.size (fun k_=>some k_ ≠ ((.slice Ao29 x6_1.length co29) : Value).ownBlock ∧ some k_ ≠ (v459 : Value).ownBlock ∧ some k_ ≠ ((.slice Ao32 t455.length co32) : Value).ownBlock) (.slice Ao8 t437.length co8) t437) ∧ Aside0 (Kd.S k47 47 w' w.heap.size (fun k_=>some k_ ≠ ((.slice Ao29 x6_1.length co29) : Value).ownBlock ∧ some k_ ≠ (v459 : Value).ownBlock ∧ some k_ ≠ ((.slice Ao8 t437.length co8) : Value).ownBlock) (.slice Ao32 t455.length co32) t455) ∧ Aside0 (w'.heap[gb443]? = some (.cells #[(.slice Ao8 t437.length co8)] 26 (0,0))) ∧ Aside0 (w'.heap[gb461]? = some (.cells #[(.slice Ao32 t455.length co32)] 26 (0,0))) ∧ Aside0 (Below w.heap.size w w'));case atStart=>exact ⟨(0),(by first | rfl | (simp;done) | (simp [*];done)),H',⟨Nat.le_refl _⟩,⟨rs HO_6⟩,⟨rs HO_9⟩,⟨ss HO_444000⟩,⟨ss HO_462000⟩,⟨bs BK443⟩,⟨bs BK461⟩,⟨hs2 HB GE443 GE461⟩⟩
     case round =>
      clear H'
      try clear c1
      try clear p2
      try clear c3
      try clear c4
      try clear p4
      try clear q4
      try clear hx4
      try clear c5
      try clear c6
      try clear p6
      try clear c7
      try clear c8
      try clear c10
      try clear c13
      try clear c13b0
      try clear c15
      try clear c15b0
      try clear c16
      try clear c16b0
      try clear c17
      try clear c17b0
      try clear c17b1
      try clear c18
      try clear c18b0
      try clear c19
      try clear c33
      try clear c36
      try clear c37
      try clear c37b0
      try clear c37b1
      try clear c37b2
      try clear c38
      try clear c44
      try clear p45
      try clear q45
      try clear hx45
      try clear c48
      try clear c51
      try clear hcz28_0
      try clear hcz34_0
      try clear hcz39_0
      try clear hcz42_0
      try clear hcz43_0
      try clear hcz45_0
      try clear hcz49_0
      try clear hcz9_0
      try clear hfz28_0
      try clear hfz34_0
      try clear hfz39_0
      try clear hfz42_0
      try clear hfz43_0
      try clear hfz45_0
      try clear hfz49_0
      try clear hfz9_0
      try clear hx450_0
      try clear hx451_0
      try clear p2
      try clear p4
      try clear p45
      try clear p450
      try clear p451
      try clear p6
      try clear q4
      try clear q45
      try clear q450
      try clear q451
      obtain ⟨x10_3,rfl,HA,HK3,HO_6,HO_9,HO_444000,HO_462000,BK443,BK461,HB⟩:=hrel;cases gk with
      | zero=>exact absurd HA.out (by simp [laws_FnSweepTrees.l1])
      | succ k3 =>
       have H:=HA.out;clear HA;simp only [laws_FnSweepTrees.l1] at H
       by_cases c52 : x10_3 < (x6_1.length : Int)
       ·rw [if_pos c52] at H;have c52b0 : decide (x10_3 < (x6_1.length : Int)) = true:=decide_eq_true c52;clear c52
        by_cases c53 : 0 ≤ x10_3
        ·rw [if_pos c53] at H;have c53b0 : decide (0 ≤ x10_3) = true:=decide_eq_true c53;clear c53
         by_cases c54 : x10_3 < (t458.length : Int)
         ·rw [if_pos c54] at H;have c54b0 : decide (x10_3 < (t458.length : Int)) = true:=decide_eq_true c54;clear c54;replace H:=Option.bind_eq_some_iff.mp H;obtain ⟨t472,A550,H⟩:=H;replace H : ((spec_AllAt.f k3 t437 (rd x6_1 x10_3)).bind fun t476=>((laws_sameInts.f k3 t472 t476).bind fun t479=>(if t479 = true then (laws_FnSweepTrees.l1 k3 x6_1 t458 (wrap64 (x10_3 + 1)) t437 t455) else (some false)))) = some r:=H;have A55:=zMk A550;clear A550;replace H:=Option.bind_eq_some_iff.mp H;obtain ⟨t476,A560,H⟩:=H;replace H : ((laws_sameInts.f k3 t472 t476).bind fun t479=>(if t479 = true then (laws_FnSweepTrees.l1 k3 x6_1 t458 (wrap64 (x10_3 + 1)) t437 t455) else (some false))) = some r:=H;have A56:=zMk A560;clear A560;replace H:=Option.bind_eq_some_iff.mp H;obtain ⟨t479,A570,H⟩:=H;replace H : (if t479 = true then (laws_FnSweepTrees.l1 k3 x6_1 t458 (wrap64 (x10_3 + 1)) t437 t455) else (some false)) = some r:=H;have A57:=zMk A570;clear A570
          by_cases c58 : t479 = true
          ·subst c58;have H1 : (laws_FnSweepTrees.l1 k3 x6_1 t458 (wrap64 (x10_3 + 1)) t437 t455) = some r:=by rw [if_pos rfl] at H;exact H
           clear H;have H:=H1;clear H1;have H':=zMk H;clear H
           try go_wp2
           have n0_:=zMk (Kd.R_drew HO_6.out);have n1_:=zMk (Kd.R_drew HO_9.out);have n2_:=zMk (Kd.S_drew HO_444000.out);have n3_:=zMk (Kd.S_drew HO_462000.out);have n4_:=zMk (blk_drew BK443.out);have n5_:=zMk (blk_drew BK461.out);have n6_:=zMk (below_drew1 HB.out);clear HO_6;clear HO_9;clear HO_444000;clear HO_462000;clear BK443;clear BK461;clear HB;have HO_6:=n0_;have HO_9:=n1_;have HO_444000:=n2_;have HO_462000:=n3_;have BK443:=n4_;have BK461:=n5_;have HB:=n6_;clear n0_ n1_ n2_ n3_ n4_ n5_ n6_;obtain ⟨Ao60,co60,eo60⟩:=Kd.R_slice HO_9.out
           (first | subst eo60 | (injection eo60 with f1_ f2_ f3_;have f4_:=f1_.symm;have f5_:=f3_.symm;clear f1_ f2_ f3_;subst f4_;subst f5_))
           have p471 : 0 ≤ (x10_3 : Int):=of_decide_eq_true (by first | (with_reducible assumption) | assumption);have q471 : x10_3 < (t458.length : Int):=of_decide_eq_true (by first | (with_reducible assumption) | assumption);obtain ⟨ad471,e471,hx471_0⟩:=Kd.at_int (Kd.R_reads' HO_9.out).2.2 x10_3 p471 q471;cases e471;replace p471:=eq_true p471;replace q471:=eq_true q471;have p475 : 0 ≤ (x10_3 : Int):=of_decide_eq_true (by first | (with_reducible assumption) | assumption);have q475 : x10_3 < (x6_1.length : Int):=of_decide_eq_true (by first | (with_reducible assumption) | assumption);obtain ⟨ad475,e475,hx475_0⟩:=Kd.at_int (Kd.R_reads' HO_6.out).2.2 x10_3 p475 q475;cases e475;replace p475:=eq_true p475;replace q475:=eq_true q475;refine start_ (n:=14) (S:=fun w'=>w'.cell? ⟨gb461,0,none⟩ = some (.slice Ao32 t455.length co32) ∧ w'.cell? ⟨gb443,0,none⟩ = some (.slice Ao8 t437.length co8) ∧ w'.cell? (ad471.add (x10_3).toNat) = some (.int .i64 (rd t458 x10_3)) ∧ w'.cell? (ad475.add (x10_3).toNat) = some (.int .i64 (rd x6_1 x10_3))) (ds:=[]) #[false,false,false,false,false,false,false,false,false,false,false,false,false,false] (by kernel_rfl) rfl rfl ⟨(zCl BK461.out 0).trans rfl,(zCl BK443.out 0).trans rfl,hx471_0,hx475_0⟩ (fun hHeld=>?_);refine with_tabW laws_FnSweepTrees.tab17 laws_FnSweepTrees.bits17 (fun HT_ HW_=>?_);generalize wr.drew = w59 at HO_6 HO_9 HO_444000 HO_462000 BK443 BK461 HB hx471_0 hx475_0 hHeld ⊢;refine pure_ (i:=1) (N:=some 75) (v:=?_) (a':=?_) #[false,true,false,false,false,false,false,false,false,false,false,false,false,false] rfl rfl (any_of HT_.out (by kernel_rfl)) (fun _ _ _ h=>h) (Or.inl ⟨by rfl,?_⟩) ?_ ?_;rotate_left
           ·intro w';go_simp;with_reducible rfl
           rotate_left
           ·simp only [Act.put,List.setIfInBounds_toArray,List.set_cons_zero,List.set_cons_succ,i64_w,i32_w];rfl
           refine pure_ (i:=2) (N:=some 76) (v:=?_) (a':=?_) #[false,true,true,false,false,false,false,false,false,false,false,false,false,false] rfl rfl (any_of HT_.out (by kernel_rfl)) (fun _ _ _ h=>h) (Or.inl ⟨by rfl,?_⟩) ?_ ?_;rotate_left
           ·intro w';go_simp;with_reducible rfl
           rotate_left
           ·simp only [Act.put,List.setIfInBounds_toArray,List.set_cons_zero,List.set_cons_succ,i64_w,i32_w];rfl
           refine pure_ (i:=3) (N:=some 77) (v:=?_) (a':=?_) #[false,true,true,true,false,false,false,false,false,false,false,false,false,false] rfl rfl (any_of HT_.out (by kernel_rfl)) (fun _ _ _ h=>h) (Or.inl ⟨by rfl,?_⟩) ?_ ?_;rotate_left
           ·intro w';go_simp;with_reducible rfl
           rotate_left
           ·simp only [Act.put,List.setIfInBounds_toArray,List.set_cons_zero,List.set_cons_succ,i64_w,i32_w];rfl
           refine pure_ (i:=7) (N:=some 81) (v:=?_) (a':=?_) #[false,true,true,true,false,false,false,true,false,false,false,false,false,false] rfl rfl (any_of HT_.out (by kernel_rfl)) (fun _ _ _ h=>h) (Or.inl ⟨by rfl,?_⟩) ?_ ?_;rotate_left
           ·intro w';go_simp;with_reducible rfl
           rotate_left
           ·simp only [Act.put,List.setIfInBounds_toArray,List.set_cons_zero,List.set_cons_succ,i64_w,i32_w];rfl
           refine pure_ (i:=8) (N:=some 82) (v:=?_) (a':=?_) #[false,true,true,true,false,false,false,true,true,false,false,false,false,false] rfl rfl (any_of HT_.out (by kernel_rfl)) (fun _ _ _ h=>h) (Or.inl ⟨by rfl,?_⟩) ?_ ?_;rotate_left
           ·intro w';go_simp;with_reducible rfl
           rotate_left
           ·simp only [Act.put,List.setIfInBounds_toArray,List.set_cons_zero,List.set_cons_succ,i64_w,i32_w];rfl
           refine pure_ (i:=9) (N:=some 83) (v:=?_) (a':=?_) #[false,true,true,true,false,false,false,true,true,true,false,false,false,false] rfl rfl (any_of HT_.out (by kernel_rfl)) (fun _ _ _ h=>h) (Or.inl ⟨by rfl,?_⟩) ?_ ?_;rotate_left
           ·intro w';go_simp;with_reducible rfl
           rotate_left
           ·simp only [Act.put,List.setIfInBounds_toArray,List.set_cons_zero,List.set_cons_succ,i64_w,i32_w];rfl
           refine take_ (i:=0) (N:=some 74) (v:=?_) (a':=?_) #[true,true,true,true,false,false,false,true,true,true,false,false,false,false] rfl rfl (take_ofW HT_.out HW_.out (by kernel_rfl)) (fun _ _ _ h=>h) (Or.inl ⟨by rfl,?_⟩) hHeld ?_ ?_;rotate_left
           ·rintro w' ⟨s0,s1,s2,s3⟩;go_simp;with_reducible rfl
           rotate_left
           ·simp only [Act.put,List.setIfInBounds_toArray,List.set_cons_zero,List.set_cons_succ,i64_w,i32_w];rfl
           refine take_ (i:=4) (N:=some 78) (v:=?_) (a':=?_) #[true,true,true,true,true,false,false,true,true,true,false,false,false,false] rfl rfl (take_ofW HT_.out HW_.out (by kernel_rfl)) (fun _ _ _ h=>h) (Or.inl ⟨by rfl,?_⟩) hHeld ?_ ?_;rotate_left
           ·rintro w' ⟨s0,s1,s2,s3⟩;go_simp;with_reducible rfl
           rotate_left
           ·simp only [Act.put,List.setIfInBounds_toArray,List.set_cons_zero,List.set_cons_succ,i64_w,i32_w];rfl
           refine take_ (i:=6) (N:=some 80) (v:=?_) (a':=?_) #[true,true,true,true,true,false,true,true,true,true,false,false,false,false] rfl rfl (take_ofW HT_.out HW_.out (by kernel_rfl)) (fun _ _ _ h=>h) (Or.inl ⟨by rfl,?_⟩) hHeld ?_ ?_;rotate_left
           ·rintro w' ⟨s0,s1,s2,s3⟩;go_simp;with_reducible rfl
           rotate_left
           ·simp only [Act.put,List.setIfInBounds_toArray,List.set_cons_zero,List.set_cons_succ,i64_w,i32_w];rfl
           refine take_ (i:=10) (N:=some 84) (v:=?_) (a':=?_) #[true,true,true,true,true,false,true,true,true,true,true,false,false,false] rfl rfl (take_ofW HT_.out HW_.out (by kernel_rfl)) (fun _ _ _ h=>h) (Or.inl ⟨by rfl,?_⟩) hHeld ?_ ?_;rotate_left
           ·rintro w' ⟨s0,s1,s2,s3⟩;go_simp;with_reducible rfl
           rotate_left
           ·simp only [Act.put,List.setIfInBounds_toArray,List.set_cons_zero,List.set_cons_succ,i64_w,i32_w];rfl
           refine one_ (i:=5) (N:=some 79) #[true,true,true,true,true,true,true,true,true,true,true,false,false,false] rfl rfl (one_of HT_.out (by kernel_rfl)) (by decide) (fun K hK=>?_);refine goes_ Try.func14 (by kernel_rfl) rfl #[.agg #[.slice Ao32 t455.length co32],.int .i64 (rd t458 x10_3)] (by rfl) rfl rfl (by (try simp only [List.map_toArray,List.map_cons,List.map_nil]);first | done | rfl | (simp only [List.length_drop,List.length_take];rfl)) ?_;with_reducible refine (impl_AllAt.calls k3 _ _ t455 (rd t458 x10_3) t472 _ ?side1 ?side2 A55.out).mono ?_
           (case side1=>repeat (first | exact (Kd.S_reads' HO_462000.out).2.2 | (with_reducible refine Kd.C_alloc ?_ _) | (with_reducible refine Kd.C_drewN ?_ _) | (with_reducible refine Kd.C_drew ?_)))
           (case side2=>exact (Kd.S_reads' HO_462000.out).2.1)
           rintro e w61 ⟨v473,rfl,ho0,hb⟩;have HS2_:=(hb.cell (World.block_lt_of_cell? _ _ (hHeld.2.2.1))).trans (hHeld.2.2.1);have HS3_:=(hb.cell (World.block_lt_of_cell? _ _ (hHeld.2.2.2))).trans (hHeld.2.2.2);refine ⟨_,rfl,?_⟩;have n0_:=zMk (Kd.R_elder' (rs HO_6) (Kd.R_base ho0) hb);have n1_:=zMk (Kd.R_elder' (rs HO_9) (Kd.R_base ho0) hb);have n2_:=zMk (Kd.S_elder' (ss HO_444000) (Kd.R_base ho0) hb);have n3_:=zMk (Kd.S_elder' (ss HO_462000) (Kd.R_base ho0) hb);have n4_:=zMk (Kd.R_lower (Kd.R_new' (Kd.R_new' ho0 (Kd.R_lt (rs HO_6))) (Kd.R_lt (rs HO_9))) (below_size (hs2 HB GE443 GE461)));have n5_:=zMk (blk_below (g:=gb443) (o:=.cells #[.slice Ao8 t437.length co8] 26 (0,0)) (bs BK443) hb);have n6_:=zMk (blk_below (g:=gb461) (o:=.cells #[.slice Ao32 t455.length co32] 26 (0,0)) (bs BK461) hb);have n7_:=zMk (below_step (hs2 HB GE443 GE461) hb);clear HO_6;clear HO_9;clear HO_444000;clear HO_462000;clear BK443;clear BK461;clear HB;have HO_6:=n0_;have HO_9:=n1_;have HO_444000:=n2_;have HO_462000:=n3_;have HO474:=n4_;have BK443:=n5_;have BK461:=n6_;have HB:=n7_;clear n0_ n1_ n2_ n3_ n4_ n5_ n6_ n7_
           (try clear hb)
           (try clear hb2)
           (try clear hk)
           (try clear hi)
           (try clear ho0)
           refine hK.out _ _ ⟨(zCl BK461.out 0).trans rfl,(zCl BK443.out 0).trans rfl,HS2_,HS3_⟩ (fun hHeld=>?_);clear hK K;refine norm_ (a':=?_) ?_ ?_;rotate_left
           ·show Act.put _ (some 79) _ = _;simp only [Act.put,List.setIfInBounds_toArray,List.set_cons_zero,List.set_cons_succ,i64_w,i32_w];rfl
           refine one_ (i:=11) (N:=some 85) #[true,true,true,true,true,true,true,true,true,true,true,true,false,false] rfl rfl (one_of HT_.out (by kernel_rfl)) (by decide) (fun K hK=>?_);refine goes_ Try.func15 (by kernel_rfl) rfl #[.agg #[.slice Ao8 t437.length co8],.int .i64 (rd x6_1 x10_3)] (by rfl) rfl rfl (by (try simp only [List.map_toArray,List.map_cons,List.map_nil]);first | done | rfl | (simp only [List.length_drop,List.length_take];rfl)) ?_;with_reducible refine (spec_AllAt.calls k3 _ _ t437 (rd x6_1 x10_3) t476 _ ?side1 ?side2 A56.out).mono ?_
           (case side1=>repeat (first | exact (Kd.S_reads' HO_444000.out).2.2 | (with_reducible refine Kd.C_alloc ?_ _) | (with_reducible refine Kd.C_drewN ?_ _) | (with_reducible refine Kd.C_drew ?_)))
           (case side2=>exact (Kd.S_reads' HO_444000.out).2.1)
           rintro e w62 ⟨v477,rfl,ho0,hb⟩;have HS2_:=(hb.cell (World.block_lt_of_cell? _ _ (hHeld.2.2.1))).trans (hHeld.2.2.1);have HS3_:=(hb.cell (World.block_lt_of_cell? _ _ (hHeld.2.2.2))).trans (hHeld.2.2.2);refine ⟨_,rfl,?_⟩;have n0_:=zMk (Kd.R_elder' (rs HO_6) (Kd.R_base ho0) hb);have n1_:=zMk (Kd.R_elder' (rs HO_9) (Kd.R_base ho0) hb);have n2_:=zMk (Kd.S_elder' (ss HO_444000) (Kd.R_base ho0) hb);have n3_:=zMk (Kd.S_elder' (ss HO_462000) (Kd.R_base ho0) hb);have n4_:=zMk (Kd.R_elder' (rs HO474) (Kd.R_base ho0) hb);have n5_:=zMk (Kd.R_lower (Kd.R_new' (Kd.R_new' (Kd.R_new' ho0 (Kd.R_lt (rs HO_6))) (Kd.R_lt (rs HO_9))) (Kd.R_lt (rs HO474))) (below_size (hs2 HB GE443 GE461)));have n6_:=zMk (blk_below (g:=gb443) (o:=.cells #[.slice Ao8 t437.length co8] 26 (0,0)) (bs BK443) hb);have n7_:=zMk (blk_below (g:=gb461) (o:=.cells #[.slice Ao32 t455.length co32] 26 (0,0)) (bs BK461) hb);have n8_:=zMk (below_step (hs2 HB GE443 GE461) hb);clear HO_6;clear HO_9;clear HO_444000;clear HO_462000;clear HO474;clear BK443;clear BK461;clear HB;have HO_6:=n0_;have HO_9:=n1_;have HO_444000:=n2_;have HO_462000:=n3_;have HO474:=n4_;have HO478:=n5_;have BK443:=n6_;have BK461:=n7_;have HB:=n8_;clear n0_ n1_ n2_ n3_ n4_ n5_ n6_ n7_ n8_
           (try clear hb)
           (try clear hb2)
           (try clear hk)
           (try clear hi)
           (try clear ho0)
           obtain ⟨Ao63,co63,eo63⟩:=Kd.R_slice HO474.out
           (first | subst eo63 | (injection eo63 with f1_ f2_ f3_;have f4_:=f1_.symm;have f5_:=f3_.symm;clear f1_ f2_ f3_;subst f4_;subst f5_))
           obtain ⟨Ao64,co64,eo64⟩:=Kd.R_slice HO478.out
           (first | subst eo64 | (injection eo64 with f1_ f2_ f3_;have f4_:=f1_.symm;have f5_:=f3_.symm;clear f1_ f2_ f3_;subst f4_;subst f5_))
           refine hK.out _ _ ⟨(zCl BK461.out 0).trans rfl,(zCl BK443.out 0).trans rfl,HS2_,HS3_⟩ (fun hHeld=>?_);clear hK K;refine norm_ (a':=?_) ?_ ?_;rotate_left
           ·show Act.put _ (some 85) _ = _;simp only [Act.put,List.setIfInBounds_toArray,List.set_cons_zero,List.set_cons_succ,i64_w,i32_w];rfl
           refine one_ (i:=12) (N:=some 86) #[true,true,true,true,true,true,true,true,true,true,true,true,true,false] rfl rfl (one_of HT_.out (by kernel_rfl)) (by decide) (fun K hK=>?_);refine goes_ Try.func13 (by kernel_rfl) rfl #[.slice Ao63 t472.length co63,.slice Ao64 t476.length co64] (by rfl) rfl rfl (by (try simp only [List.map_toArray,List.map_cons,List.map_nil]);first | done | rfl | (simp only [List.length_drop,List.length_take];rfl)) ?_;with_reducible refine (laws_sameInts.calls k3 _ _ t472 _ _ t476 true _ ?side1 ?side2 ?side3 ?side4 A57.out).mono ?_
           (case side1=>repeat (first | exact (Kd.R_reads' HO474.out).2.2 | (with_reducible refine Kd.C_alloc ?_ _) | (with_reducible refine Kd.C_drewN ?_ _) | (with_reducible refine Kd.C_drew ?_)))
           (case side2=>exact (Kd.R_reads' HO474.out).2.1)
           (case side3=>repeat (first | exact (Kd.R_reads' HO478.out).2.2 | (with_reducible refine Kd.C_alloc ?_ _) | (with_reducible refine Kd.C_drewN ?_ _) | (with_reducible refine Kd.C_drew ?_)))
           (case side4=>exact (Kd.R_reads' HO478.out).2.1)
           rintro e w' ⟨rfl,⟨nd,rfl⟩⟩;refine ⟨_,rfl,?_⟩;refine hK.out _ _ ⟨(zCl BK461.out 0).trans rfl,(zCl BK443.out 0).trans rfl,hHeld.2.2.1,hHeld.2.2.2⟩ (fun hHeld=>?_);clear hK K;refine norm_ (a':=?_) ?_ ?_;rotate_left
           ·show Act.put _ (some 86) _ = _;simp only [Act.put,List.setIfInBounds_toArray,List.set_cons_zero,List.set_cons_succ,i64_w,i32_w];rfl
           refine pure_ (i:=13) (N:=some 87) (v:=?_) (a':=?_) #[true,true,true,true,true,true,true,true,true,true,true,true,true,true] rfl rfl (any_of HT_.out (by kernel_rfl)) (fun _ _ _ h=>h) (Or.inl ⟨by rfl,?_⟩) ?_ ?_;rotate_left
           ·intro w';go_simp;with_reducible rfl
           rotate_left
           ·simp only [Act.put,List.setIfInBounds_toArray,List.set_cons_zero,List.set_cons_succ,i64_w,i32_w];rfl
           refine done_ (done_of HT_.out (by kernel_rfl)) ?_
           try go_wp2
           go_roundg k3;case measure=>have:=HK1.out;have:=HJ25.out;have:=HK3.out;omega
           case rel=>exact ⟨(wrap64 (x10_3 + 1)),(by first | rfl | (simp;done) | (simp [*];done)),H',⟨by have:=HK1.out;have:=HJ25.out;have:=HK3.out;omega⟩,⟨by (with_reducible repeat (first | apply Kd.R_alloc | apply Kd.R_drewN | apply Kd.R_drew));exact Kd.R_mono HO_6.out (fun _ hk=>hk.1.1)⟩,⟨by (with_reducible repeat (first | apply Kd.R_alloc | apply Kd.R_drewN | apply Kd.R_drew));exact Kd.R_mono HO_9.out (fun _ hk=>hk.1.1)⟩,⟨by (with_reducible repeat (first | apply Kd.S_alloc | apply Kd.S_drewN | apply Kd.S_drew));exact Kd.S_mono HO_444000.out (fun _ hk=>⟨hk.1.1.1,⟨hk.1.1.2.1,hk.1.1.2.2⟩⟩)⟩,⟨by (with_reducible repeat (first | apply Kd.S_alloc | apply Kd.S_drewN | apply Kd.S_drew));exact Kd.S_mono HO_462000.out (fun _ hk=>⟨hk.1.1.1,⟨hk.1.1.2.1,hk.1.1.2.2⟩⟩)⟩,⟨bs BK443⟩,⟨bs BK461⟩,⟨hs2 HB GE443 GE461⟩⟩
          replace c58:=Bool.eq_false_iff.mpr c58;subst c58;have H1 : (some false) = some r:=by rw [if_neg (show ¬ (false = true) by decide)] at H;exact H
          clear H;have H:=H1;clear H1;exact absurd ((Option.some.inj H).trans hT.out) (by decide)
         rw [if_neg c54] at H;exact absurd H (by simp)
        rw [if_neg c53] at H;exact absurd H (by simp)
       rw [if_neg c52] at H;have c52b0 : decide (x10_3 < (x6_1.length : Int)) = false:=decide_eq_false c52;clear c52;replace H:=Option.bind_eq_some_iff.mp H;obtain ⟨⟨t463,t466⟩,A650,H⟩:=H;replace H : (if (t463.length : Int) = (t455.length : Int) then ((laws_sameInts.f k3 t466 t458).bind fun t470=>(some t470)) else (some false)) = some r:=H;have A65:=zMk A650;clear A650
       by_cases c66 : (t463.length : Int) = (t455.length : Int)
       ·rw [if_pos c66] at H;have c66b0 : ((t463.length : Int) == (t455.length : Int)) = true:=beq_iff_eq.mpr c66;have c66b1 : ((t463.length : Int) != (t455.length : Int)) = false:=bne_eq_false_iff_eq.mpr c66;have c66b2 : (t463.length == t455.length) = true:=by first | simpa using c66 | (simp at c66 ⊢;omega)
        clear c66;replace H:=Option.bind_eq_some_iff.mp H;obtain ⟨t470,A670,H⟩:=H;replace H : (some t470) = some r:=H;have A67:=zMk A670;clear A670;obtain rfl:=Option.some.inj H;have hnb68:=NB461_443.out;have hnc68:=NB443_461.out;have hcz69_0 : wr.cell? ⟨gb461,0,none⟩ = some (.slice Ao32 t455.length co32):=(zCl BK461.out 0).trans rfl;have hfz69_0:=zFr BK461.out 0;obtain ⟨Ao70,co70,eo70⟩:=Kd.R_slice HO_9.out;subst eo70;go_wp2_with (first | ((with_reducible refine gate_callee (f:=18) rfl ?_);refine goesL_ (some 91) rfl rfl Try.func18 (by kernel_rfl) rfl #[.agg #[.slice Ao32 t455.length co32],.slice Ao70 t458.length co70] rfl (by (try simp only [List.map_toArray,List.map_cons,List.map_nil]);first | done | rfl | (simp only [List.length_drop,List.length_take];rfl)) ?_;(with_reducible refine (impl_SweepArena.calls k3 _ _ t455 _ _ t458 t463 t466 _ ?side1 ?side2 ?side3 ?side4 A65.out).mono ?_);(case side1=>repeat (first | exact (Kd.S_reads' HO_462000.out).2.2 | (with_reducible refine Kd.C_alloc ?_ _) | (with_reducible refine Kd.C_drewN ?_ _) | (with_reducible refine Kd.C_drew ?_)));(case side2=>exact (Kd.S_reads' HO_462000.out).2.1);(case side3=>repeat (first | exact (Kd.R_reads' HO_9.out).2.2 | (with_reducible refine Kd.C_alloc ?_ _) | (with_reducible refine Kd.C_drewN ?_ _) | (with_reducible refine Kd.C_drew ?_)));(case side4=>exact (Kd.R_reads' HO_9.out).2.1);rintro e w71 ⟨v464,v467,rfl,ho0,ho1,hb⟩;refine ⟨_,rfl,?_⟩;have n0_:=zMk (Kd.R_elder' (rs HO_6) (Kd.R_base ho1) hb);have n1_:=zMk (Kd.R_elder' (rs HO_9) (Kd.R_base ho1) hb);have n2_:=zMk (Kd.S_mono (Kd.S_told (Kd.S_told (Kd.S_old (ss HO_444000) hb) (Kd.S_base ho0)) (Kd.R_base ho1)) (fun _ h_=>h_.1));have n3_:=zMk (Kd.S_mono (Kd.S_told (Kd.S_told (Kd.S_old (ss HO_462000) hb) (Kd.S_base ho0)) (Kd.R_base ho1)) (fun _ h_=>h_.1));have n4_:=zMk (Kd.S_lower (Kd.S_new' (Kd.S_new' (Kd.S_new' (Kd.S_new' ho0 (Kd.R_lt (rs HO_6))) (Kd.R_lt (rs HO_9))) (Kd.S_lt (ss HO_444000))) (Kd.S_lt (ss HO_462000))) (below_size (hs2 HB GE443 GE461)));have n5_:=zMk (Kd.R_lower (Kd.R_new' (Kd.R_new' ho1 (Kd.R_lt (rs HO_6))) (Kd.R_lt (rs HO_9))) (below_size (hs2 HB GE443 GE461)));have n6_:=zMk (blk_below (g:=gb443) (o:=.cells #[.slice Ao8 t437.length co8] 26 (0,0)) (bs BK443) hb);have n7_:=zMk (blk_below (g:=gb461) (o:=.cells #[.slice Ao32 t455.length co32] 26 (0,0)) (bs BK461) hb);have n8_:=zMk (below_step (hs2 HB GE443 GE461) hb);clear HO_6;clear HO_9;clear HO_444000;clear HO_462000;clear BK443;clear BK461;clear HB;have HO_6:=n0_;have HO_9:=n1_;have HO_444000:=n2_;have HO_462000:=n3_;have HO465:=n4_;have HO468:=n5_;have BK443:=n6_;have BK461:=n7_;have HB:=n8_;clear n0_ n1_ n2_ n3_ n4_ n5_ n6_ n7_ n8_;(try clear hb);(try clear hb2);(try clear hk);(try clear hi);(try clear ho0);(try clear ho1)) | ((with_reducible refine gate_dst (N:=11) rfl ?_);(try (refine gate_guard (by rfl) ?_;dsimp only));refine box_event ?hg (N:=11) ?hd (cs:=#[.slice none 0 0]) (t:=26) ?hr ?_;(case hd=>rfl);(case hg=>rfl);(case hr=>first | (go_simp;done) | (go_simp;rfl));intro gb469 hg w72 hbox hb;have n0_:=zMk (Kd.R_below (rs HO_6) hb);have n1_:=zMk (Kd.R_below (rs HO_9) hb);have n2_:=zMk (Kd.S_below (ss HO_444000) hb);have n3_:=zMk (Kd.S_below (ss HO_462000) hb);have n4_:=zMk (Kd.S_below (ss HO465) hb);have n5_:=zMk (Kd.R_below (rs HO468) hb);have n6_:=zMk (blk_below (g:=gb443) (o:=.cells #[.slice Ao8 t437.length co8] 26 (0,0)) (bs BK443) hb);have n7_:=zMk (blk_below (g:=gb461) (o:=.cells #[.slice Ao32 t455.length co32] 26 (0,0)) (bs BK461) hb);have n8_:=zMk (below_step (hs2 HB GE443 GE461) hb);have n9_:=zMk (hbox);have n10_:=zMk ((by rw [hg];exact (below_size (hs2 HB GE443 GE461)) : w.heap.size ≤ gb469));have n11_:=zMk ((by rw [hg];exact (below_size (hs2 HB GE443 GE461)) : w.heap.size ≤ gb469));have n12_:=zMk ((by rw [hg];exact Nat.ne_of_lt (blk_lt (g:=gb443) (o:=.cells #[.slice Ao8 t437.length co8] 26 (0,0)) (bs BK443)) : gb443 ≠ gb469));have n13_:=zMk ((by rw [hg];exact Nat.ne_of_gt (blk_lt (g:=gb443) (o:=.cells #[.slice Ao8 t437.length co8] 26 (0,0)) (bs BK443)) : gb469 ≠ gb443));have n14_:=zMk ((by rw [hg];exact Nat.ne_of_lt (blk_lt (g:=gb461) (o:=.cells #[.slice Ao32 t455.length co32] 26 (0,0)) (bs BK461)) : gb461 ≠ gb469));have n15_:=zMk ((by rw [hg];exact Nat.ne_of_gt (blk_lt (g:=gb461) (o:=.cells #[.slice Ao32 t455.length co32] 26 (0,0)) (bs BK461)) : gb469 ≠ gb461));clear HO_6;clear HO_9;clear HO_444000;clear HO_462000;clear HO465;clear HO468;clear BK443;clear BK461;clear HB;have HO_6:=n0_;have HO_9:=n1_;have HO_444000:=n2_;have HO_462000:=n3_;have HO465:=n4_;have HO468:=n5_;have BK443:=n6_;have BK461:=n7_;have HB:=n8_;have BK469:=n9_;have GW469:=n10_;have GE469:=n11_;have NB443_469:=n12_;have NB469_443:=n13_;have NB461_469:=n14_;have NB469_461:=n15_;clear n0_ n1_ n2_ n3_ n4_ n5_ n6_ n7_ n8_ n9_ n10_ n11_ n12_ n13_ n14_ n15_;clear hb hbox hg;obtain ⟨Ao73,co73,eo73⟩:=Kd.S_slice HO465.out;subst eo73;have hnb74:=NB469_443.out;have hnc74:=NB443_469.out;have hnb75:=NB469_461.out;have hnc75:=NB461_469.out;have hcz76_0 : w72.cell? ⟨gb469,0,none⟩ = some (.slice none 0 0):=(zCl BK469.out 0).trans rfl;have hfz76_0:=zFr BK469.out 0;have hcz77_0 : w72.cell? ⟨gb461,0,none⟩ = some (.slice Ao32 t455.length co32):=(zCl BK461.out 0).trans rfl;have hfz77_0:=zFr BK461.out 0;obtain ⟨Ao78,co78,eo78⟩:=Kd.R_slice HO468.out;subst eo78) | (go_at_call 13;(with_reducible refine (laws_sameInts.calls k3 _ _ t466 _ _ t458 t470 _ ?side1 ?side2 ?side3 ?side4 A67.out).mono ?_);(case side1=>refine (Kd.R_reads' (e:=3) (base:=w.heap.size) (ok:=fun k_=>((True ∧ some k_ ≠ (.slice Ao29 x6_1.length co29 : Value).ownBlock) ∧ some k_ ≠ (.slice Ao70 t458.length co70 : Value).ownBlock)) (n:=t466.length) (c:=co78) ?_).2.2;exact (by (with_reducible repeat (first | apply Kd.R_alloc | apply Kd.R_drewN | apply Kd.R_drew));exact (Kd.R_mono (Kd.R_far (p:=⟨gb469,0,none⟩) (Kd.R_types HO468.out BK469.out (by decide)) (fun _ hk=>hk.2) (.slice Ao73 t463.length co73)) (fun _ h_=>h_.1))));(case side2=>exact (Kd.R_reads' HO468.out).2.1);(case side3=>refine (Kd.R_reads' (e:=3) (base:=w.heap.size) (ok:=fun k_=>(some k_ ≠ (.slice Ao29 x6_1.length co29 : Value).ownBlock ∧ some k_ ≠ (.slice Ao78 t466.length co78 : Value).ownBlock)) (n:=t458.length) (c:=co70) ?_).2.2;exact (by (with_reducible repeat (first | apply Kd.R_alloc | apply Kd.R_drewN | apply Kd.R_drew));exact (Kd.R_mono (Kd.R_far (p:=⟨gb469,0,none⟩) (Kd.R_types HO_9.out BK469.out (by decide)) (fun _ hk=>hk.2) (.slice Ao73 t463.length co73)) (fun _ h_=>h_.1))));(case side4=>exact (Kd.R_reads' HO_9.out).2.1);rintro e w' ⟨rfl,⟨nd,rfl⟩⟩))
        go_ret
        exact ⟨by first | rfl | (simp [errW_none,errW_some] <;> rfl) | (simp [*,errW_none,errW_some] <;> rfl),hs3 HB GE443 GE461 GE469⟩
       rw [if_neg c66] at H;have c66b0 : ((t463.length : Int) == (t455.length : Int)) = false:=beq_eq_false_iff_ne.mpr c66;have c66b1 : ((t463.length : Int) != (t455.length : Int)) = true:=bne_iff_ne.mpr c66;have c66b2 : (t463.length == t455.length) = false:=by first | simpa using c66 | (simp at c66 ⊢;omega)
       exact absurd ((Option.some.inj H).trans hT.out) (by decide)
def laws_FnSweepTrees.Pure : Prop:=∀ (l0 : List Int),l0.length ≤ maxLen → l0.length * 1 ≤ 140737488351232 → (∀ x ∈ l0,(Lit.int .u8 x).wf = true) → ∃ k,laws_FnSweepTrees.f k l0 = some true
theorem laws_FnSweepTrees.walk (P : laws_FnSweepTrees.Pure) (a0 : Option Addr) (len0 cap0 : Nat) (z0 : List Int) (w : World) (w0 : (a0 = none ∧ len0 = 0 ∧ cap0 = 0 ∧ z0 = []) ∨ ∃ x,a0 = some x ∧ len0 ≤ cap0 ∧ cap0 ≤ maxLen ∧ z0.length = cap0 ∧ (∀ i,i < z0.length → w.cell? (x.add i) = some (.int .u8 (z0.getD i 0))) ∧ ∀ n ∈ z0,(Lit.int .u8 n).wf = true) (y0 : len0 * 1 ≤ 140737488351232) :
  Calls Try.prog 5 #[.slice a0 len0 cap0] w fun e w'=>e = .returned (.bool true) ∧ Below w.heap.size w w':=by
 obtain ⟨l0,rfl,hr0,hm0,hw0,hc0⟩:=ReadsInt.ofRowC w0;obtain ⟨k,h⟩:=P l0 hm0 y0 hw0;refine (laws_FnSweepTrees.calls k _ _ l0 true ⟨rfl⟩ w (Kd.C_of_reads (d:=(0 : Int)) (h1:=fun _=>rfl) hr0) hc0 h).mono ?_;rintro e w' ⟨rfl,hd⟩;exact ⟨rfl,hd⟩
end Go.Proofs.Ytjpjikhokpfhmaa.PT

/- Plain facts on rounds, lists and whole numbers, for the pure statements. -/
namespace Go.Proofs.Ytjpjikhokpfhmaa.Pu
set_option linter.unusedVariables false
set_option linter.unusedSimpArgs false
open Go.RowKit Go.Proofs.YtjpjikhokpfhmaaW.PrintWords

theorem w64 {x : Int} (h1 : -9223372036854775808 ≤ x) (h2 : x ≤ 9223372036854775807) : wrap64 x = x := by
  unfold wrap64; omega
theorem wsucc {i n : Nat} (h : i < n) (hn : n ≤ 9223372036854775807) : wrap64 ((i : Int) + 1) = ((i + 1 : Nat) : Int) := by
  rw [w64 (by omega) (by omega)]; rfl
theorem wf_i64 {n : Int} (h : (Lit.int .i64 n).wf = true) : -9223372036854775808 ≤ n ∧ n ≤ 9223372036854775807 := by
  simp only [Lit.wf, Bool.and_eq_true, decide_eq_true_eq] at h
  have h1 : IntKind.min .i64 = -9223372036854775808 := by decide
  have h2 : IntKind.max .i64 = 9223372036854775807 := by decide
  omega

/-- Rounds: what is told, a step on. -/
theorem ev_some {α : Type} {g : Nat → Option α} {r : α} (h : ∀ k, g (k + 1) = some r) : Ev g r := Ev.step h (Ev.now r)
theorem ev_const {α : Type} {o : Option α} {r : α} (h : o = some r) : Ev (fun _ => o) r := ⟨0, fun _ _ => h⟩
theorem ev_bind {α β : Type} {g : Nat → Option α} {f : Nat → α → Option β} {a : α} {r : β} (h : Ev g a) (k : Ev (fun n => f n a) r) : Ev (fun n => (g n).bind (f n)) r := Ev.bind h k
theorem ev_uniq {α : Type} {g : Nat → Option α} {a b : α} (h : Ev g a) (k : Ev g b) : a = b := by
  obtain ⟨K, hK⟩ := h
  obtain ⟨M, hM⟩ := k
  have h1 := hK (max K M) (Nat.le_max_left _ _)
  rw [hM (max K M) (Nat.le_max_right _ _)] at h1
  injection h1 with h1
  exact h1.symm
theorem ev_ext {α : Type} {g f : Nat → Option α} {r : α} (h : ∀ k, g k = f k) (k : Ev f r) : Ev g r := Ev.congr h k

/-- A row that is made and filled, place by place. -/
theorem ev_fill {β : Type} {L : Nat → List β → Int → Option (List β)} {E : Nat → Int → Option β} {n : Nat} {e : Nat → β} (hn : n ≤ 9223372036854775807)
    (hs : ∀ k xs i, L (k + 1) xs i = if i < (n : Int) then (if 0 ≤ i then ((E k i).bind fun b => if i < (xs.length : Int) then L k (xs.set i.toNat b) (wrap64 (i + 1)) else none) else none) else some xs)
    (hE : ∀ i, i < n → Ev (fun k => E k (i : Int)) (e i)) :
    ∀ (d i : Nat) (xs : List β), xs.length = n → i + d = n → Ev (fun k => L k xs (i : Int)) (xs.take i ++ (List.range' i d).map e) := by
  intro d
  induction d with
  | zero =>
    intro i xs hl hi
    refine ev_some fun k => ?_
    rw [hs, if_neg (by omega)]
    simp [List.take_of_length_le (show xs.length ≤ i by omega)]
  | succ d ih =>
    intro i xs hl hi
    refine Ev.step (f := fun k => (E k (i : Int)).bind fun b => L k (xs.set i b) ((i + 1 : Nat) : Int)) (fun k => ?_) ?_
    · rw [hs, if_pos (by omega), if_pos (by omega), wsucc (n := n) (by omega) hn]
      congr 1
      funext b
      rw [if_pos (by omega)]
      rfl
    · refine ev_bind (hE i (by omega)) ?_
      have h := ih (i + 1) (xs.set i (e i)) (by rw [List.length_set]; exact hl) (by omega)
      have e1 : (xs.set i (e i)).take (i + 1) ++ (List.range' (i + 1) d).map e = xs.take i ++ (List.range' i (d + 1)).map e := by
        rw [List.range'_succ, List.map_cons, List.take_succ_eq_append_getElem (by rw [List.length_set]; omega), List.getElem_set_self, List.take_set_of_le (Nat.le_refl _)]
        simp
      rw [e1] at h
      exact h
theorem map_range {α β : Type} (l : List α) (z : α) (g : α → β) : (List.range' 0 l.length).map (fun i => g (l.getD i z)) = l.map g := by
  apply List.ext_getElem
  · simp
  · intro i h1 h2
    simp only [List.length_map] at h2
    simp [List.getD_eq_getElem?_getD, List.getElem?_eq_getElem h2]
theorem ev_fill_all {α β : Type} {L : Nat → List β → Int → Option (List β)} {E : Nat → Int → Option β} {l : List α} {z : α} {g : α → β} {xs : List β} (hn : l.length ≤ 9223372036854775807)
    (hs : ∀ k xs i, L (k + 1) xs i = if i < (l.length : Int) then (if 0 ≤ i then ((E k i).bind fun b => if i < (xs.length : Int) then L k (xs.set i.toNat b) (wrap64 (i + 1)) else none) else none) else some xs)
    (hE : ∀ i, i < l.length → Ev (fun k => E k (i : Int)) (g (l.getD i z))) (hx : xs.length = l.length) : Ev (fun k => L k xs 0) (l.map g) := by
  have h := ev_fill (e := fun i => g (l.getD i z)) hn hs hE l.length 0 xs hx (by omega)
  rw [map_range] at h
  simpa using h

/-- Every place meets a test, tried place by place. -/
theorem ev_all {L E : Nat → Int → Option Bool} {n m : Nat} (hn : n ≤ 9223372036854775807) (hnm : n ≤ m)
    (hs : ∀ k i, L (k + 1) i = if i < (n : Int) then (if 0 ≤ i then (if i < (m : Int) then ((E k i).bind fun b => if b = true then L k (wrap64 (i + 1)) else some false) else none) else none) else some true)
    (hE : ∀ i, i < n → Ev (fun k => E k (i : Int)) true) : ∀ (d i : Nat), i + d = n → Ev (fun k => L k (i : Int)) true := by
  intro d
  induction d with
  | zero => intro i hi; exact ev_some fun k => by rw [hs, if_neg (by omega)]
  | succ d ih =>
    intro i hi
    refine Ev.step (f := fun k => (E k (i : Int)).bind fun b => if b = true then L k ((i + 1 : Nat) : Int) else some false) (fun k => ?_) (ev_bind (hE i (by omega)) (by simpa using ih (i + 1) (by omega)))
    rw [hs, if_pos (by omega), if_pos (by omega), if_pos (by omega), wsucc (n := n) (by omega) hn]

/-- What is left of a number, place by place, as long as it is not below 0. -/
theorem ev_size {L E : Nat → Int → Int → Option Int} {n : Nat} {P : Nat → Prop} (hn : n ≤ 9223372036854775807)
    (hs : ∀ k a i, L (k + 1) a i = if i < (n : Int) then (if 0 ≤ i then ((E k i a).bind fun t => if t < 0 then some (-1) else L k t (wrap64 (i + 1))) else none) else some a)
    (hE : ∀ i a, i < n → 0 ≤ a → a ≤ 1048576 → ∃ t, Ev (fun k => E k (i : Int) a) t ∧ t ≤ a ∧ (0 ≤ t → P i)) :
    ∀ (d i : Nat) (a : Int), i + d = n → 0 ≤ a → a ≤ 1048576 → ∃ r, Ev (fun k => L k a (i : Int)) r ∧ r ≤ a ∧ (0 ≤ r → ∀ m, i ≤ m → m < n → P m) := by
  intro d
  induction d with
  | zero => intro i a hi h0 h1; exact ⟨a, ev_some fun k => by rw [hs, if_neg (by omega)], Int.le_refl _, fun _ m h2 h3 => by omega⟩
  | succ d ih =>
    intro i a hi h0 h1
    obtain ⟨t, ht, hta, hp⟩ := hE i a (by omega) h0 h1
    have hst : ∀ k, L (k + 1) a (i : Int) = (E k (i : Int) a).bind fun t => if t < 0 then some (-1) else L k t ((i + 1 : Nat) : Int) := fun k => by
      rw [hs, if_pos (by omega), if_pos (by omega), wsucc (n := n) (by omega) hn]
    by_cases hneg : t < 0
    · exact ⟨-1, Ev.step hst (ev_bind ht (by simp only [if_pos hneg]; exact Ev.now _)), by omega, fun h => by omega⟩
    · obtain ⟨r, hr, hra, hq⟩ := ih (i + 1) t (by omega) (by omega) (by omega)
      refine ⟨r, Ev.step hst (ev_bind ht (by simp only [if_neg hneg]; exact hr)), by omega, fun h0r m h2 h3 => ?_⟩
      by_cases e : m = i
      · subst e; exact hp (by omega)
      · exact hq h0r m (by omega) h3
end Go.Proofs.Ytjpjikhokpfhmaa.Pu

/- Elements of rows, by their number (in a seat without the laws' own copies of knots: in place of PuArena). -/
namespace Go.Proofs.Ytjpjikhokpfhmaa.Pu
open Go.RowKit Go.Proofs.Ytjpjikhokpfhmaa.PT Go.Proofs.YtjpjikhokpfhmaaW.PrintWords

theorem rd_nat (l : List Int) (i : Nat) : rd l (i : Int) = l.getD i 0 := rfl
theorem rdIK_nat (l : List S47) (i : Nat) : rd_T47 l (i : Int) = l.getD i z47 := rfl
end Go.Proofs.Ytjpjikhokpfhmaa.Pu

/- When an arena is right, as one test; the program's and the reference's ArenaOk answer it. -/
namespace Go.Proofs.Ytjpjikhokpfhmaa.Pu
set_option linter.unusedVariables false
set_option linter.unusedSimpArgs false
open Go.RowKit Go.Proofs.Ytjpjikhokpfhmaa.PT Go.Proofs.YtjpjikhokpfhmaaW.PrintWords

theorem in_eq (a l h : Int) : impl_in.f a l h = some (decide (l ≤ a ∧ a ≤ h)) := by
  unfold impl_in.f
  by_cases h1 : a ≥ l
  · rw [if_pos h1]; congr 1; simp; omega
  · rw [if_neg h1]; congr 1; simp; omega
theorem l01In_eq (a l h : Int) : spec_l01In.f a l h = some (decide (l ≤ a ∧ a ≤ h)) := by
  unfold spec_l01In.f
  by_cases h1 : a ≥ l
  · rw [if_pos h1]; congr 1; simp; omega
  · rw [if_neg h1]; congr 1; simp; omega

/-- A kid of the knot at place i. -/
def kidB (l : List S47) (i : Nat) (leaf : Bool) (n : Int) : Bool :=
  if leaf = true then decide (0 ≤ n) else decide (n = -1) || (decide (0 ≤ n ∧ n ≤ (i : Int) - 1) && (l.getD n.toNat z47).f0)
def knotB (l : List S47) (i : Nat) (x : S47) : Bool := decide (x.f1.length = 4) && x.f1.all (kidB l i x.f0)
def arenaB (l : List S47) : Bool := (List.range' 0 l.length).all fun i => knotB l i (l.getD i z47)

theorem sArena_step (k : Nat) (kids : List Int) (i j : Nat) (a : List S47) (leaf : Bool) (hi : i < a.length) (hn : a.length ≤ 9223372036854775807) (hj : j < 4) (hk : kids.length = 4) :
    spec_ArenaOk.l1 (k + 1) i j a leaf kids = if kidB a i leaf (kids.getD j 0) = true then spec_ArenaOk.l1 k i ((j + 1 : Nat) : Int) a leaf kids else some false := by
  simp only [spec_ArenaOk.l1]
  rw [if_pos (by omega), if_pos (by omega), if_pos (by omega), wsucc (n := 4) hj (by omega), w64 (x := (i : Int) - 1) (by omega) (by omega), rd_nat]
  generalize kids.getD j 0 = n
  unfold kidB
  cases leaf with
  | true => by_cases h : n < 0 <;> simp [h] <;> omega
  | false =>
    simp only [Bool.false_eq_true, if_false, l01In_eq, Option.bind_some, decide_eq_true_eq]
    by_cases h1 : n = -1
    · simp [h1]
    · by_cases h2 : 0 ≤ n ∧ n ≤ (i : Int) - 1
      · rw [if_neg h1, if_pos h2, if_pos h2.1, if_pos (by omega)]
        simp [h1, h2, rd_T47]
      · simp [h1, h2]
theorem iArena_step (k : Nat) (kids : List Int) (i j : Nat) (a : List S47) (leaf : Bool) (hi : i < a.length) (hn : a.length ≤ 9223372036854775807) (hj : j < 4) (hk : kids.length = 4) :
    impl_ArenaOk.l1 (k + 1) i a a.length i kids kids.length j a leaf kids = if kidB a i leaf (kids.getD j 0) = true then impl_ArenaOk.l1 k i a a.length i kids kids.length ((j + 1 : Nat) : Int) a leaf kids else some false := by
  simp only [impl_ArenaOk.l1]
  rw [if_pos (by omega), if_pos (by omega), if_pos (by omega), wsucc (n := 4) hj (by omega), w64 (x := (i : Int) - 1) (by omega) (by omega), rd_nat]
  generalize kids.getD j 0 = n
  unfold kidB
  cases leaf with
  | true => by_cases h : n < 0 <;> simp [h] <;> omega
  | false =>
    simp only [Bool.false_eq_true, if_false, in_eq, Option.bind_some, decide_eq_true_eq]
    by_cases h1 : n = -1
    · simp [h1]
    · by_cases h2 : 0 ≤ n ∧ n ≤ (i : Int) - 1
      · rw [if_neg h1, if_pos h2, if_pos h2.1, if_pos (by omega)]
        simp [h1, h2, rd_T47]
      · simp [h1, h2]
/-- The kids of one knot, tried in order; then what comes. -/
theorem ev_kids {L : Nat → Int → Option Bool} {g : Nat → Option Bool} {kids : List Int} {T : Int → Bool} {r : Bool} (hk : kids.length = 4)
    (hs : ∀ k j, j < 4 → L (k + 1) ((j : Nat) : Int) = if T (kids.getD j 0) = true then L k ((j + 1 : Nat) : Int) else some false) (he : ∀ k, L (k + 1) 4 = g k) (hr : Ev g r) :
    ∀ (d j : Nat), j + d = 4 → Ev (fun k => L k (j : Int)) ((kids.drop j).all T && r) := by
  intro d
  induction d with
  | zero =>
    intro j hj
    obtain rfl : j = 4 := by omega
    refine Ev.step (f := g) (fun k => he k) ?_
    rw [List.drop_eq_nil_of_le (by omega)]
    exact hr
  | succ d ih =>
    intro j hj
    have hjl : j < kids.length := by omega
    rw [List.drop_eq_getElem_cons hjl, List.all_cons]
    have e : kids.getD j 0 = kids[j] := by rw [List.getD_eq_getElem?_getD, List.getElem?_eq_getElem hjl]; rfl
    by_cases h : T kids[j] = true
    · rw [h, Bool.true_and]
      exact Ev.step (f := fun k => L k ((j + 1 : Nat) : Int)) (fun k => by rw [hs k j (by omega), e, if_pos h]) (ih (j + 1) (by omega))
    · rw [Bool.eq_false_iff.mpr h, Bool.false_and, Bool.false_and]
      exact ev_some fun k => by rw [hs k j (by omega), e, if_neg h]
theorem sArena_ev (a : List S47) (hn : a.length ≤ 9223372036854775807) : Ev (fun k => spec_ArenaOk.f k a) (arenaB a) := by
  have main : ∀ (d i : Nat), i + d = a.length → Ev (fun k => spec_ArenaOk.l0 k (i : Int) a) ((List.range' i d).all fun i => knotB a i (a.getD i z47)) := by
    intro d
    induction d with
    | zero => intro i hi; exact ev_some fun k => by simp only [spec_ArenaOk.l0]; rw [if_neg (by omega)]; rfl
    | succ d ih =>
      intro i hi
      rw [List.range'_succ, List.all_cons]
      unfold knotB
      by_cases h4 : (a.getD i z47).f1.length = 4
      · rw [decide_eq_true h4, Bool.true_and]
        have h := ev_kids (L := fun k j => spec_ArenaOk.l1 k i j a (a.getD i z47).f0 (a.getD i z47).f1) (T := kidB a i (a.getD i z47).f0) h4 (fun k j hj => sArena_step k (a.getD i z47).f1 i j a _ (by omega) hn hj h4)
          (g := fun k => spec_ArenaOk.l0 k ((i + 1 : Nat) : Int) a) (fun k => by simp only [spec_ArenaOk.l1]; rw [if_neg (by omega), wsucc (n := a.length) (by omega) hn]) (ih (i + 1) (by omega)) 4 0 rfl
        refine Ev.step (fun k => ?_) h
        simp only [spec_ArenaOk.l0]
        rw [if_pos (by omega), if_pos (by omega), rdIK_nat, if_pos (by omega)]
        rfl
      · rw [decide_eq_false h4, Bool.false_and, Bool.false_and]
        refine ev_some fun k => ?_
        simp only [spec_ArenaOk.l0]
        rw [if_pos (by omega), if_pos (by omega), rdIK_nat, if_neg (by omega)]
  exact main a.length 0 (by omega)
theorem iArena_ev (a : List S47) (hn : a.length ≤ 9223372036854775807) : Ev (fun k => impl_ArenaOk.f k a) (arenaB a) := by
  have main : ∀ (d i : Nat), i + d = a.length → Ev (fun k => impl_ArenaOk.l0 k a a.length (i : Int) a) ((List.range' i d).all fun i => knotB a i (a.getD i z47)) := by
    intro d
    induction d with
    | zero => intro i hi; exact ev_some fun k => by simp only [impl_ArenaOk.l0]; rw [if_neg (by omega)]; rfl
    | succ d ih =>
      intro i hi
      rw [List.range'_succ, List.all_cons]
      unfold knotB
      by_cases h4 : (a.getD i z47).f1.length = 4
      · rw [decide_eq_true h4, Bool.true_and]
        have h := ev_kids (L := fun k j => impl_ArenaOk.l1 k i a a.length i (a.getD i z47).f1 (a.getD i z47).f1.length j a (a.getD i z47).f0 (a.getD i z47).f1) (T := kidB a i (a.getD i z47).f0) h4 (fun k j hj => iArena_step k (a.getD i z47).f1 i j a _ (by omega) hn hj h4)
          (g := fun k => impl_ArenaOk.l0 k a a.length ((i + 1 : Nat) : Int) a) (fun k => by simp only [impl_ArenaOk.l1]; rw [if_neg (by omega), wsucc (n := a.length) (by omega) hn]) (ih (i + 1) (by omega)) 4 0 rfl
        refine Ev.step (fun k => ?_) h
        simp only [impl_ArenaOk.l0]
        rw [if_pos (by omega), if_pos (by omega), if_pos (by omega), rdIK_nat, if_pos (by omega)]
        rfl
      · rw [decide_eq_false h4, Bool.false_and, Bool.false_and]
        refine ev_some fun k => ?_
        simp only [impl_ArenaOk.l0]
        rw [if_pos (by omega), if_pos (by omega), if_pos (by omega), rdIK_nat, if_neg (by omega)]
  exact main a.length 0 (by omega)
end Go.Proofs.Ytjpjikhokpfhmaa.Pu

/- The number of a sector of a tree, as one function; the program's and the reference's GetAt answer it. -/
namespace Go.Proofs.Ytjpjikhokpfhmaa.Pu
set_option linter.unusedVariables false
set_option linter.unusedSimpArgs false
open Go.RowKit Go.Proofs.Ytjpjikhokpfhmaa.PT Go.Proofs.YtjpjikhokpfhmaaW.PrintWords

def rootB (a : List S47) (r : Int) : Bool := decide (0 ≤ r ∧ r ≤ (a.length : Int) - 1) && !(a.getD r.toNat z47).f0
def numB (a : List S47) (r s : Int) : Int := if (a.getD r.toNat z47).f1.getD (s / 4).toNat 0 < 0 then 0 else (a.getD ((a.getD r.toNat z47).f1.getD (s / 4).toNat 0).toNat z47).f1.getD (s % 4).toNat 0
def getB (a : List S47) (r s : Int) : Int := if (0 ≤ s ∧ s ≤ 15) ∧ rootB a r = true ∧ arenaB a = true then numB a r s else 0

theorem knot_of {a : List S47} (h : arenaB a = true) {i : Nat} (hi : i < a.length) : (a.getD i z47).f1.length = 4 ∧ ∀ n ∈ (a.getD i z47).f1, kidB a i (a.getD i z47).f0 n = true := by
  unfold arenaB at h
  rw [List.all_eq_true] at h
  have h1 := h i (by simp; omega)
  unfold knotB at h1
  rw [Bool.and_eq_true, decide_eq_true_eq, List.all_eq_true] at h1
  exact h1
theorem getD_mem {α : Type} {l : List α} {i : Nat} {z : α} (hi : i < l.length) : l.getD i z ∈ l := by
  rw [List.getD_eq_getElem?_getD, List.getElem?_eq_getElem hi]; exact List.getElem_mem hi
/-- A kid of a knot that is no leaf: -1, or the place of a leaf. -/
theorem kid_of {a : List S47} (h : arenaB a = true) {r : Nat} (hr : r < a.length) (hf : (a.getD r z47).f0 = false) {j : Nat} (hj : j < 4) :
    (a.getD r z47).f1.getD j 0 = -1 ∨ (0 ≤ (a.getD r z47).f1.getD j 0 ∧ (a.getD r z47).f1.getD j 0 < r ∧ (a.getD ((a.getD r z47).f1.getD j 0).toNat z47).f0 = true) := by
  obtain ⟨h4, hk⟩ := knot_of h hr
  have h1 := hk _ (getD_mem (i := j) (z := 0) (by omega))
  unfold kidB at h1
  rw [hf] at h1
  simp only [Bool.false_eq_true, if_false, Bool.or_eq_true, decide_eq_true_eq, Bool.and_eq_true] at h1
  rcases h1 with h1 | ⟨h1, h2⟩
  · exact .inl h1
  · exact .inr ⟨h1.1, by omega, h2⟩
theorem iRoot_eq (a : List S47) (r : Int) (hn : a.length ≤ 9223372036854775807) : impl_isRoot.f a r = some (rootB a r) := by
  unfold impl_isRoot.f rootB
  rw [w64 (by omega) (by omega), in_eq]
  simp only [Option.bind_some]
  by_cases h : 0 ≤ r ∧ r ≤ (a.length : Int) - 1
  · rw [decide_eq_true h, if_pos rfl, if_pos h.1, if_pos (by omega), Bool.true_and]; rfl
  · rw [decide_eq_false h, if_neg (by decide), Bool.false_and]
theorem sRoot_eq (a : List S47) (r : Int) (hn : a.length ≤ 9223372036854775807) : spec_l11Root.f a r = some (decide (r = -1) || rootB a r) := by
  unfold spec_l11Root.f rootB
  by_cases h0 : r = -1
  · rw [if_pos h0, decide_eq_true h0, Bool.true_or]
  · rw [if_neg h0, decide_eq_false h0, Bool.false_or, w64 (by omega) (by omega), l01In_eq]
    simp only [Option.bind_some]
    by_cases h : 0 ≤ r ∧ r ≤ (a.length : Int) - 1
    · rw [decide_eq_true h, if_pos rfl, if_pos h.1, if_pos (by omega), Bool.true_and]; rfl
    · rw [decide_eq_false h, if_neg (by decide), Bool.false_and]
theorem div4 {s : Int} (h0 : 0 ≤ s) (h1 : s ≤ 15) : wrap64 (Int.tdiv s 4) = s / 4 ∧ Int.tmod s 4 = s % 4 ∧ 0 ≤ s / 4 ∧ s / 4 < 4 ∧ 0 ≤ s % 4 ∧ s % 4 < 4 := by
  rw [Int.tdiv_eq_ediv_of_nonneg h0, Int.tmod_eq_emod_of_nonneg h0, w64 (by omega) (by omega)]
  omega
theorem root_lt {a : List S47} {r : Int} (h : rootB a r = true) : 0 ≤ r ∧ r.toNat < a.length ∧ (a.getD r.toNat z47).f0 = false := by
  unfold rootB at h
  rw [Bool.and_eq_true, decide_eq_true_eq, Bool.not_eq_true'] at h
  exact ⟨h.1.1, by omega, h.2⟩
theorem iNumber_eq (a : List S47) (r s : Int) (ha : arenaB a = true) (hr : rootB a r = true) (h0 : 0 ≤ s) (h1 : s ≤ 15) : impl_numberAt.f a r s = some (numB a r s) := by
  obtain ⟨r0, rl, rf⟩ := root_lt hr
  obtain ⟨d1, d2, d3, d4, d5, d6⟩ := div4 h0 h1
  have h4 := (knot_of ha rl).1
  have hk := kid_of ha rl rf (j := (s / 4).toNat) (by omega)
  unfold impl_numberAt.f numB
  simp only [d1, d2]
  show (if 0 ≤ r then if r < (a.length : Int) then if 0 ≤ s / 4 then if s / 4 < (((a.getD r.toNat z47).f1.length : Nat) : Int) then if (a.getD r.toNat z47).f1.getD (s / 4).toNat 0 < 0 then some 0 else if 0 ≤ (a.getD r.toNat z47).f1.getD (s / 4).toNat 0 then if (a.getD r.toNat z47).f1.getD (s / 4).toNat 0 < (a.length : Int) then if 0 ≤ s % 4 then if s % 4 < (((a.getD ((a.getD r.toNat z47).f1.getD (s / 4).toNat 0).toNat z47).f1.length : Nat) : Int) then some ((a.getD ((a.getD r.toNat z47).f1.getD (s / 4).toNat 0).toNat z47).f1.getD (s % 4).toNat 0) else none else none else none else none else none else none else none else none) = _
  rw [if_pos r0, if_pos (by omega), if_pos d3, if_pos (by omega)]
  rcases hk with hk | ⟨k0, k1, _⟩
  · rw [if_pos (by omega), if_pos (by omega)]
  · have h5 := (knot_of ha (i := ((a.getD r.toNat z47).f1.getD (s / 4).toNat 0).toNat) (by omega)).1
    rw [if_neg (by omega), if_pos k0, if_pos (by omega), if_pos d5, if_pos (by omega), if_neg (by omega)]
theorem sGet_eq (a : List S47) (r s : Int) (ha : arenaB a = true) (hr : rootB a r = true) (h0 : 0 ≤ s) (h1 : s ≤ 15) : spec_l11Get.f a r s = some (numB a r s) := by
  obtain ⟨r0, rl, rf⟩ := root_lt hr
  have h := iNumber_eq a r s ha hr h0 h1
  unfold impl_numberAt.f at h
  unfold spec_l11Get.f
  rw [if_neg (by omega)]
  exact h
theorem iGetAt_ev (a : List S47) (r s : Int) (hn : a.length ≤ 9223372036854775807) : Ev (fun k => impl_GetAt.f k a r s) (getB a r s) := by
  unfold impl_GetAt.f getB
  simp only [in_eq, iRoot_eq a r hn, Option.bind_some, decide_eq_true_eq]
  by_cases h1 : 0 ≤ s ∧ s ≤ 15
  · by_cases h2 : rootB a r = true
    · simp only [if_pos h1, if_pos h2]
      refine ev_bind (iArena_ev a hn) ?_
      by_cases h3 : arenaB a = true
      · simp only [if_pos h3, if_pos (show (0 ≤ s ∧ s ≤ 15) ∧ rootB a r = true ∧ arenaB a = true from ⟨h1, h2, h3⟩)]
        rw [iNumber_eq a r s h3 h2 h1.1 h1.2]
        exact Ev.now _
      · simp only [if_neg h3, if_neg (show ¬ ((0 ≤ s ∧ s ≤ 15) ∧ rootB a r = true ∧ arenaB a = true) from fun h => h3 h.2.2)]
        exact Ev.now _
    · simp only [if_pos h1, if_neg h2, if_neg (show ¬ ((0 ≤ s ∧ s ≤ 15) ∧ rootB a r = true ∧ arenaB a = true) from fun h => h2 h.2.1)]
      exact Ev.now _
  · simp only [if_neg h1, if_neg (show ¬ ((0 ≤ s ∧ s ≤ 15) ∧ rootB a r = true ∧ arenaB a = true) from fun h => h1 h.1)]
    exact Ev.now _
theorem sGetAt_ev (a : List S47) (r s : Int) (hn : a.length ≤ 9223372036854775807) : Ev (fun k => spec_GetAt.f k a r s) (getB a r s) := by
  unfold spec_GetAt.f getB
  refine ev_bind (sArena_ev a hn) ?_
  by_cases h3 : arenaB a = true
  · simp only [if_pos h3, l01In_eq, sRoot_eq a r hn, Option.bind_some]
    by_cases h2 : rootB a r = true
    · simp only [h2, Bool.or_true, if_true]
      by_cases h1 : 0 ≤ s ∧ s ≤ 15
      · simp only [decide_eq_true h1, if_true, if_pos (show (0 ≤ s ∧ s ≤ 15) ∧ True ∧ arenaB a = true from ⟨h1, trivial, h3⟩)]
        rw [sGet_eq a r s h3 h2 h1.1 h1.2]
        exact Ev.now _
      · simp only [decide_eq_false h1, Bool.false_eq_true, if_false, if_neg (show ¬ ((0 ≤ s ∧ s ≤ 15) ∧ True ∧ arenaB a = true) from fun h => h1 h.1)]
        exact Ev.now _
    · have e : getB a r s = 0 := by unfold getB; exact if_neg fun h => h2 h.2.1
      unfold getB at e
      rw [e]
      by_cases h0 : r = -1
      · simp only [decide_eq_true h0, Bool.true_or, if_true]
        by_cases h1 : 0 ≤ s ∧ s ≤ 15
        · simp only [decide_eq_true h1, if_true]
          unfold spec_l11Get.f
          simp only [if_pos (show r < 0 by omega), Option.bind_some]
          exact Ev.now _
        · simp only [decide_eq_false h1, Bool.false_eq_true, if_false]
          exact Ev.now _
      · simp only [decide_eq_false h0, Bool.eq_false_iff.mpr h2, Bool.or_self, Bool.false_eq_true, if_false]
        exact Ev.now _
  · simp only [if_neg h3, if_neg (show ¬ ((0 ≤ s ∧ s ≤ 15) ∧ rootB a r = true ∧ arenaB a = true) from fun h => h3 h.2.2)]
    exact Ev.now _
end Go.Proofs.Ytjpjikhokpfhmaa.Pu

/- The copies of an arena. -/
namespace Go.Proofs.Ytjpjikhokpfhmaa.Pu
set_option linter.unusedVariables false
set_option linter.unusedSimpArgs false
open Go.RowKit Go.Proofs.Ytjpjikhokpfhmaa.PT Go.Proofs.YtjpjikhokpfhmaaW.PrintWords

theorem drop_cons {α : Type} {l : List α} {i : Nat} (z : α) (h : i < l.length) : l.drop i = l.getD i z :: l.drop (i + 1) := by
  rw [List.drop_eq_getElem_cons h, List.getD_eq_getElem?_getD, List.getElem?_eq_getElem h]; rfl
theorem sCopyArena_ev (a : List S47) (hn : a.length ≤ 1048576) (hx : ∀ x ∈ a, x.f1.length ≤ 1048576) : Ev (fun k => spec_l11Copy.f k a) a := by
  have main : ∀ (d i : Nat) (acc : List S47), i + d = a.length → acc.length = i → Ev (fun k => spec_l11Copy.l0 k (i : Int) a acc) (acc ++ a.drop i) := by
    intro d
    induction d with
    | zero => intro i acc hi hl; exact ev_some fun k => by simp only [spec_l11Copy.l0]; rw [if_neg (by omega), List.drop_eq_nil_of_le (by omega), List.append_nil]
    | succ d ih =>
      intro i acc hi hl
      have hil : i < a.length := by omega
      have hm := hx _ (getD_mem (z := z47) hil)
      have h := ih (i + 1) (acc ++ [a.getD i z47]) (by omega) (by simp; omega)
      rw [List.append_assoc, List.singleton_append, ← drop_cons z47 hil] at h
      refine Ev.step (fun k => ?_) h
      simp only [spec_l11Copy.l0]
      rw [if_pos (by omega), if_pos (by omega), rdIK_nat, Option.bind_some, if_pos (show ([] : List Int).length + (a.getD i z47).f1.length < 17592186044416 by rw [List.length_nil]; omega), if_pos (by omega), wsucc (n := a.length) hil (by omega), List.nil_append]
  have h := main a.length 0 [] (by omega) rfl
  rw [List.nil_append, List.drop_zero] at h
  exact h
theorem iCopyInts_eq {l : List Int} (h : l.length ≤ 1048576) : impl_copyInts.f l = some l := by
  unfold impl_copyInts.f
  rw [if_pos (by simp; omega), List.nil_append]
theorem app_ok {α : Type} (l : List α) {c : Nat} : l ++ [] = l := List.append_nil l
theorem iCopyArena_ev (a : List S47) (hn : a.length ≤ 1048576) (hx : ∀ x ∈ a, x.f1.length ≤ 1048576) : Ev (fun k => impl_copyArena.f k a) a := by
  have main : ∀ (d i : Nat) (acc : List S47), i + d = a.length → acc.length = i → Ev (fun k => impl_copyArena.l0 k a a.length (i : Int) acc) (acc ++ a.drop i) := by
    intro d
    induction d with
    | zero => intro i acc hi hl; exact ev_some fun k => by simp only [impl_copyArena.l0]; rw [if_neg (by omega), List.drop_eq_nil_of_le (by omega), List.append_nil]
    | succ d ih =>
      intro i acc hi hl
      have hil : i < a.length := by omega
      have h := ih (i + 1) (acc ++ [a.getD i z47]) (by omega) (by simp; omega)
      rw [List.append_assoc, List.singleton_append, ← drop_cons z47 hil] at h
      refine Ev.step (fun k => ?_) h
      simp only [impl_copyArena.l0]
      rw [if_pos (by omega), if_pos (by omega), if_pos (by omega), rdIK_nat, iCopyInts_eq (hx _ (getD_mem hil)), Option.bind_some, if_pos (by omega), wsucc (n := a.length) hil (by omega)]
  have h := main a.length 0 [] (by omega) rfl
  rw [List.nil_append, List.drop_zero] at h
  exact h
end Go.Proofs.Ytjpjikhokpfhmaa.Pu
