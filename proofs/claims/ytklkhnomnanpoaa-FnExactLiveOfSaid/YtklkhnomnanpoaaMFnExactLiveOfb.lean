/- FnExactLiveOf: functions of the translation as Lean functions with what their calls come to, plain lemmas on them, and, at the end, the row. Parts of one proof, merged by a program of this session; each part's own sentence stands at its head. -/
import Derived.Shelf.Sort.Plain
import Derived.Shelf.Slices.In.SortNone2
import Derived.Sort.OwnSortedInts
import Derived.Test.YtklkhnomnanpoaaMFnExactLiveOfa
set_option linter.unusedSimpArgs false
set_option linter.unusedVariables false
namespace Go.Proofs.Ytklkhnomnanpoaa.PK
open Go.RowKit Go.Proofs.YtklkhnomnanpoaaW.PrintWords Go.Proofs.YtklkhnomnanpoaaW.PrintLast Go.Proofs.YtklkhnomnanpoaaW.PrintMore
attribute [local go_sem] max2_int min2_int max_two min_two max_three min_three max_four min_four
def laws_toStore.f (k : Nat) (l0_0 : List (S121)) (l0_1 : List (S144)) (a0_2 : Int) : Option ((List (S89)) × (List (S147)) × Int):=(laws_toVolS.f k l0_0).bind fun t204=>((laws_toArena.f k l0_1).bind fun t207=>(some (t204,t207,a0_2)))
theorem laws_toStore.mono : ∀ a0 a1 a2 k,LeO (laws_toStore.f k a0 a1 a2) (laws_toStore.f (k + 1) a0 a1 a2):=by
 intro a0 a1 a2 k;unfold laws_toStore.f
 repeat' first
   | (with_reducible exact laws_toArena.mono _ _)
   | (with_reducible exact laws_toVolS.mono _ _)
   | (with_reducible exact LeO.refl _)
   | (with_reducible exact LeO.none _)
   | (with_reducible refine LeO.ite ?_ ?_)
   | (with_reducible refine LeO.bind ?_ (fun _=>?_))
   | exact laws_toArena.mono _ _
   | exact laws_toVolS.mono _ _
   | exact LeO.none _
   | refine LeO.ite ?_ ?_
   | refine LeO.bind ?_ (fun _=>?_)
set_option maxHeartbeats 8000000 in
set_option maxRecDepth 100000 in
theorem laws_toStore.calls (k : Nat) (A0_0 : Option Addr) (c0_0 : Nat) (l0_0 : List (S121)) (A0_1 : Option Addr) (c0_1 : Nat) (l0_1 : List (S144)) (a0_2 : Int) (r1 : List (S89)) (r2 : List (S147)) (r3 : Int) (w : World) (hr0_0 : Kd.C k121 w A0_0 l0_0.length l0_0) (hc0_0 : l0_0.length ≤ c0_0) (hr0_1 : Kd.C k144 w A0_1 l0_1.length l0_1) (hc0_1 : l0_1.length ≤ c0_1) (h : laws_toStore.f k l0_0 l0_1 a0_2 = some (r1,r2,r3)) :
  Calls Try.prog 10 #[.agg #[.slice A0_0 l0_0.length c0_0,.slice A0_1 l0_1.length c0_1,.int .i64 a0_2]] w fun e w'=>∃ v0_ v1_ : Value,e = .returned (.agg #[v0_,v1_,.int .i64 r3]) ∧ Kd.R k89 89 w' w.heap.size (fun _=>True) v0_ r1 ∧ Kd.S k147 147 w' w.heap.size (fun _=>True) v1_ r2 ∧ Below w.heap.size w w':=by
 have hu27:=Try.underlying27;have hu36:=Try.underlying36;have hu25:=Try.underlying25;have hu34:=Try.underlying34;have HR0_0:=zMk hr0_0;have HC0_0:=zMk hc0_0;clear hr0_0 hc0_0;have HR0_1:=zMk hr0_1;have HC0_1:=zMk hc0_1;clear hr0_1 hc0_1;have HB:=zMk (Below.refl w.heap.size w);have H : ((laws_toVolS.f k l0_0).bind fun t204=>((laws_toArena.f k l0_1).bind fun t207=>(some (t204,t207,a0_2)))) = some (r1,r2,r3):=h;clear h;replace H:=Option.bind_eq_some_iff.mp H;obtain ⟨t204,A20,H⟩:=H;replace H : ((laws_toArena.f k l0_1).bind fun t207=>(some (t204,t207,a0_2))) = some (r1,r2,r3):=H;have A2:=zMk A20;clear A20;replace H:=Option.bind_eq_some_iff.mp H;obtain ⟨t207,A30,H⟩:=H;replace H : (some (t204,t207,a0_2)) = some (r1,r2,r3):=H;have A3:=zMk A30;clear A30;simp only [Option.some.injEq,Prod.mk.injEq] at H;obtain ⟨rfl,rfl,rfl⟩:=H
 go_enter Try.func10,Try.ntmps10
 go_wp2_with (first | ((with_reducible refine gate_dst (N:=1) rfl ?_);refine box_event ?hg (N:=1) ?hd (cs:=#[.slice A0_0 l0_0.length c0_0,.slice A0_1 l0_1.length c0_1,.int .i64 a0_2]) (t:=27) ?hr ?_;(case hd=>rfl);(case hg=>rfl);(case hr=>first | (go_simp;done) | (go_simp;rfl));intro gb201 hg w4 hbox hb;have n0_:=zMk (below_step (hs HB) hb);have n1_:=zMk (hbox);have n2_:=zMk ((by rw [hg];exact (below_size (hs HB)) : w.heap.size ≤ gb201));have n3_:=zMk ((by rw [hg];exact (below_size (hs HB)) : w.heap.size ≤ gb201));clear HB;have HB:=n0_;have BK201:=n1_;have GW201:=n2_;have GE201:=n3_;clear n0_ n1_ n2_ n3_;clear hb hbox hg) | ((with_reducible refine gate_dst (N:=2) rfl ?_);refine box_event ?hg (N:=2) ?hd (cs:=#[.slice none 0 0,.slice none 0 0,.int .i64 0]) (t:=36) ?hr ?_;(case hd=>rfl);(case hg=>rfl);(case hr=>first | (go_simp;done) | (go_simp;rfl));intro gb202 hg w5 hbox hb;have n0_:=zMk (blk_below (g:=gb201) (o:=.cells #[.slice A0_0 l0_0.length c0_0,.slice A0_1 l0_1.length c0_1,.int .i64 a0_2] 27 (0,0)) (bs BK201) hb);have n1_:=zMk (below_step (hs1 HB GE201) hb);have n2_:=zMk (hbox);have n3_:=zMk ((by rw [hg];exact (below_size (hs1 HB GE201)) : w.heap.size ≤ gb202));have n4_:=zMk ((by rw [hg];exact (below_size (hs1 HB GE201)) : w.heap.size ≤ gb202));have n5_:=zMk ((by rw [hg];exact Nat.ne_of_lt (blk_lt (g:=gb201) (o:=.cells #[.slice A0_0 l0_0.length c0_0,.slice A0_1 l0_1.length c0_1,.int .i64 a0_2] 27 (0,0)) (bs BK201)) : gb201 ≠ gb202));have n6_:=zMk ((by rw [hg];exact Nat.ne_of_gt (blk_lt (g:=gb201) (o:=.cells #[.slice A0_0 l0_0.length c0_0,.slice A0_1 l0_1.length c0_1,.int .i64 a0_2] 27 (0,0)) (bs BK201)) : gb202 ≠ gb201));clear BK201;clear HB;have BK201:=n0_;have HB:=n1_;have BK202:=n2_;have GW202:=n3_;have GE202:=n4_;have NB201_202:=n5_;have NB202_201:=n6_;clear n0_ n1_ n2_ n3_ n4_ n5_ n6_;clear hb hbox hg) | ((with_reducible refine gate_dst (N:=3) rfl ?_);refine box_event ?hg (N:=3) ?hd (cs:=#[.slice none 0 0,.slice none 0 0,.int .i64 0]) (t:=36) ?hr ?_;(case hd=>rfl);(case hg=>rfl);(case hr=>first | (go_simp;done) | (go_simp;rfl));intro gb203 hg w6 hbox hb;have n0_:=zMk (blk_below (g:=gb201) (o:=.cells #[.slice A0_0 l0_0.length c0_0,.slice A0_1 l0_1.length c0_1,.int .i64 a0_2] 27 (0,0)) (bs BK201) hb);have n1_:=zMk (blk_below (g:=gb202) (o:=.cells #[.slice none 0 0,.slice none 0 0,.int .i64 0] 36 (0,0)) (bs BK202) hb);have n2_:=zMk (below_step (hs2 HB GE201 GE202) hb);have n3_:=zMk (hbox);have n4_:=zMk ((by rw [hg];exact (below_size (hs2 HB GE201 GE202)) : w.heap.size ≤ gb203));have n5_:=zMk ((by rw [hg];exact (below_size (hs2 HB GE201 GE202)) : w.heap.size ≤ gb203));have n6_:=zMk ((by rw [hg];exact Nat.ne_of_lt (blk_lt (g:=gb201) (o:=.cells #[.slice A0_0 l0_0.length c0_0,.slice A0_1 l0_1.length c0_1,.int .i64 a0_2] 27 (0,0)) (bs BK201)) : gb201 ≠ gb203));have n7_:=zMk ((by rw [hg];exact Nat.ne_of_gt (blk_lt (g:=gb201) (o:=.cells #[.slice A0_0 l0_0.length c0_0,.slice A0_1 l0_1.length c0_1,.int .i64 a0_2] 27 (0,0)) (bs BK201)) : gb203 ≠ gb201));have n8_:=zMk ((by rw [hg];exact Nat.ne_of_lt (blk_lt (g:=gb202) (o:=.cells #[.slice none 0 0,.slice none 0 0,.int .i64 0] 36 (0,0)) (bs BK202)) : gb202 ≠ gb203));have n9_:=zMk ((by rw [hg];exact Nat.ne_of_gt (blk_lt (g:=gb202) (o:=.cells #[.slice none 0 0,.slice none 0 0,.int .i64 0] 36 (0,0)) (bs BK202)) : gb203 ≠ gb202));clear BK201;clear BK202;clear HB;have BK201:=n0_;have BK202:=n1_;have HB:=n2_;have BK203:=n3_;have GW203:=n4_;have GE203:=n5_;have NB201_203:=n6_;have NB203_201:=n7_;have NB202_203:=n8_;have NB203_202:=n9_;clear n0_ n1_ n2_ n3_ n4_ n5_ n6_ n7_ n8_ n9_;clear hb hbox hg;have hnb7:=NB201_202.out;have hnc7:=NB202_201.out;have hnb8:=NB201_203.out;have hnc8:=NB203_201.out;have hcz9_0 : w6.cell? ⟨gb201,0,none⟩ = some (.slice A0_0 l0_0.length c0_0):=(zCl BK201.out 0).trans rfl;have hcz9_1 : w6.cell? ⟨gb201,1,none⟩ = some (.slice A0_1 l0_1.length c0_1):=(zCl BK201.out 1).trans rfl;have hcz9_2 : w6.cell? ⟨gb201,2,none⟩ = some (.int .i64 a0_2):=(zCl BK201.out 2).trans rfl;have hfz9_0:=zFr BK201.out 0;have hfz9_1:=zFr BK201.out 1;have hfz9_2:=zFr BK201.out 2) | ((with_reducible refine gate_callee (f:=46) rfl ?_);refine goesL_ (some 6) rfl rfl Try.func46 (by kernel_rfl) rfl #[.slice A0_0 l0_0.length c0_0] rfl (by (try simp only [List.map_toArray,List.map_cons,List.map_nil]);first | done | rfl | (simp only [List.length_drop,List.length_take];rfl)) ?_;(with_reducible refine (laws_toVolS.calls k _ _ l0_0 t204 _ ?side1 ?side2 A2.out).mono ?_);(case side1=>repeat (first | exact (Kd.C_below HR0_0.out HB.out) | (with_reducible refine Kd.C_alloc ?_ _) | (with_reducible refine Kd.C_drewN ?_ _) | (with_reducible refine Kd.C_drew ?_)));(case side2=>exact HC0_0.out);rintro e w10 ⟨v205,rfl,ho0,hb⟩;refine ⟨_,rfl,?_⟩;have n0_:=zMk (Kd.R_lower ho0 (below_size (hs3 HB GE201 GE202 GE203)));have n1_:=zMk (blk_below (g:=gb201) (o:=.cells #[.slice A0_0 l0_0.length c0_0,.slice A0_1 l0_1.length c0_1,.int .i64 a0_2] 27 (0,0)) (bs BK201) hb);have n2_:=zMk (blk_below (g:=gb202) (o:=.cells #[.slice none 0 0,.slice none 0 0,.int .i64 0] 36 (0,0)) (bs BK202) hb);have n3_:=zMk (blk_below (g:=gb203) (o:=.cells #[.slice none 0 0,.slice none 0 0,.int .i64 0] 36 (0,0)) (bs BK203) hb);have n4_:=zMk (below_step (hs3 HB GE201 GE202 GE203) hb);clear BK201;clear BK202;clear BK203;clear HB;have HO206:=n0_;have BK201:=n1_;have BK202:=n2_;have BK203:=n3_;have HB:=n4_;clear n0_ n1_ n2_ n3_ n4_;(try clear hb);(try clear hb2);(try clear hk);(try clear hi);(try clear ho0);obtain ⟨Ao11,co11,eo11⟩:=Kd.R_slice HO206.out;subst eo11;have hnb12:=NB203_202.out;have hnc12:=NB202_203.out;have hcz13_0 : w10.cell? ⟨gb203,0,none⟩ = some (.slice none 0 0):=(zCl BK203.out 0).trans rfl;have hcz13_1 : w10.cell? ⟨gb203,1,none⟩ = some (.slice none 0 0):=(zCl BK203.out 1).trans rfl;have hcz13_2 : w10.cell? ⟨gb203,2,none⟩ = some (.int .i64 0):=(zCl BK203.out 2).trans rfl;have hfz13_0:=zFr BK203.out 0;have hfz13_1:=zFr BK203.out 1;have hfz13_2:=zFr BK203.out 2;have hcz14_0 : w10.cell? ⟨gb201,0,none⟩ = some (.slice A0_0 l0_0.length c0_0):=(zCl BK201.out 0).trans rfl;have hcz14_1 : w10.cell? ⟨gb201,1,none⟩ = some (.slice A0_1 l0_1.length c0_1):=(zCl BK201.out 1).trans rfl;have hcz14_2 : w10.cell? ⟨gb201,2,none⟩ = some (.int .i64 a0_2):=(zCl BK201.out 2).trans rfl;have hfz14_0:=zFr BK201.out 0;have hfz14_1:=zFr BK201.out 1;have hfz14_2:=zFr BK201.out 2) | ((with_reducible refine gate_callee (f:=47) rfl ?_);refine goesL_ (some 10) rfl rfl Try.func47 (by kernel_rfl) rfl #[.agg #[.slice A0_1 l0_1.length c0_1]] rfl (by (try simp only [List.map_toArray,List.map_cons,List.map_nil]);first | done | rfl | (simp only [List.length_drop,List.length_take];rfl)) ?_;(with_reducible refine (laws_toArena.calls k _ _ l0_1 t207 _ ?side1 ?side2 A3.out).mono ?_);(case side1=>exact Kd.C_below HR0_1.out (hs3 HB GE201 GE202 GE203));(case side2=>exact HC0_1.out);rintro e w15 ⟨v208,rfl,ho0,hb⟩;refine ⟨_,rfl,?_⟩;have n0_:=zMk (Kd.R_below (by (with_reducible repeat (first | apply Kd.R_alloc | apply Kd.R_drewN | apply Kd.R_drew));exact (Kd.R_mono (Kd.R_far (p:=⟨gb203,0,none⟩) (Kd.R_types HO206.out BK203.out (by decide)) (fun _ hk=>hk.2) (.slice Ao11 t204.length co11)) (fun _ h_=>h_.1))) hb);have n1_:=zMk (Kd.S_lower ho0 (below_size (hs3 HB GE201 GE202 GE203)));have n2_:=zMk (blk_below (g:=gb201) (o:=.cells #[.slice A0_0 l0_0.length c0_0,.slice A0_1 l0_1.length c0_1,.int .i64 a0_2] 27 (0,0)) (by (with_reducible repeat (first | refine blk_drewN ?_ _ | refine blk_drew ?_ | refine blk_alloc ?_ _));refine blk_far ?_ NB201_203.out _;(with_reducible repeat (first | refine blk_drewN ?_ _ | refine blk_drew ?_ | refine blk_alloc ?_ _));exact BK201.out) hb);have n3_:=zMk (blk_below (g:=gb202) (o:=.cells #[.slice none 0 0,.slice none 0 0,.int .i64 0] 36 (0,0)) (by (with_reducible repeat (first | refine blk_drewN ?_ _ | refine blk_drew ?_ | refine blk_alloc ?_ _));refine blk_far ?_ NB202_203.out _;(with_reducible repeat (first | refine blk_drewN ?_ _ | refine blk_drew ?_ | refine blk_alloc ?_ _));exact BK202.out) hb);have n4_:=zMk (blk_below (g:=gb203) (o:=.cells #[.slice Ao11 t204.length co11,.slice none 0 0,.int .i64 0] 36 (0,0)) (by (with_reducible repeat (first | refine blk_drewN ?_ _ | refine blk_drew ?_ | refine blk_alloc ?_ _));refine blk_put (cs:=#[.slice none 0 0,.slice none 0 0,.int .i64 0]) ?_ 0 _ rfl;(with_reducible repeat (first | refine blk_drewN ?_ _ | refine blk_drew ?_ | refine blk_alloc ?_ _));exact BK203.out) hb);have n5_:=zMk (below_step (hs3 HB GE201 GE202 GE203) hb);clear HO206;clear BK201;clear BK202;clear BK203;clear HB;have HO206:=n0_;have HO209:=n1_;have BK201:=n2_;have BK202:=n3_;have BK203:=n4_;have HB:=n5_;clear n0_ n1_ n2_ n3_ n4_ n5_;(try clear hb);(try clear hb2);(try clear hk);(try clear hi);(try clear ho0);obtain ⟨Ao16,co16,eo16⟩:=Kd.S_slice HO209.out;subst eo16;have hcz17_0 : w15.cell? ⟨gb203,0,none⟩ = some (.slice Ao11 t204.length co11):=(zCl BK203.out 0).trans rfl;have hcz17_1 : w15.cell? ⟨gb203,1,none⟩ = some (.slice none 0 0):=(zCl BK203.out 1).trans rfl;have hcz17_2 : w15.cell? ⟨gb203,2,none⟩ = some (.int .i64 0):=(zCl BK203.out 2).trans rfl;have hfz17_0:=zFr BK203.out 0;have hfz17_1:=zFr BK203.out 1;have hfz17_2:=zFr BK203.out 2;have hcz18_0 : w15.cell? ⟨gb201,0,none⟩ = some (.slice A0_0 l0_0.length c0_0):=(zCl BK201.out 0).trans rfl;have hcz18_1 : w15.cell? ⟨gb201,1,none⟩ = some (.slice A0_1 l0_1.length c0_1):=(zCl BK201.out 1).trans rfl;have hcz18_2 : w15.cell? ⟨gb201,2,none⟩ = some (.int .i64 a0_2):=(zCl BK201.out 2).trans rfl;have hfz18_0:=zFr BK201.out 0;have hfz18_1:=zFr BK201.out 1;have hfz18_2:=zFr BK201.out 2;have hcz19_0 : w15.cell? ⟨gb202,0,none⟩ = some (.slice none 0 0):=(zCl BK202.out 0).trans rfl;have hcz19_1 : w15.cell? ⟨gb202,1,none⟩ = some (.slice none 0 0):=(zCl BK202.out 1).trans rfl;have hcz19_2 : w15.cell? ⟨gb202,2,none⟩ = some (.int .i64 0):=(zCl BK202.out 2).trans rfl;have hfz19_0:=zFr BK202.out 0;have hfz19_1:=zFr BK202.out 1;have hfz19_2:=zFr BK202.out 2));refine bodyPost_ret (results_cell_row rfl _ _ gb202 36 #[.slice Ao11 t204.length co11,.slice Ao16 t207.length co16,.int .i64 a0_2] (0,0) _ rfl (by (with_reducible repeat (first | refine blk_drewN ?_ _ | refine blk_drew ?_ | refine blk_alloc ?_ _));refine blk_put (cs:=#[.slice Ao11 t204.length co11,.slice Ao16 t207.length co16,.int .i64 0]) ?_ 2 _ rfl;(with_reducible repeat (first | refine blk_drewN ?_ _ | refine blk_drew ?_ | refine blk_alloc ?_ _));refine blk_put (cs:=#[.slice Ao11 t204.length co11,.slice none 0 0,.int .i64 0]) ?_ 1 _ rfl;(with_reducible repeat (first | refine blk_drewN ?_ _ | refine blk_drew ?_ | refine blk_alloc ?_ _));refine blk_put (cs:=#[.slice none 0 0,.slice none 0 0,.int .i64 0]) ?_ 0 _ rfl;(with_reducible repeat (first | refine blk_drewN ?_ _ | refine blk_drew ?_ | refine blk_alloc ?_ _));refine blk_far ?_ NB202_203.out _;(with_reducible repeat (first | refine blk_drewN ?_ _ | refine blk_drew ?_ | refine blk_alloc ?_ _));refine blk_far ?_ NB202_203.out _;(with_reducible repeat (first | refine blk_drewN ?_ _ | refine blk_drew ?_ | refine blk_alloc ?_ _));exact BK202.out) Try.underlying36 rfl (by kernel_rfl)) rfl ?_;exact ⟨_,_,by first | rfl | (simp [errW_none,errW_some] <;> rfl) | (simp [*,errW_none,errW_some] <;> rfl),by (with_reducible repeat (first | apply Kd.R_alloc | apply Kd.R_drewN | apply Kd.R_drew));exact Kd.R_mono (Kd.R_far (p:=⟨gb202,2,none⟩) (Kd.R_far (p:=⟨gb202,1,none⟩) (Kd.R_far (p:=⟨gb202,0,none⟩) (Kd.R_far (p:=⟨gb203,2,none⟩) (Kd.R_far (p:=⟨gb203,1,none⟩) (Kd.R_types (Kd.R_types HO206.out BK203.out (by decide)) BK202.out (by decide)) (fun _ hk=>hk.1.2) (.slice Ao16 t207.length co16)) (fun _ hk=>hk.1.2) (.int .i64 a0_2)) (fun _ hk=>hk.2) (.slice Ao11 t204.length co11)) (fun _ hk=>hk.2) (.slice Ao16 t207.length co16)) (fun _ hk=>hk.2) (.int .i64 a0_2)) (fun _ hk=>trivial),by (with_reducible repeat (first | apply Kd.S_alloc | apply Kd.S_drewN | apply Kd.S_drew));exact Kd.S_mono (Kd.S_far (p:=⟨gb202,2,none⟩) (Kd.S_far (p:=⟨gb202,1,none⟩) (Kd.S_far (p:=⟨gb202,0,none⟩) (Kd.S_far (p:=⟨gb203,2,none⟩) (Kd.S_far (p:=⟨gb203,1,none⟩) (Kd.S_types (Kd.S_types HO209.out BK203.out (by decide)) BK202.out (by decide)) (fun _ hk=>hk.1.2) (.slice Ao16 t207.length co16)) (fun _ hk=>hk.1.2) (.int .i64 a0_2)) (fun _ hk=>hk.2) (.slice Ao11 t204.length co11)) (fun _ hk=>hk.2) (.slice Ao16 t207.length co16)) (fun _ hk=>hk.2) (.int .i64 a0_2)) (fun _ hk=>trivial),hs3 HB GE201 GE202 GE203⟩
def impl_in.f (a0 : Int) (a1 : Int) (a2 : Int) : Option (Bool):=if a0 ≥ a1 then (some (decide (a0 ≤ a2))) else (some false)
set_option maxHeartbeats 8000000 in
set_option maxRecDepth 100000 in
theorem impl_in.calls (a0 : Int) (a1 : Int) (a2 : Int) (r : Bool) (w : World) (h : impl_in.f a0 a1 a2 = some r) :
  Calls Try.prog 64 #[.int .i64 a0,.int .i64 a1,.int .i64 a2] w fun e w'=>e = .returned (.bool r) ∧ Drawn0 w w':=by
 have H : (if a0 ≥ a1 then (some (decide (a0 ≤ a2))) else (some false)) = some r:=h;clear h
 by_cases c4 : a0 ≥ a1
 ·rw [if_pos c4] at H;have c4b0 : decide (a1 ≤ a0) = true:=decide_eq_true c4;clear c4;obtain rfl:=Option.some.inj H
  go_enter Try.func64,Try.ntmps64
  go_wp2
  go_ret
  exact ⟨by first | rfl | (simp;done) | (simp [*];done),by repeat (first | exact Drawn0.refl _ | apply Drawn0.step)⟩
 rw [if_neg c4] at H;have c4b0 : decide (a1 ≤ a0) = false:=decide_eq_false c4;clear c4;obtain rfl:=Option.some.inj H
 go_enter Try.func64,Try.ntmps64
 go_wp2
 go_ret
 exact ⟨by first | rfl | (simp;done) | (simp [*];done),by repeat (first | exact Drawn0.refl _ | apply Drawn0.step)⟩
def impl_isRoot.f (l0_0 : List (S147)) (a1 : Int) : Option (Bool):=(impl_in.f a1 0 (wrap64 ((l0_0.length : Int) - 1))).bind fun t211=>(if t211 = true then (if 0 ≤ a1 then (if a1 < (l0_0.length : Int) then (some (!((rd_T147 l0_0 a1).f0))) else (none)) else (none)) else (some false))
set_option maxHeartbeats 8000000 in
set_option maxRecDepth 100000 in
theorem impl_isRoot.calls (A0_0 : Option Addr) (c0_0 : Nat) (l0_0 : List (S147)) (a1 : Int) (r : Bool) (w : World) (hr0_0 : Kd.C k147 w A0_0 l0_0.length l0_0) (hc0_0 : l0_0.length ≤ c0_0) (h : impl_isRoot.f l0_0 a1 = some r) :
  Calls Try.prog 120 #[.agg #[.slice A0_0 l0_0.length c0_0],.int .i64 a1] w fun e w'=>e = .returned (.bool r) ∧ Below w.heap.size w w':=by
 have hu34:=Try.underlying34;have HR0_0:=zMk hr0_0;have HC0_0:=zMk hc0_0;clear hr0_0 hc0_0;have HB:=zMk (Below.refl w.heap.size w);have H : ((impl_in.f a1 0 (wrap64 ((l0_0.length : Int) - 1))).bind fun t211=>(if t211 = true then (if 0 ≤ a1 then (if a1 < (l0_0.length : Int) then (some (!((rd_T147 l0_0 a1).f0))) else (none)) else (none)) else (some false))) = some r:=h;clear h;replace H:=Option.bind_eq_some_iff.mp H;obtain ⟨t211,A30,H⟩:=H;replace H : (if t211 = true then (if 0 ≤ a1 then (if a1 < (l0_0.length : Int) then (some (!((rd_T147 l0_0 a1).f0))) else (none)) else (none)) else (some false)) = some r:=H;have A3:=zMk A30;clear A30
 go_enter Try.func120,Try.ntmps120
 go_upto_region 1 with (first | ((with_reducible refine gate_dst (N:=2) rfl ?_);refine box_event ?hg (N:=2) ?hd (cs:=#[.slice A0_0 l0_0.length c0_0]) (t:=34) ?hr ?_;(case hd=>rfl);(case hg=>rfl);(case hr=>first | (go_simp;done) | (go_simp;rfl));intro gb210 hg w7 hbox hb;have n0_:=zMk (below_step (hs HB) hb);have n1_:=zMk (hbox);have n2_:=zMk ((by rw [hg];exact (below_size (hs HB)) : w.heap.size ≤ gb210));have n3_:=zMk ((by rw [hg];exact (below_size (hs HB)) : w.heap.size ≤ gb210));clear HB;have HB:=n0_;have BK210:=n1_;have GW210:=n2_;have GE210:=n3_;clear n0_ n1_ n2_ n3_;clear hb hbox hg;have hcz8_0 : w7.cell? ⟨gb210,0,none⟩ = some (.slice A0_0 l0_0.length c0_0):=(zCl BK210.out 0).trans rfl;have hfz8_0:=zFr BK210.out 0))
 (try simp only [Act.put,zS1,zS2,zS3])
 by_cases c4 : t211 = true
 ·subst c4;have H1 : (if 0 ≤ a1 then (if a1 < (l0_0.length : Int) then (some (!((rd_T147 l0_0 a1).f0))) else (none)) else (none)) = some r:=by rw [if_pos rfl] at H;exact H
  clear H;have H:=H1;clear H1
  by_cases c5 : 0 ≤ a1
  ·rw [if_pos c5] at H;have c5b0 : decide (0 ≤ a1) = true:=decide_eq_true c5;clear c5
   by_cases c6 : a1 < (l0_0.length : Int)
   ·rw [if_pos c6] at H;have c6b0 : decide (a1 < (l0_0.length : Int)) = true:=decide_eq_true c6;clear c6;obtain rfl:=Option.some.inj H;go_wp2_with (first | ((with_reducible refine gate_callee (f:=64) rfl ?_);refine goesL_ (some 10) rfl rfl Try.func64 (by kernel_rfl) rfl #[.int .i64 a1,.int .i64 0,.int .i64 (wrap64 ((l0_0.length : Int) - 1))] rfl (by (try simp only [List.map_toArray,List.map_cons,List.map_nil]);first | done | rfl | (simp only [List.length_drop,List.length_take];rfl)) ?_;(with_reducible refine (impl_in.calls a1 0 (wrap64 ((l0_0.length : Int) - 1)) true _ A3.out).mono ?_);rintro e w' ⟨rfl,⟨nd,rfl⟩⟩;refine ⟨_,rfl,?_⟩;have p212 : 0 ≤ (a1 : Int):=zDe (by first | (with_reducible assumption) | assumption);have q212 : a1 < (l0_0.length : Int):=zDe (by first | (with_reducible assumption) | assumption);obtain ⟨ad212,A212_1,c212_1,e212,hx212_0,hx212_1,hl212_1,hi212_1⟩:=at_T147 HR0_0.out a1 p212 q212;cases e212;replace hx212_0:=(HB.out.cell (zBl w _ hx212_0)).trans hx212_0;replace hx212_1:=(HB.out.cell (zBl w _ hx212_1)).trans hx212_1;have HR212_1:=zMk hi212_1;have HC212_1:=zMk hl212_1;clear hi212_1 hl212_1;replace p212:=eq_true p212;replace q212:=eq_true q212))
    go_ret
    exact ⟨by first | rfl | (simp [errW_none,errW_some] <;> rfl) | (simp [*,errW_none,errW_some] <;> rfl),hs1 HB GE210⟩
   rw [if_neg c6] at H;exact absurd H (by simp)
  rw [if_neg c5] at H;exact absurd H (by simp)
 replace c4:=Bool.eq_false_iff.mpr c4;subst c4;have H1 : (some false) = some r:=by rw [if_neg (show ¬ (false = true) by decide)] at H;exact H
 clear H;have H:=H1;clear H1;obtain rfl:=Option.some.inj H;go_wp2_with (first | ((with_reducible refine gate_callee (f:=64) rfl ?_);refine goesL_ (some 10) rfl rfl Try.func64 (by kernel_rfl) rfl #[.int .i64 a1,.int .i64 0,.int .i64 (wrap64 ((l0_0.length : Int) - 1))] rfl (by (try simp only [List.map_toArray,List.map_cons,List.map_nil]);first | done | rfl | (simp only [List.length_drop,List.length_take];rfl)) ?_;(with_reducible refine (impl_in.calls a1 0 (wrap64 ((l0_0.length : Int) - 1)) false _ A3.out).mono ?_);rintro e w' ⟨rfl,⟨nd,rfl⟩⟩;refine ⟨_,rfl,?_⟩))
 go_ret
 exact ⟨by first | rfl | (simp [errW_none,errW_some] <;> rfl) | (simp [*,errW_none,errW_some] <;> rfl),hs1 HB GE210⟩
mutual
def impl_ArenaOk.l0 : Nat → List (S147) → Int → Int → List (S147) → Option (Bool)
 | 0,_,_,_,_=>none
 | k + 1,x8,x9,x10,x214000=>if x10 < x9 then (if 0 ≤ x10 then (if x10 < (x8.length : Int) then (if (((rd_T147 x8 x10).f1).length : Int) = 4 then (impl_ArenaOk.l1 k x10 x8 x9 x10 ((rd_T147 x8 x10).f1) (((rd_T147 x8 x10).f1).length : Int) 0 x214000 ((rd_T147 x8 x10).f0) ((rd_T147 x8 x10).f1)) else (some false)) else (none)) else (none)) else (some true)
def impl_ArenaOk.l1 : Nat → Int → List (S147) → Int → Int → List Int → Int → Int → List (S147) → Bool → List Int → Option (Bool)
 | 0,_,_,_,_,_,_,_,_,_,_=>none
 | k + 1,x3,x8,x9,x10,x20,x21,x22,x214000,x216000,x216001=>if x22 < x21 then (if 0 ≤ x22 then (if x22 < (x20.length : Int) then (if x216000 = true then (if (rd x20 x22) < 0 then (some false) else (impl_ArenaOk.l1 k x3 x8 x9 x10 x20 x21 (wrap64 (x22 + 1)) x214000 x216000 x216001)) else (if (rd x20 x22) = (-1) then (impl_ArenaOk.l1 k x3 x8 x9 x10 x20 x21 (wrap64 (x22 + 1)) x214000 x216000 x216001) else ((impl_in.f (rd x20 x22) 0 (wrap64 (x3 - 1))).bind fun t217=>(if t217 = true then (if 0 ≤ (rd x20 x22) then (if (rd x20 x22) < (x214000.length : Int) then (if ((rd_T147 x214000 (rd x20 x22)).f0 = true) then (impl_ArenaOk.l1 k x3 x8 x9 x10 x20 x21 (wrap64 (x22 + 1)) x214000 x216000 x216001) else (some false)) else (none)) else (none)) else (some false))))) else (none)) else (none)) else (impl_ArenaOk.l0 k x8 x9 (wrap64 (x10 + 1)) x214000)
end
def impl_ArenaOk.f (k : Nat) (l0_0 : List (S147)) : Option (Bool):=impl_ArenaOk.l0 k l0_0 (l0_0.length : Int) 0 l0_0
theorem impl_ArenaOk.mono_l : ∀ k,(∀ y0 y1 y2 y3,LeO (impl_ArenaOk.l0 k y0 y1 y2 y3) (impl_ArenaOk.l0 (k + 1) y0 y1 y2 y3)) ∧ (∀ y0 y1 y2 y3 y4 y5 y6 y7 y8 y9,LeO (impl_ArenaOk.l1 k y0 y1 y2 y3 y4 y5 y6 y7 y8 y9) (impl_ArenaOk.l1 (k + 1) y0 y1 y2 y3 y4 y5 y6 y7 y8 y9))
 | 0=>⟨fun _ _ _ _ r h=>by simp [impl_ArenaOk.l0] at h,fun _ _ _ _ _ _ _ _ _ _ r h=>by simp [impl_ArenaOk.l1] at h⟩
 | k + 1=>by
  obtain ⟨ih0,ih1⟩:=impl_ArenaOk.mono_l k;refine ⟨?_,?_⟩
  ·intro y0 y1 y2 y3;unfold impl_ArenaOk.l0
   repeat' first
   | (with_reducible exact ih0 _ _ _ _)
   | (with_reducible exact ih1 _ _ _ _ _ _ _ _ _ _)
   | (with_reducible exact LeO.refl _)
   | (with_reducible exact LeO.none _)
   | (with_reducible refine LeO.ite ?_ ?_)
   | (with_reducible refine LeO.bind ?_ (fun _=>?_))
   | exact ih0 _ _ _ _
   | exact ih1 _ _ _ _ _ _ _ _ _ _
   | exact LeO.none _
   | refine LeO.ite ?_ ?_
   | refine LeO.bind ?_ (fun _=>?_)
  intro y0 y1 y2 y3 y4 y5 y6 y7 y8 y9;unfold impl_ArenaOk.l1
  repeat' first
  | (with_reducible exact ih0 _ _ _ _)
  | (with_reducible exact ih1 _ _ _ _ _ _ _ _ _ _)
  | (with_reducible exact LeO.refl _)
  | (with_reducible exact LeO.none _)
  | (with_reducible refine LeO.ite ?_ ?_)
  | (with_reducible refine LeO.bind ?_ (fun _=>?_))
  | exact ih0 _ _ _ _
  | exact ih1 _ _ _ _ _ _ _ _ _ _
  | exact LeO.none _
  | refine LeO.ite ?_ ?_
  | refine LeO.bind ?_ (fun _=>?_)
theorem impl_ArenaOk.mono : ∀ a0 k,LeO (impl_ArenaOk.f k a0) (impl_ArenaOk.f (k + 1) a0):=by
 intro a0 k;obtain ⟨ih0,ih1⟩:=impl_ArenaOk.mono_l k;unfold impl_ArenaOk.f
 repeat' first
   | (with_reducible exact ih0 _ _ _ _)
   | (with_reducible exact ih1 _ _ _ _ _ _ _ _ _ _)
   | (with_reducible exact LeO.refl _)
   | (with_reducible exact LeO.none _)
   | (with_reducible refine LeO.ite ?_ ?_)
   | (with_reducible refine LeO.bind ?_ (fun _=>?_))
   | exact ih0 _ _ _ _
   | exact ih1 _ _ _ _ _ _ _ _ _ _
   | exact LeO.none _
   | refine LeO.ite ?_ ?_
   | refine LeO.bind ?_ (fun _=>?_)
set_option maxHeartbeats 8000000 in
set_option maxRecDepth 100000 in
theorem impl_ArenaOk.calls (k : Nat) (A0_0 : Option Addr) (c0_0 : Nat) (l0_0 : List (S147)) (r : Bool) (w : World) (hr0_0 : Kd.C k147 w A0_0 l0_0.length l0_0) (hc0_0 : l0_0.length ≤ c0_0) (h : impl_ArenaOk.f k l0_0 = some r) :
  Calls Try.prog 121 #[.agg #[.slice A0_0 l0_0.length c0_0]] w fun e w'=>e = .returned (.bool r) ∧ Below w.heap.size w w':=by
 have hu34:=Try.underlying34;have hu147:=Try.underlying147;have HR0_0:=zMk hr0_0;have HC0_0:=zMk hc0_0;clear hr0_0 hc0_0;have HB:=zMk (Below.refl w.heap.size w);have H : (impl_ArenaOk.l0 k l0_0 (l0_0.length : Int) 0 l0_0) = some r:=h;clear h;have H':=zMk H;clear H
 go_enter Try.func121,Try.ntmps121
 go_wp2_with (first | ((with_reducible refine gate_dst (N:=1) rfl ?_);refine box_event ?hg (N:=1) ?hd (cs:=#[.slice A0_0 l0_0.length c0_0]) (t:=34) ?hr ?_;(case hd=>rfl);(case hg=>rfl);(case hr=>first | (go_simp;done) | (go_simp;rfl));intro gb213 hg w2 hbox hb;have n0_:=zMk (below_step (hs HB) hb);have n1_:=zMk (hbox);have n2_:=zMk ((by rw [hg];exact (below_size (hs HB)) : w.heap.size ≤ gb213));have n3_:=zMk ((by rw [hg];exact (below_size (hs HB)) : w.heap.size ≤ gb213));clear HB;have HB:=n0_;have BK213:=n1_;have GW213:=n2_;have GE213:=n3_;clear n0_ n1_ n2_ n3_;clear hb hbox hg;have hcz3_0 : w2.cell? ⟨gb213,0,none⟩ = some (.slice A0_0 l0_0.length c0_0):=(zCl BK213.out 0).trans rfl;have hfz3_0:=zFr BK213.out 0));go_loopg [10] k (fun kq v10 w'=>∃ (x10_1 : Int),v10 = .int .i64 x10_1 ∧ Aside0 (impl_ArenaOk.l0 kq l0_0 (l0_0.length : Int) x10_1 l0_0 = some r) ∧ Aside0 (kq ≤ k) ∧ Aside0 (w'.heap[gb213]? = some (.cells #[(.slice A0_0 l0_0.length c0_0)] 34 (0,0))) ∧ Aside0 (Below w.heap.size w w'));case atStart=>exact ⟨(0),(by first | rfl | (simp;done) | (simp [*];done)),H',⟨Nat.le_refl _⟩,⟨bs BK213⟩,⟨hs1 HB GE213⟩⟩
 case round =>
  clear H'
  try clear c1
  try clear p2
  try clear hcz3_0
  try clear hfz3_0
  obtain ⟨x10_1,rfl,HA,HK1,BK213,HB⟩:=hrel;cases gk with
  | zero=>exact absurd HA.out (by simp [impl_ArenaOk.l0])
  | succ k1 =>
   have H:=HA.out;clear HA;simp only [impl_ArenaOk.l0] at H
   by_cases c4 : x10_1 < (l0_0.length : Int)
   ·rw [if_pos c4] at H;have c4b0 : decide (x10_1 < (l0_0.length : Int)) = true:=decide_eq_true c4;clear c4
    by_cases c5 : 0 ≤ x10_1
    ·rw [if_pos c5] at H;have c5b0 : decide (0 ≤ x10_1) = true:=decide_eq_true c5;clear c5
     by_cases c6 : x10_1 < (l0_0.length : Int)
     ·rw [if_pos c6] at H;have c6b0 : decide (x10_1 < (l0_0.length : Int)) = true:=decide_eq_true c6;clear c6;have p214 : 0 ≤ (x10_1 : Int):=zDe (by first | (with_reducible assumption) | assumption);have q214 : x10_1 < (l0_0.length : Int):=zDe (by first | (with_reducible assumption) | assumption);obtain ⟨ad214,A214_1,c214_1,e214,hx214_0,hx214_1,hl214_1,hi214_1⟩:=at_T147 HR0_0.out x10_1 p214 q214;cases e214;replace hx214_0:=(HB.out.cell (zBl w _ hx214_0)).trans hx214_0;replace hx214_1:=(HB.out.cell (zBl w _ hx214_1)).trans hx214_1;have HR214_1:=zMk hi214_1;have HC214_1:=zMk hl214_1;clear hi214_1 hl214_1;replace p214:=eq_true p214;replace q214:=eq_true q214
      go_upto_if 18 with (first | ((with_reducible refine gate_dst (N:=4) rfl ?_);refine box_event ?hg (N:=4) ?hd (cs:=#[.bool false,.slice none 0 0]) (t:=147) ?hr ?_;(case hd=>rfl);(case hg=>rfl);(case hr=>first | (go_simp;done) | (go_simp;rfl));intro gb215 hg w8 hbox hb;have n0_:=zMk (blk_below (g:=gb213) (o:=.cells #[.slice (some ad214) l0_0.length c0_0] 34 (0,0)) (bs BK213) hb);have n1_:=zMk (below_step (hs1 HB GE213) hb);have n2_:=zMk (hbox);have n3_:=zMk ((by rw [hg];exact (below_size (hs1 HB GE213)) : w.heap.size ≤ gb215));have n4_:=zMk ((by rw [hg];exact (below_size (hs1 HB GE213)) : w.heap.size ≤ gb215));have n5_:=zMk ((by rw [hg];exact Nat.ne_of_lt (blk_lt (g:=gb213) (o:=.cells #[.slice (some ad214) l0_0.length c0_0] 34 (0,0)) (bs BK213)) : gb213 ≠ gb215));have n6_:=zMk ((by rw [hg];exact Nat.ne_of_gt (blk_lt (g:=gb213) (o:=.cells #[.slice (some ad214) l0_0.length c0_0] 34 (0,0)) (bs BK213)) : gb215 ≠ gb213));clear BK213;clear HB;have BK213:=n0_;have HB:=n1_;have BK215:=n2_;have GW215:=n3_;have GE215:=n4_;have NB213_215:=n5_;have NB215_213:=n6_;clear n0_ n1_ n2_ n3_ n4_ n5_ n6_;clear hb hbox hg;have hnb9:=NB215_213.out;have hnc9:=NB213_215.out;have hcz10_0 : w8.cell? ⟨gb215,0,none⟩ = some (.bool false):=(zCl BK215.out 0).trans rfl;have hcz10_1 : w8.cell? ⟨gb215,1,none⟩ = some (.slice none 0 0):=(zCl BK215.out 1).trans rfl;have hfz10_0:=zFr BK215.out 0;have hfz10_1:=zFr BK215.out 1))
      (try simp only [Act.put,zS1,zS2,zS3])
      by_cases c7 : (((rd_T147 l0_0 x10_1).f1).length : Int) = 4
      ·rw [if_pos c7] at H;have c7b0 : ((((rd_T147 l0_0 x10_1).f1).length : Int) == 4) = true:=beq_iff_eq.mpr c7;have c7b1 : ((((rd_T147 l0_0 x10_1).f1).length : Int) != 4) = false:=bne_eq_false_iff_eq.mpr c7;clear c7
       (first | rw [c7b0] | rw [c7b1] | (simp only [i64_w,i32_w];rw [c7b0]) | skip)
       have H':=zMk H;clear H
       go_wp2
       (try generalize (Value.agg #[.bool ((rd_T147 l0_0 x10_1).f0),.slice A214_1 ((rd_T147 l0_0 x10_1).f1).length c214_1]) = gd14)
       go_loopg [22] k1 (fun kq v22 w'=>∃ (x22_2 : Int),v22 = .int .i64 x22_2 ∧ Aside0 (impl_ArenaOk.l1 kq x10_1 l0_0 (l0_0.length : Int) x10_1 ((rd_T147 l0_0 x10_1).f1) (((rd_T147 l0_0 x10_1).f1).length : Int) x22_2 l0_0 ((rd_T147 l0_0 x10_1).f0) ((rd_T147 l0_0 x10_1).f1) = some r) ∧ Aside0 (kq ≤ k1) ∧ Aside0 (w'.heap[gb213]? = some (.cells #[(.slice (some ad214) l0_0.length c0_0)] 34 (0,0))) ∧ Aside0 (w'.heap[gb215]? = some (.cells #[.bool ((rd_T147 l0_0 x10_1).f0),(.slice A214_1 ((rd_T147 l0_0 x10_1).f1).length c214_1)] 147 (0,0))) ∧ Aside0 (Below w.heap.size w w'));case atStart=>exact ⟨(0),(by first | rfl | (simp;done) | (simp [*];done)),H',⟨Nat.le_refl _⟩,⟨by (with_reducible repeat (first | refine blk_drewN ?_ _ | refine blk_drew ?_ | refine blk_alloc ?_ _));refine blk_far ?_ NB213_215.out _;(with_reducible repeat (first | refine blk_drewN ?_ _ | refine blk_drew ?_ | refine blk_alloc ?_ _));refine blk_far ?_ NB213_215.out _;(with_reducible repeat (first | refine blk_drewN ?_ _ | refine blk_drew ?_ | refine blk_alloc ?_ _));exact BK213.out⟩,⟨by (with_reducible repeat (first | refine blk_drewN ?_ _ | refine blk_drew ?_ | refine blk_alloc ?_ _));refine blk_put (cs:=#[.bool ((rd_T147 l0_0 x10_1).f0),.slice none 0 0]) ?_ 1 _ rfl;(with_reducible repeat (first | refine blk_drewN ?_ _ | refine blk_drew ?_ | refine blk_alloc ?_ _));refine blk_put (cs:=#[.bool false,.slice none 0 0]) ?_ 0 _ rfl;(with_reducible repeat (first | refine blk_drewN ?_ _ | refine blk_drew ?_ | refine blk_alloc ?_ _));exact BK215.out⟩,⟨hs2 HB GE213 GE215⟩⟩
       case round =>
        clear H'
        try clear c1
        try clear c2
        try clear p2
        try clear q2
        try clear hx2
        try clear c4
        try clear c4b0
        try clear c5
        try clear c5b0
        try clear c6
        try clear c6b0
        try clear c7
        try clear c7b0
        try clear c7b1
        try clear c9
        try clear hcz10_0
        try clear hcz10_1
        try clear hcz3_0
        try clear hfz10_0
        try clear hfz10_1
        try clear hfz3_0
        try clear hx214_0
        try clear hx214_1
        try clear p2
        try clear p214
        try clear q214
        obtain ⟨x22_2,rfl,HA,HK2,BK213,BK215,HB⟩:=hrel;cases gk with
        | zero=>exact absurd HA.out (by simp [impl_ArenaOk.l1])
        | succ k2 =>
         have H:=HA.out;clear HA;simp only [impl_ArenaOk.l1] at H
         by_cases c11 : x22_2 < (((rd_T147 l0_0 x10_1).f1).length : Int)
         ·rw [if_pos c11] at H;have c11b0 : decide (x22_2 < (((rd_T147 l0_0 x10_1).f1).length : Int)) = true:=decide_eq_true c11;clear c11
          by_cases c12 : 0 ≤ x22_2
          ·rw [if_pos c12] at H;have c12b0 : decide (0 ≤ x22_2) = true:=decide_eq_true c12;clear c12
           by_cases c13 : x22_2 < (((rd_T147 l0_0 x10_1).f1).length : Int)
           ·rw [if_pos c13] at H;have c13b0 : decide (x22_2 < (((rd_T147 l0_0 x10_1).f1).length : Int)) = true:=decide_eq_true c13;clear c13
            by_cases c14 : ((rd_T147 l0_0 x10_1).f0) = true
            ·rw [if_pos c14] at H;have c14b0 : ((rd_T147 l0_0 x10_1).f0) = true:=c14;clear c14
             by_cases c15 : (rd ((rd_T147 l0_0 x10_1).f1) x22_2) < 0
             ·rw [if_pos c15] at H;have c15b0 : decide ((rd ((rd_T147 l0_0 x10_1).f1) x22_2) < 0) = true:=decide_eq_true c15;clear c15;obtain rfl:=Option.some.inj H;have p216 : 0 ≤ (x22_2 : Int):=zDe (by first | (with_reducible assumption) | assumption);have q216 : x22_2 < (((rd_T147 l0_0 x10_1).f1).length : Int):=zDe (by first | (with_reducible assumption) | assumption);obtain ⟨ad216,e216,hx216_0⟩:=Kd.at_int HR214_1.out x22_2 p216 q216;cases e216;replace hx216_0:=(HB.out.cell (zBl w _ hx216_0)).trans hx216_0;replace p216:=eq_true p216;replace q216:=eq_true q216;have hnb16:=NB215_213.out;have hnc16:=NB213_215.out;have hcz17_0 : wr.cell? ⟨gb215,0,none⟩ = some (.bool ((rd_T147 l0_0 x10_1).f0)):=(zCl BK215.out 0).trans rfl;have hcz17_1 : wr.cell? ⟨gb215,1,none⟩ = some (.slice (some ad216) ((rd_T147 l0_0 x10_1).f1).length c214_1):=(zCl BK215.out 1).trans rfl;have hfz17_0:=zFr BK215.out 0;have hfz17_1:=zFr BK215.out 1
              go_wp2
              go_ret
              exact ⟨by first | rfl | (simp [errW_none,errW_some] <;> rfl) | (simp [*,errW_none,errW_some] <;> rfl),hs2 HB GE213 GE215⟩
             rw [if_neg c15] at H;have c15b0 : decide ((rd ((rd_T147 l0_0 x10_1).f1) x22_2) < 0) = false:=decide_eq_false c15;clear c15;have H':=zMk H;clear H;have p216 : 0 ≤ (x22_2 : Int):=zDe (by first | (with_reducible assumption) | assumption);have q216 : x22_2 < (((rd_T147 l0_0 x10_1).f1).length : Int):=zDe (by first | (with_reducible assumption) | assumption);obtain ⟨ad216,e216,hx216_0⟩:=Kd.at_int HR214_1.out x22_2 p216 q216;cases e216;replace hx216_0:=(HB.out.cell (zBl w _ hx216_0)).trans hx216_0;replace p216:=eq_true p216;replace q216:=eq_true q216;have hnb18:=NB215_213.out;have hnc18:=NB213_215.out;have hcz19_0 : wr.cell? ⟨gb215,0,none⟩ = some (.bool ((rd_T147 l0_0 x10_1).f0)):=(zCl BK215.out 0).trans rfl;have hcz19_1 : wr.cell? ⟨gb215,1,none⟩ = some (.slice (some ad216) ((rd_T147 l0_0 x10_1).f1).length c214_1):=(zCl BK215.out 1).trans rfl;have hfz19_0:=zFr BK215.out 0;have hfz19_1:=zFr BK215.out 1
             go_wp2
             go_roundg k2;case measure=>have:=HK1.out;have:=HK2.out;omega
             case rel=>exact ⟨(wrap64 (x22_2 + 1)),(by first | rfl | (simp;done) | (simp [*];done)),H',⟨by have:=HK1.out;have:=HK2.out;omega⟩,⟨bs BK213⟩,⟨bs BK215⟩,⟨hs2 HB GE213 GE215⟩⟩
            rw [if_neg c14] at H;have c14b0 : ((rd_T147 l0_0 x10_1).f0) = false:=by simpa using c14
            clear c14
            by_cases c20 : (rd ((rd_T147 l0_0 x10_1).f1) x22_2) = (-1)
            ·rw [if_pos c20] at H;have c20b0 : ((rd ((rd_T147 l0_0 x10_1).f1) x22_2) == (-1)) = true:=beq_iff_eq.mpr c20;have c20b1 : ((rd ((rd_T147 l0_0 x10_1).f1) x22_2) != (-1)) = false:=bne_eq_false_iff_eq.mpr c20;clear c20;have H':=zMk H;clear H;have p216 : 0 ≤ (x22_2 : Int):=zDe (by first | (with_reducible assumption) | assumption);have q216 : x22_2 < (((rd_T147 l0_0 x10_1).f1).length : Int):=zDe (by first | (with_reducible assumption) | assumption);obtain ⟨ad216,e216,hx216_0⟩:=Kd.at_int HR214_1.out x22_2 p216 q216;cases e216;replace hx216_0:=(HB.out.cell (zBl w _ hx216_0)).trans hx216_0;replace p216:=eq_true p216;replace q216:=eq_true q216;have hnb21:=NB215_213.out;have hnc21:=NB213_215.out;have hcz22_0 : wr.cell? ⟨gb215,0,none⟩ = some (.bool ((rd_T147 l0_0 x10_1).f0)):=(zCl BK215.out 0).trans rfl;have hcz22_1 : wr.cell? ⟨gb215,1,none⟩ = some (.slice (some ad216) ((rd_T147 l0_0 x10_1).f1).length c214_1):=(zCl BK215.out 1).trans rfl;have hfz22_0:=zFr BK215.out 0;have hfz22_1:=zFr BK215.out 1
             go_wp2
             go_roundg k2;case measure=>have:=HK1.out;have:=HK2.out;omega
             case rel=>exact ⟨(wrap64 (x22_2 + 1)),(by first | rfl | (simp;done) | (simp [*];done)),H',⟨by have:=HK1.out;have:=HK2.out;omega⟩,⟨bs BK213⟩,⟨bs BK215⟩,⟨hs2 HB GE213 GE215⟩⟩
            rw [if_neg c20] at H;have c20b0 : ((rd ((rd_T147 l0_0 x10_1).f1) x22_2) == (-1)) = false:=beq_eq_false_iff_ne.mpr c20;have c20b1 : ((rd ((rd_T147 l0_0 x10_1).f1) x22_2) != (-1)) = true:=bne_iff_ne.mpr c20;replace H:=Option.bind_eq_some_iff.mp H;obtain ⟨t217,A230,H⟩:=H;replace H : (if t217 = true then (if 0 ≤ (rd ((rd_T147 l0_0 x10_1).f1) x22_2) then (if (rd ((rd_T147 l0_0 x10_1).f1) x22_2) < (l0_0.length : Int) then (if ((rd_T147 l0_0 (rd ((rd_T147 l0_0 x10_1).f1) x22_2)).f0 = true) then (impl_ArenaOk.l1 k2 x10_1 l0_0 (l0_0.length : Int) x10_1 ((rd_T147 l0_0 x10_1).f1) (((rd_T147 l0_0 x10_1).f1).length : Int) (wrap64 (x22_2 + 1)) l0_0 ((rd_T147 l0_0 x10_1).f0) ((rd_T147 l0_0 x10_1).f1)) else (some false)) else (none)) else (none)) else (some false)) = some r:=H;have A23:=zMk A230;clear A230
            by_cases c24 : t217 = true
            ·subst c24;have H1 : (if 0 ≤ (rd ((rd_T147 l0_0 x10_1).f1) x22_2) then (if (rd ((rd_T147 l0_0 x10_1).f1) x22_2) < (l0_0.length : Int) then (if ((rd_T147 l0_0 (rd ((rd_T147 l0_0 x10_1).f1) x22_2)).f0 = true) then (impl_ArenaOk.l1 k2 x10_1 l0_0 (l0_0.length : Int) x10_1 ((rd_T147 l0_0 x10_1).f1) (((rd_T147 l0_0 x10_1).f1).length : Int) (wrap64 (x22_2 + 1)) l0_0 ((rd_T147 l0_0 x10_1).f0) ((rd_T147 l0_0 x10_1).f1)) else (some false)) else (none)) else (none)) = some r:=by rw [if_pos rfl] at H;exact H
             clear H;have H:=H1;clear H1
             by_cases c25 : 0 ≤ (rd ((rd_T147 l0_0 x10_1).f1) x22_2)
             ·rw [if_pos c25] at H;have c25b0 : decide (0 ≤ (rd ((rd_T147 l0_0 x10_1).f1) x22_2)) = true:=decide_eq_true c25;clear c25
              by_cases c26 : (rd ((rd_T147 l0_0 x10_1).f1) x22_2) < (l0_0.length : Int)
              ·rw [if_pos c26] at H;have c26b0 : decide ((rd ((rd_T147 l0_0 x10_1).f1) x22_2) < (l0_0.length : Int)) = true:=decide_eq_true c26;clear c26;obtain ⟨bq27,hbq27⟩ : ∃ b_ : Bool,b_ = ((rd_T147 l0_0 (rd ((rd_T147 l0_0 x10_1).f1) x22_2)).f0):=⟨_,rfl⟩;replace H : (if (bq27 = true) then (impl_ArenaOk.l1 k2 x10_1 l0_0 (l0_0.length : Int) x10_1 ((rd_T147 l0_0 x10_1).f1) (((rd_T147 l0_0 x10_1).f1).length : Int) (wrap64 (x22_2 + 1)) l0_0 ((rd_T147 l0_0 x10_1).f0) ((rd_T147 l0_0 x10_1).f1)) else (some false)) = some r:=by rw [← hbq27] at H;exact H
               have Nbq27:=zMk hbq27;clear hbq27
               (try rw [← Nbq27.out] at A23)
               have p216 : 0 ≤ (x22_2 : Int):=zDe (by first | (with_reducible assumption) | assumption);have q216 : x22_2 < (((rd_T147 l0_0 x10_1).f1).length : Int):=zDe (by first | (with_reducible assumption) | assumption);obtain ⟨ad216,e216,hx216_0⟩:=Kd.at_int HR214_1.out x22_2 p216 q216;cases e216;replace hx216_0:=(HB.out.cell (zBl w _ hx216_0)).trans hx216_0;replace p216:=eq_true p216;replace q216:=eq_true q216;have hnb29:=NB215_213.out;have hnc29:=NB213_215.out;have hcz30_0 : wr.cell? ⟨gb215,0,none⟩ = some (.bool ((rd_T147 l0_0 x10_1).f0)):=(zCl BK215.out 0).trans rfl;have hcz30_1 : wr.cell? ⟨gb215,1,none⟩ = some (.slice (some ad216) ((rd_T147 l0_0 x10_1).f1).length c214_1):=(zCl BK215.out 1).trans rfl;have hfz30_0:=zFr BK215.out 0;have hfz30_1:=zFr BK215.out 1
               go_upto_if 56 with (first | (go_at_call 64;(with_reducible refine (impl_in.calls (rd ((rd_T147 l0_0 x10_1).f1) x22_2) 0 (wrap64 (x10_1 - 1)) true _ A23.out).mono ?_);rintro e w' ⟨rfl,⟨nd,rfl⟩⟩;have hcz31_0 : wr.cell? ⟨gb213,0,none⟩ = some (.slice (some ad214) l0_0.length c0_0):=(zCl BK213.out 0).trans rfl;have hfz31_0:=zFr BK213.out 0;have p218 : 0 ≤ ((rd ((rd_T147 l0_0 x10_1).f1) x22_2) : Int):=zDe (by first | (with_reducible assumption) | assumption);have q218 : (rd ((rd_T147 l0_0 x10_1).f1) x22_2) < (l0_0.length : Int):=zDe (by first | (with_reducible assumption) | assumption);obtain ⟨ad218,A218_1,c218_1,e218,hx218_0,hx218_1,hl218_1,hi218_1⟩:=at_T147 HR0_0.out (rd ((rd_T147 l0_0 x10_1).f1) x22_2) p218 q218;(try rw [← Nbq27.out] at hx218_0);obtain rfl : ad214 = ad218:=(by injection e218);replace hx218_0:=(HB.out.cell (zBl w _ hx218_0)).trans hx218_0;replace hx218_1:=(HB.out.cell (zBl w _ hx218_1)).trans hx218_1;have HR218_1:=zMk hi218_1;have HC218_1:=zMk hl218_1;clear hi218_1 hl218_1;replace p218:=eq_true p218;replace q218:=eq_true q218))
               (try simp only [Act.put,zS1,zS2,zS3])
               by_cases c28 : (bq27 = true)
               ·subst c28;have H1 : (impl_ArenaOk.l1 k2 x10_1 l0_0 (l0_0.length : Int) x10_1 ((rd_T147 l0_0 x10_1).f1) (((rd_T147 l0_0 x10_1).f1).length : Int) (wrap64 (x22_2 + 1)) l0_0 ((rd_T147 l0_0 x10_1).f0) ((rd_T147 l0_0 x10_1).f1)) = some r:=by rw [if_pos rfl] at H;exact H
                clear H;have H:=H1;clear H1;have H':=zMk H;clear H
                go_wp2
                go_roundg k2;case measure=>have:=HK1.out;have:=HK2.out;omega
                case rel=>exact ⟨(wrap64 (x22_2 + 1)),(by first | rfl | (simp;done) | (simp [*];done)),H',⟨by have:=HK1.out;have:=HK2.out;omega⟩,⟨bs BK213⟩,⟨bs BK215⟩,⟨hs2 HB GE213 GE215⟩⟩
               replace c28:=Bool.eq_false_iff.mpr c28;subst c28;have H1 : (some false) = some r:=by rw [if_neg (show ¬ (false = true) by decide)] at H;exact H
               clear H;have H:=H1;clear H1;obtain rfl:=Option.some.inj H
               go_wp2
               go_ret
               exact ⟨by first | rfl | (simp [errW_none,errW_some] <;> rfl) | (simp [*,errW_none,errW_some] <;> rfl),hs2 HB GE213 GE215⟩
              rw [if_neg c26] at H;exact absurd H (by simp)
             rw [if_neg c25] at H;exact absurd H (by simp)
            replace c24:=Bool.eq_false_iff.mpr c24;subst c24;have H1 : (some false) = some r:=by rw [if_neg (show ¬ (false = true) by decide)] at H;exact H
            clear H;have H:=H1;clear H1;obtain rfl:=Option.some.inj H;have p216 : 0 ≤ (x22_2 : Int):=zDe (by first | (with_reducible assumption) | assumption);have q216 : x22_2 < (((rd_T147 l0_0 x10_1).f1).length : Int):=zDe (by first | (with_reducible assumption) | assumption);obtain ⟨ad216,e216,hx216_0⟩:=Kd.at_int HR214_1.out x22_2 p216 q216;cases e216;replace hx216_0:=(HB.out.cell (zBl w _ hx216_0)).trans hx216_0;replace p216:=eq_true p216;replace q216:=eq_true q216;have hnb35:=NB215_213.out;have hnc35:=NB213_215.out;have hcz36_0 : wr.cell? ⟨gb215,0,none⟩ = some (.bool ((rd_T147 l0_0 x10_1).f0)):=(zCl BK215.out 0).trans rfl;have hcz36_1 : wr.cell? ⟨gb215,1,none⟩ = some (.slice (some ad216) ((rd_T147 l0_0 x10_1).f1).length c214_1):=(zCl BK215.out 1).trans rfl;have hfz36_0:=zFr BK215.out 0;have hfz36_1:=zFr BK215.out 1;go_wp2_with (first | (go_at_call 64;(with_reducible refine (impl_in.calls (rd ((rd_T147 l0_0 x10_1).f1) x22_2) 0 (wrap64 (x10_1 - 1)) false _ A23.out).mono ?_);rintro e w' ⟨rfl,⟨nd,rfl⟩⟩))
            go_ret
            exact ⟨by first | rfl | (simp [errW_none,errW_some] <;> rfl) | (simp [*,errW_none,errW_some] <;> rfl),hs2 HB GE213 GE215⟩
           rw [if_neg c13] at H;exact absurd H (by simp)
          rw [if_neg c12] at H;exact absurd H (by simp)
         rw [if_neg c11] at H;have c11b0 : decide (x22_2 < (((rd_T147 l0_0 x10_1).f1).length : Int)) = false:=decide_eq_false c11;clear c11;have H':=zMk H;clear H
         go_wp2
         go_roundg k2;case measure=>have:=HK1.out;have:=HK2.out;omega
         case rel=>exact ⟨(wrap64 (x10_1 + 1)),(by first | rfl | (simp;done) | (simp [*];done)),H',⟨by have:=HK1.out;have:=HK2.out;omega⟩,⟨bs BK213⟩,⟨hs2 HB GE213 GE215⟩⟩
      rw [if_neg c7] at H;have c7b0 : ((((rd_T147 l0_0 x10_1).f1).length : Int) == 4) = false:=beq_eq_false_iff_ne.mpr c7;have c7b1 : ((((rd_T147 l0_0 x10_1).f1).length : Int) != 4) = true:=bne_iff_ne.mpr c7
      (first | rw [c7b0] | rw [c7b1] | (simp only [i64_w,i32_w];rw [c7b0]) | skip)
      obtain rfl:=Option.some.inj H
      go_wp2
      go_ret
      exact ⟨by first | rfl | (simp [errW_none,errW_some] <;> rfl) | (simp [*,errW_none,errW_some] <;> rfl),hs2 HB GE213 GE215⟩
     rw [if_neg c6] at H;exact absurd H (by simp)
    rw [if_neg c5] at H;exact absurd H (by simp)
   rw [if_neg c4] at H;have c4b0 : decide (x10_1 < (l0_0.length : Int)) = false:=decide_eq_false c4;clear c4;obtain rfl:=Option.some.inj H
   go_wp2
   go_ret
   exact ⟨by first | rfl | (simp [errW_none,errW_some] <;> rfl) | (simp [*,errW_none,errW_some] <;> rfl),hs1 HB GE213⟩
def impl_numberAt.f (l0_0 : List (S147)) (a1 : Int) (a2 : Int) : Option (Int):=if 0 ≤ a1 then (if a1 < (l0_0.length : Int) then (if 0 ≤ (wrap64 (Int.tdiv a2 4)) then (if (wrap64 (Int.tdiv a2 4)) < (((rd_T147 l0_0 a1).f1).length : Int) then (if (rd ((rd_T147 l0_0 a1).f1) (wrap64 (Int.tdiv a2 4))) < 0 then (some 0) else (if 0 ≤ (rd ((rd_T147 l0_0 a1).f1) (wrap64 (Int.tdiv a2 4))) then (if (rd ((rd_T147 l0_0 a1).f1) (wrap64 (Int.tdiv a2 4))) < (l0_0.length : Int) then (if 0 ≤ (Int.tmod a2 4) then (if (Int.tmod a2 4) < (((rd_T147 l0_0 (rd ((rd_T147 l0_0 a1).f1) (wrap64 (Int.tdiv a2 4)))).f1).length : Int) then (some (rd ((rd_T147 l0_0 (rd ((rd_T147 l0_0 a1).f1) (wrap64 (Int.tdiv a2 4)))).f1) (Int.tmod a2 4))) else (none)) else (none)) else (none)) else (none))) else (none)) else (none)) else (none)) else (none)
set_option maxHeartbeats 8000000 in
set_option maxRecDepth 100000 in
theorem impl_numberAt.calls (A0_0 : Option Addr) (c0_0 : Nat) (l0_0 : List (S147)) (a1 : Int) (a2 : Int) (r : Int) (w : World) (hr0_0 : Kd.C k147 w A0_0 l0_0.length l0_0) (hc0_0 : l0_0.length ≤ c0_0) (h : impl_numberAt.f l0_0 a1 a2 = some r) :
  Calls Try.prog 122 #[.agg #[.slice A0_0 l0_0.length c0_0],.int .i64 a1,.int .i64 a2] w fun e w'=>e = .returned (.int .i64 r) ∧ Below w.heap.size w w':=by
 have hu34:=Try.underlying34;have HR0_0:=zMk hr0_0;have HC0_0:=zMk hc0_0;clear hr0_0 hc0_0;have HB:=zMk (Below.refl w.heap.size w);have H : (if 0 ≤ a1 then (if a1 < (l0_0.length : Int) then (if 0 ≤ (wrap64 (Int.tdiv a2 4)) then (if (wrap64 (Int.tdiv a2 4)) < (((rd_T147 l0_0 a1).f1).length : Int) then (if (rd ((rd_T147 l0_0 a1).f1) (wrap64 (Int.tdiv a2 4))) < 0 then (some 0) else (if 0 ≤ (rd ((rd_T147 l0_0 a1).f1) (wrap64 (Int.tdiv a2 4))) then (if (rd ((rd_T147 l0_0 a1).f1) (wrap64 (Int.tdiv a2 4))) < (l0_0.length : Int) then (if 0 ≤ (Int.tmod a2 4) then (if (Int.tmod a2 4) < (((rd_T147 l0_0 (rd ((rd_T147 l0_0 a1).f1) (wrap64 (Int.tdiv a2 4)))).f1).length : Int) then (some (rd ((rd_T147 l0_0 (rd ((rd_T147 l0_0 a1).f1) (wrap64 (Int.tdiv a2 4)))).f1) (Int.tmod a2 4))) else (none)) else (none)) else (none)) else (none))) else (none)) else (none)) else (none)) else (none)) = some r:=h;clear h
 by_cases c4 : 0 ≤ a1
 ·rw [if_pos c4] at H;have c4b0 : decide (0 ≤ a1) = true:=decide_eq_true c4;clear c4
  by_cases c5 : a1 < (l0_0.length : Int)
  ·rw [if_pos c5] at H;have c5b0 : decide (a1 < (l0_0.length : Int)) = true:=decide_eq_true c5;clear c5;obtain ⟨ji6,hji6⟩ : ∃ j_ : Int,(wrap64 (Int.tdiv a2 4)) = j_:=⟨_,rfl⟩;replace H : (if 0 ≤ (ji6) then (if (ji6) < (((rd_T147 l0_0 a1).f1).length : Int) then (if (rd ((rd_T147 l0_0 a1).f1) (ji6)) < 0 then (some 0) else (if 0 ≤ (rd ((rd_T147 l0_0 a1).f1) (ji6)) then (if (rd ((rd_T147 l0_0 a1).f1) (ji6)) < (l0_0.length : Int) then (if 0 ≤ (Int.tmod a2 4) then (if (Int.tmod a2 4) < (((rd_T147 l0_0 (rd ((rd_T147 l0_0 a1).f1) (ji6))).f1).length : Int) then (some (rd ((rd_T147 l0_0 (rd ((rd_T147 l0_0 a1).f1) (ji6))).f1) (Int.tmod a2 4))) else (none)) else (none)) else (none)) else (none))) else (none)) else (none)) = some r:=by first | (rw [hji6] at H;exact H) | (simp only [hji6] at H ⊢;exact H)
   have hji6w : (IntKind.i64.wrap (Int.tdiv a2 4)) = ji6:=(i64_w _).trans hji6
   by_cases c7 : 0 ≤ (ji6)
   ·rw [if_pos c7] at H;have c7b0 : decide (0 ≤ (ji6)) = true:=decide_eq_true c7;clear c7
    by_cases c8 : (ji6) < (((rd_T147 l0_0 a1).f1).length : Int)
    ·rw [if_pos c8] at H;have c8b0 : decide ((ji6) < (((rd_T147 l0_0 a1).f1).length : Int)) = true:=decide_eq_true c8;clear c8
     by_cases c9 : (rd ((rd_T147 l0_0 a1).f1) (ji6)) < 0
     ·rw [if_pos c9] at H;have c9b0 : decide ((rd ((rd_T147 l0_0 a1).f1) (ji6)) < 0) = true:=decide_eq_true c9;clear c9;obtain rfl:=Option.some.inj H
      go_enter Try.func122,Try.ntmps122
      go_wp2_with (first | ((with_reducible refine gate_dst (N:=3) rfl ?_);refine box_event ?hg (N:=3) ?hd (cs:=#[.slice A0_0 l0_0.length c0_0]) (t:=34) ?hr ?_;(case hd=>rfl);(case hg=>rfl);(case hr=>first | (go_simp;done) | (go_simp;rfl));intro gb219 hg w10 hbox hb;have n0_:=zMk (below_step (hs HB) hb);have n1_:=zMk (hbox);have n2_:=zMk ((by rw [hg];exact (below_size (hs HB)) : w.heap.size ≤ gb219));have n3_:=zMk ((by rw [hg];exact (below_size (hs HB)) : w.heap.size ≤ gb219));clear HB;have HB:=n0_;have BK219:=n1_;have GW219:=n2_;have GE219:=n3_;clear n0_ n1_ n2_ n3_;clear hb hbox hg;have hcz11_0 : w10.cell? ⟨gb219,0,none⟩ = some (.slice A0_0 l0_0.length c0_0):=(zCl BK219.out 0).trans rfl;have hfz11_0:=zFr BK219.out 0;have p220 : 0 ≤ (a1 : Int):=zDe (by first | (with_reducible assumption) | assumption);have q220 : a1 < (l0_0.length : Int):=zDe (by first | (with_reducible assumption) | assumption);obtain ⟨ad220,A220_1,c220_1,e220,hx220_0,hx220_1,hl220_1,hi220_1⟩:=at_T147 HR0_0.out a1 p220 q220;cases e220;replace hx220_0:=(HB.out.cell (zBl w _ hx220_0)).trans hx220_0;replace hx220_1:=(HB.out.cell (zBl w _ hx220_1)).trans hx220_1;have HR220_1:=zMk hi220_1;have HC220_1:=zMk hl220_1;clear hi220_1 hl220_1;replace p220:=eq_true p220;replace q220:=eq_true q220;have p221 : 0 ≤ ((ji6) : Int):=zDe (by first | (with_reducible assumption) | assumption);have q221 : (ji6) < (((rd_T147 l0_0 a1).f1).length : Int):=zDe (by first | (with_reducible assumption) | assumption);obtain ⟨ad221,e221,hx221_0⟩:=Kd.at_int HR220_1.out (ji6) p221 q221;cases e221;replace hx221_0:=(HB.out.cell (zBl w _ hx221_0)).trans hx221_0;replace p221:=eq_true p221;replace q221:=eq_true q221))
      go_ret
      exact ⟨by first | rfl | (simp [errW_none,errW_some] <;> rfl) | (simp only [← hji6];first | rfl | (simp [errW_none,errW_some] <;> rfl)) | (simp [*,errW_none,errW_some] <;> rfl),hs1 HB GE219⟩
     rw [if_neg c9] at H;have c9b0 : decide ((rd ((rd_T147 l0_0 a1).f1) (ji6)) < 0) = false:=decide_eq_false c9;clear c9
     by_cases c12 : 0 ≤ (rd ((rd_T147 l0_0 a1).f1) (ji6))
     ·rw [if_pos c12] at H;have c12b0 : decide (0 ≤ (rd ((rd_T147 l0_0 a1).f1) (ji6))) = true:=decide_eq_true c12;clear c12
      by_cases c13 : (rd ((rd_T147 l0_0 a1).f1) (ji6)) < (l0_0.length : Int)
      ·rw [if_pos c13] at H;have c13b0 : decide ((rd ((rd_T147 l0_0 a1).f1) (ji6)) < (l0_0.length : Int)) = true:=decide_eq_true c13;clear c13;obtain ⟨ji14,hji14⟩ : ∃ j_ : Int,(Int.tmod a2 4) = j_:=⟨_,rfl⟩;replace H : (if 0 ≤ (ji14) then (if (ji14) < (((rd_T147 l0_0 (rd ((rd_T147 l0_0 a1).f1) (ji6))).f1).length : Int) then (some (rd ((rd_T147 l0_0 (rd ((rd_T147 l0_0 a1).f1) (ji6))).f1) (ji14))) else (none)) else (none)) = some r:=by first | (rw [hji14] at H;exact H) | (simp only [hji14] at H ⊢;exact H)
       by_cases c15 : 0 ≤ (ji14)
       ·rw [if_pos c15] at H;have c15b0 : decide (0 ≤ (ji14)) = true:=decide_eq_true c15;clear c15
        by_cases c16 : (ji14) < (((rd_T147 l0_0 (rd ((rd_T147 l0_0 a1).f1) (ji6))).f1).length : Int)
        ·rw [if_pos c16] at H;have c16b0 : decide ((ji14) < (((rd_T147 l0_0 (rd ((rd_T147 l0_0 a1).f1) (ji6))).f1).length : Int)) = true:=decide_eq_true c16;clear c16;obtain rfl:=Option.some.inj H
         go_enter Try.func122,Try.ntmps122
         go_wp2_with (first | ((with_reducible refine gate_dst (N:=3) rfl ?_);refine box_event ?hg (N:=3) ?hd (cs:=#[.slice A0_0 l0_0.length c0_0]) (t:=34) ?hr ?_;(case hd=>rfl);(case hg=>rfl);(case hr=>first | (go_simp;done) | (go_simp;rfl));intro gb219 hg w17 hbox hb;have n0_:=zMk (below_step (hs HB) hb);have n1_:=zMk (hbox);have n2_:=zMk ((by rw [hg];exact (below_size (hs HB)) : w.heap.size ≤ gb219));have n3_:=zMk ((by rw [hg];exact (below_size (hs HB)) : w.heap.size ≤ gb219));clear HB;have HB:=n0_;have BK219:=n1_;have GW219:=n2_;have GE219:=n3_;clear n0_ n1_ n2_ n3_;clear hb hbox hg;have hcz18_0 : w17.cell? ⟨gb219,0,none⟩ = some (.slice A0_0 l0_0.length c0_0):=(zCl BK219.out 0).trans rfl;have hfz18_0:=zFr BK219.out 0;have p220 : 0 ≤ (a1 : Int):=zDe (by first | (with_reducible assumption) | assumption);have q220 : a1 < (l0_0.length : Int):=zDe (by first | (with_reducible assumption) | assumption);obtain ⟨ad220,A220_1,c220_1,e220,hx220_0,hx220_1,hl220_1,hi220_1⟩:=at_T147 HR0_0.out a1 p220 q220;cases e220;replace hx220_0:=(HB.out.cell (zBl w _ hx220_0)).trans hx220_0;replace hx220_1:=(HB.out.cell (zBl w _ hx220_1)).trans hx220_1;have HR220_1:=zMk hi220_1;have HC220_1:=zMk hl220_1;clear hi220_1 hl220_1;replace p220:=eq_true p220;replace q220:=eq_true q220;have p221 : 0 ≤ ((ji6) : Int):=zDe (by first | (with_reducible assumption) | assumption);have q221 : (ji6) < (((rd_T147 l0_0 a1).f1).length : Int):=zDe (by first | (with_reducible assumption) | assumption);obtain ⟨ad221,e221,hx221_0⟩:=Kd.at_int HR220_1.out (ji6) p221 q221;cases e221;replace hx221_0:=(HB.out.cell (zBl w _ hx221_0)).trans hx221_0;replace p221:=eq_true p221;replace q221:=eq_true q221;have p222 : 0 ≤ ((rd ((rd_T147 l0_0 a1).f1) (ji6)) : Int):=zDe (by first | (with_reducible assumption) | assumption);have q222 : (rd ((rd_T147 l0_0 a1).f1) (ji6)) < (l0_0.length : Int):=zDe (by first | (with_reducible assumption) | assumption);obtain ⟨ad222,A222_1,c222_1,e222,hx222_0,hx222_1,hl222_1,hi222_1⟩:=at_T147 HR0_0.out (rd ((rd_T147 l0_0 a1).f1) (ji6)) p222 q222;obtain rfl : ad220 = ad222:=(by injection e222);replace hx222_0:=(HB.out.cell (zBl w _ hx222_0)).trans hx222_0;replace hx222_1:=(HB.out.cell (zBl w _ hx222_1)).trans hx222_1;have HR222_1:=zMk hi222_1;have HC222_1:=zMk hl222_1;clear hi222_1 hl222_1;replace p222:=eq_true p222;replace q222:=eq_true q222;have p223 : 0 ≤ ((ji14) : Int):=zDe (by first | (with_reducible assumption) | assumption);have q223 : (ji14) < (((rd_T147 l0_0 (rd ((rd_T147 l0_0 a1).f1) (ji6))).f1).length : Int):=zDe (by first | (with_reducible assumption) | assumption);obtain ⟨ad223,e223,hx223_0⟩:=Kd.at_int HR222_1.out (ji14) p223 q223;cases e223;replace hx223_0:=(HB.out.cell (zBl w _ hx223_0)).trans hx223_0;replace p223:=eq_true p223;replace q223:=eq_true q223))
         go_ret
         exact ⟨by first | rfl | (simp [errW_none,errW_some] <;> rfl) | (simp only [← hji6,← hji14];first | rfl | (simp [errW_none,errW_some] <;> rfl)) | (simp [*,errW_none,errW_some] <;> rfl),hs1 HB GE219⟩
        rw [if_neg c16] at H;exact absurd H (by simp)
       rw [if_neg c15] at H;exact absurd H (by simp)
      rw [if_neg c13] at H;exact absurd H (by simp)
     rw [if_neg c12] at H;exact absurd H (by simp)
    rw [if_neg c8] at H;exact absurd H (by simp)
   rw [if_neg c7] at H;exact absurd H (by simp)
  rw [if_neg c5] at H;exact absurd H (by simp)
 rw [if_neg c4] at H;exact absurd H (by simp)
def impl_GetAt.f (k : Nat) (l0_0 : List (S147)) (a1 : Int) (a2 : Int) : Option (Int):=(impl_in.f a2 0 15).bind fun t225=>(if t225 = true then ((impl_isRoot.f l0_0 a1).bind fun t226=>(if t226 = true then ((impl_ArenaOk.f k l0_0).bind fun t227=>(if t227 = true then ((impl_numberAt.f l0_0 a1 a2).bind fun t228=>(some t228)) else (some 0))) else (some 0))) else (some 0))
theorem impl_GetAt.mono : ∀ a0 a1 a2 k,LeO (impl_GetAt.f k a0 a1 a2) (impl_GetAt.f (k + 1) a0 a1 a2):=by
 intro a0 a1 a2 k;unfold impl_GetAt.f
 repeat' first
   | (with_reducible exact impl_ArenaOk.mono _ _)
   | (with_reducible exact LeO.refl _)
   | (with_reducible exact LeO.none _)
   | (with_reducible refine LeO.ite ?_ ?_)
   | (with_reducible refine LeO.bind ?_ (fun _=>?_))
   | exact impl_ArenaOk.mono _ _
   | exact LeO.none _
   | refine LeO.ite ?_ ?_
   | refine LeO.bind ?_ (fun _=>?_)
set_option maxHeartbeats 8000000 in
set_option maxRecDepth 100000 in
theorem impl_GetAt.calls (k : Nat) (A0_0 : Option Addr) (c0_0 : Nat) (l0_0 : List (S147)) (a1 : Int) (a2 : Int) (r : Int) (w : World) (hr0_0 : Kd.C k147 w A0_0 l0_0.length l0_0) (hc0_0 : l0_0.length ≤ c0_0) (h : impl_GetAt.f k l0_0 a1 a2 = some r) :
  Calls Try.prog 103 #[.agg #[.slice A0_0 l0_0.length c0_0],.int .i64 a1,.int .i64 a2] w fun e w'=>e = .returned (.int .i64 r) ∧ Below w.heap.size w w':=by
 have hu34:=Try.underlying34;have HR0_0:=zMk hr0_0;have HC0_0:=zMk hc0_0;clear hr0_0 hc0_0;have HB:=zMk (Below.refl w.heap.size w);have H : ((impl_in.f a2 0 15).bind fun t225=>(if t225 = true then ((impl_isRoot.f l0_0 a1).bind fun t226=>(if t226 = true then ((impl_ArenaOk.f k l0_0).bind fun t227=>(if t227 = true then ((impl_numberAt.f l0_0 a1 a2).bind fun t228=>(some t228)) else (some 0))) else (some 0))) else (some 0))) = some r:=h;clear h;replace H:=Option.bind_eq_some_iff.mp H;obtain ⟨t225,A40,H⟩:=H;replace H : (if t225 = true then ((impl_isRoot.f l0_0 a1).bind fun t226=>(if t226 = true then ((impl_ArenaOk.f k l0_0).bind fun t227=>(if t227 = true then ((impl_numberAt.f l0_0 a1 a2).bind fun t228=>(some t228)) else (some 0))) else (some 0))) else (some 0)) = some r:=H;have A4:=zMk A40;clear A40
 go_enter Try.func103,Try.ntmps103
 go_upto_region 1 with (first | ((with_reducible refine gate_dst (N:=3) rfl ?_);refine box_event ?hg (N:=3) ?hd (cs:=#[.slice A0_0 l0_0.length c0_0]) (t:=34) ?hr ?_;(case hd=>rfl);(case hg=>rfl);(case hr=>first | (go_simp;done) | (go_simp;rfl));intro gb224 hg w11 hbox hb;have n0_:=zMk (below_step (hs HB) hb);have n1_:=zMk (hbox);have n2_:=zMk ((by rw [hg];exact (below_size (hs HB)) : w.heap.size ≤ gb224));have n3_:=zMk ((by rw [hg];exact (below_size (hs HB)) : w.heap.size ≤ gb224));clear HB;have HB:=n0_;have BK224:=n1_;have GW224:=n2_;have GE224:=n3_;clear n0_ n1_ n2_ n3_;clear hb hbox hg))
 (try simp only [Act.put,zS1,zS2,zS3])
 by_cases c5 : t225 = true
 ·subst c5;have H1 : ((impl_isRoot.f l0_0 a1).bind fun t226=>(if t226 = true then ((impl_ArenaOk.f k l0_0).bind fun t227=>(if t227 = true then ((impl_numberAt.f l0_0 a1 a2).bind fun t228=>(some t228)) else (some 0))) else (some 0))) = some r:=by rw [if_pos rfl] at H;exact H
  clear H;have H:=H1;clear H1;replace H:=Option.bind_eq_some_iff.mp H;obtain ⟨t226,A60,H⟩:=H;replace H : (if t226 = true then ((impl_ArenaOk.f k l0_0).bind fun t227=>(if t227 = true then ((impl_numberAt.f l0_0 a1 a2).bind fun t228=>(some t228)) else (some 0))) else (some 0)) = some r:=H;have A6:=zMk A60;clear A60
  by_cases c7 : t226 = true
  ·subst c7;have H1 : ((impl_ArenaOk.f k l0_0).bind fun t227=>(if t227 = true then ((impl_numberAt.f l0_0 a1 a2).bind fun t228=>(some t228)) else (some 0))) = some r:=by rw [if_pos rfl] at H;exact H
   clear H;have H:=H1;clear H1;replace H:=Option.bind_eq_some_iff.mp H;obtain ⟨t227,A80,H⟩:=H;replace H : (if t227 = true then ((impl_numberAt.f l0_0 a1 a2).bind fun t228=>(some t228)) else (some 0)) = some r:=H;have A8:=zMk A80;clear A80
   go_upto_if 20 with (first | ((with_reducible refine gate_callee (f:=64) rfl ?_);refine goesL_ (some 8) rfl rfl Try.func64 (by kernel_rfl) rfl #[.int .i64 a2,.int .i64 0,.int .i64 15] rfl (by (try simp only [List.map_toArray,List.map_cons,List.map_nil]);first | done | rfl | (simp only [List.length_drop,List.length_take];rfl)) ?_;(with_reducible refine (impl_in.calls a2 0 15 true _ A4.out).mono ?_);rintro e w' ⟨rfl,⟨nd,rfl⟩⟩;refine ⟨_,rfl,?_⟩;have hcz12_0 : w11.cell? ⟨gb224,0,none⟩ = some (.slice A0_0 l0_0.length c0_0):=(zCl BK224.out 0).trans rfl;have hfz12_0:=zFr BK224.out 0) | (go_at_call 120;(with_reducible refine (impl_isRoot.calls _ _ l0_0 a1 true _ ?side1 ?side2 A6.out).mono ?_);(case side1=>repeat (first | exact (Kd.C_below HR0_0.out (hs1 HB GE224)) | (with_reducible refine Kd.C_alloc ?_ _) | (with_reducible refine Kd.C_drewN ?_ _) | (with_reducible refine Kd.C_drew ?_)));(case side2=>exact HC0_0.out);rintro e w13 ⟨rfl,hb⟩;have n0_:=zMk (blk_below (g:=gb224) (o:=.cells #[.slice A0_0 l0_0.length c0_0] 34 (0,0)) (bs BK224) hb);have n1_:=zMk (below_step (hs1 HB GE224) hb);clear BK224;clear HB;have BK224:=n0_;have HB:=n1_;clear n0_ n1_;(try clear hb);(try clear hb2);(try clear hk);(try clear hi);have hcz14_0 : w13.cell? ⟨gb224,0,none⟩ = some (.slice A0_0 l0_0.length c0_0):=(zCl BK224.out 0).trans rfl;have hfz14_0:=zFr BK224.out 0) | (go_at_call 121;(with_reducible refine (impl_ArenaOk.calls k _ _ l0_0 t227 _ ?side1 ?side2 A8.out).mono ?_);(case side1=>repeat (first | exact (Kd.C_below HR0_0.out HB.out) | (with_reducible refine Kd.C_alloc ?_ _) | (with_reducible refine Kd.C_drewN ?_ _) | (with_reducible refine Kd.C_drew ?_)));(case side2=>exact HC0_0.out);rintro e w15 ⟨rfl,hb⟩;have n0_:=zMk (blk_below (g:=gb224) (o:=.cells #[.slice A0_0 l0_0.length c0_0] 34 (0,0)) (bs BK224) hb);have n1_:=zMk (below_step (hs1 HB GE224) hb);clear BK224;clear HB;have BK224:=n0_;have HB:=n1_;clear n0_ n1_;(try clear hb);(try clear hb2);(try clear hk);(try clear hi)))
   (try simp only [Act.put,zS1,zS2,zS3])
   by_cases c9 : t227 = true
   ·subst c9;have H1 : ((impl_numberAt.f l0_0 a1 a2).bind fun t228=>(some t228)) = some r:=by rw [if_pos rfl] at H;exact H
    clear H;have H:=H1;clear H1;replace H:=Option.bind_eq_some_iff.mp H;obtain ⟨t228,A100,H⟩:=H;replace H : (some t228) = some r:=H;have A10:=zMk A100;clear A100;obtain rfl:=Option.some.inj H;have hcz16_0 : w15.cell? ⟨gb224,0,none⟩ = some (.slice A0_0 l0_0.length c0_0):=(zCl BK224.out 0).trans rfl;have hfz16_0:=zFr BK224.out 0;go_wp2_with (first | ((with_reducible refine gate_callee (f:=122) rfl ?_);refine goesL_ (some 24) rfl rfl Try.func122 (by kernel_rfl) rfl #[.agg #[.slice A0_0 l0_0.length c0_0],.int .i64 a1,.int .i64 a2] rfl (by (try simp only [List.map_toArray,List.map_cons,List.map_nil]);first | done | rfl | (simp only [List.length_drop,List.length_take];rfl)) ?_;(with_reducible refine (impl_numberAt.calls _ _ l0_0 a1 a2 t228 _ ?side1 ?side2 A10.out).mono ?_);(case side1=>repeat (first | exact (Kd.C_below HR0_0.out HB.out) | (with_reducible refine Kd.C_alloc ?_ _) | (with_reducible refine Kd.C_drewN ?_ _) | (with_reducible refine Kd.C_drew ?_)));(case side2=>exact HC0_0.out);rintro e w17 ⟨rfl,hb⟩;refine ⟨_,rfl,?_⟩;have n0_:=zMk (blk_below (g:=gb224) (o:=.cells #[.slice A0_0 l0_0.length c0_0] 34 (0,0)) (bs BK224) hb);have n1_:=zMk (below_step (hs1 HB GE224) hb);clear BK224;clear HB;have BK224:=n0_;have HB:=n1_;clear n0_ n1_;(try clear hb);(try clear hb2);(try clear hk);(try clear hi)))
    go_ret
    exact ⟨by first | rfl | (simp [errW_none,errW_some] <;> rfl) | (simp [*,errW_none,errW_some] <;> rfl),hs1 HB GE224⟩
   replace c9:=Bool.eq_false_iff.mpr c9;subst c9;have H1 : (some 0) = some r:=by rw [if_neg (show ¬ (false = true) by decide)] at H;exact H
   clear H;have H:=H1;clear H1;obtain rfl:=Option.some.inj H
   go_wp2
   go_ret
   exact ⟨by first | rfl | (simp [errW_none,errW_some] <;> rfl) | (simp [*,errW_none,errW_some] <;> rfl),hs1 HB GE224⟩
  replace c7:=Bool.eq_false_iff.mpr c7;subst c7;have H1 : (some 0) = some r:=by rw [if_neg (show ¬ (false = true) by decide)] at H;exact H
  clear H;have H:=H1;clear H1;obtain rfl:=Option.some.inj H;go_wp2_with (first | ((with_reducible refine gate_callee (f:=64) rfl ?_);refine goesL_ (some 8) rfl rfl Try.func64 (by kernel_rfl) rfl #[.int .i64 a2,.int .i64 0,.int .i64 15] rfl (by (try simp only [List.map_toArray,List.map_cons,List.map_nil]);first | done | rfl | (simp only [List.length_drop,List.length_take];rfl)) ?_;(with_reducible refine (impl_in.calls a2 0 15 true _ A4.out).mono ?_);rintro e w' ⟨rfl,⟨nd,rfl⟩⟩;refine ⟨_,rfl,?_⟩;have hcz24_0 : w11.cell? ⟨gb224,0,none⟩ = some (.slice A0_0 l0_0.length c0_0):=(zCl BK224.out 0).trans rfl;have hfz24_0:=zFr BK224.out 0) | (go_at_call 120;(with_reducible refine (impl_isRoot.calls _ _ l0_0 a1 false _ ?side1 ?side2 A6.out).mono ?_);(case side1=>repeat (first | exact (Kd.C_below HR0_0.out (hs1 HB GE224)) | (with_reducible refine Kd.C_alloc ?_ _) | (with_reducible refine Kd.C_drewN ?_ _) | (with_reducible refine Kd.C_drew ?_)));(case side2=>exact HC0_0.out);rintro e w25 ⟨rfl,hb⟩;have n0_:=zMk (blk_below (g:=gb224) (o:=.cells #[.slice A0_0 l0_0.length c0_0] 34 (0,0)) (bs BK224) hb);have n1_:=zMk (below_step (hs1 HB GE224) hb);clear BK224;clear HB;have BK224:=n0_;have HB:=n1_;clear n0_ n1_;(try clear hb);(try clear hb2);(try clear hk);(try clear hi)))
  go_ret
  exact ⟨by first | rfl | (simp [errW_none,errW_some] <;> rfl) | (simp [*,errW_none,errW_some] <;> rfl),hs1 HB GE224⟩
 replace c5:=Bool.eq_false_iff.mpr c5;subst c5;have H1 : (some 0) = some r:=by rw [if_neg (show ¬ (false = true) by decide)] at H;exact H
 clear H;have H:=H1;clear H1;obtain rfl:=Option.some.inj H;go_wp2_with (first | ((with_reducible refine gate_callee (f:=64) rfl ?_);refine goesL_ (some 8) rfl rfl Try.func64 (by kernel_rfl) rfl #[.int .i64 a2,.int .i64 0,.int .i64 15] rfl (by (try simp only [List.map_toArray,List.map_cons,List.map_nil]);first | done | rfl | (simp only [List.length_drop,List.length_take];rfl)) ?_;(with_reducible refine (impl_in.calls a2 0 15 false _ A4.out).mono ?_);rintro e w' ⟨rfl,⟨nd,rfl⟩⟩;refine ⟨_,rfl,?_⟩))
 go_ret
 exact ⟨by first | rfl | (simp [errW_none,errW_some] <;> rfl) | (simp [*,errW_none,errW_some] <;> rfl),hs1 HB GE224⟩
def impl_AllAt.l0 : Nat → Int → List Int → Int → List (S147) → Option (List Int)
 | 0,_,_,_,_=>none
 | k + 1,x1,x5,x7,x230000=>if x7 < 16 then ((impl_GetAt.f k x230000 x1 x7).bind fun t230=>(if x5.length < 17592186044416 then (impl_AllAt.l0 k x1 (x5 ++ [t230]) (wrap64 (x7 + 1)) x230000) else (none))) else (some x5)
def impl_AllAt.f (k : Nat) (l0_0 : List (S147)) (a1 : Int) : Option (List Int):=impl_AllAt.l0 k a1 ([] : List Int) 0 l0_0
theorem impl_AllAt.mono_l : ∀ k,(∀ y0 y1 y2 y3,LeO (impl_AllAt.l0 k y0 y1 y2 y3) (impl_AllAt.l0 (k + 1) y0 y1 y2 y3))
 | 0=>fun _ _ _ _ r h=>by simp [impl_AllAt.l0] at h
 | k + 1=>by
  have ih0:=impl_AllAt.mono_l k;intro y0 y1 y2 y3;unfold impl_AllAt.l0
  repeat' first
  | (with_reducible exact ih0 _ _ _ _)
  | (with_reducible exact impl_GetAt.mono _ _ _ _)
  | (with_reducible exact LeO.refl _)
  | (with_reducible exact LeO.none _)
  | (with_reducible refine LeO.ite ?_ ?_)
  | (with_reducible refine LeO.bind ?_ (fun _=>?_))
  | exact ih0 _ _ _ _
  | exact impl_GetAt.mono _ _ _ _
  | exact LeO.none _
  | refine LeO.ite ?_ ?_
  | refine LeO.bind ?_ (fun _=>?_)
theorem impl_AllAt.mono : ∀ a0 a1 k,LeO (impl_AllAt.f k a0 a1) (impl_AllAt.f (k + 1) a0 a1):=by
 intro a0 a1 k;have ih0:=impl_AllAt.mono_l k;unfold impl_AllAt.f
 repeat' first
   | (with_reducible exact ih0 _ _ _ _)
   | (with_reducible exact impl_GetAt.mono _ _ _ _)
   | (with_reducible exact LeO.refl _)
   | (with_reducible exact LeO.none _)
   | (with_reducible refine LeO.ite ?_ ?_)
   | (with_reducible refine LeO.bind ?_ (fun _=>?_))
   | exact ih0 _ _ _ _
   | exact impl_GetAt.mono _ _ _ _
   | exact LeO.none _
   | refine LeO.ite ?_ ?_
   | refine LeO.bind ?_ (fun _=>?_)
set_option maxHeartbeats 8000000 in
set_option maxRecDepth 100000 in
theorem impl_AllAt.calls (k : Nat) (A0_0 : Option Addr) (c0_0 : Nat) (l0_0 : List (S147)) (a1 : Int) (r : List Int) (w : World) (hr0_0 : Kd.C k147 w A0_0 l0_0.length l0_0) (hc0_0 : l0_0.length ≤ c0_0) (h : impl_AllAt.f k l0_0 a1 = some r) :
  Calls Try.prog 80 #[.agg #[.slice A0_0 l0_0.length c0_0],.int .i64 a1] w fun e w'=>∃ v0_ : Value,e = .returned (v0_) ∧ Kd.R (Kd.int .i64) 3 w' w.heap.size (fun _=>True) v0_ r ∧ Below w.heap.size w w':=by
 have hu34:=Try.underlying34;have HR0_0:=zMk hr0_0;have HC0_0:=zMk hc0_0;clear hr0_0 hc0_0;have HB:=zMk (Below.refl w.heap.size w);have H : (impl_AllAt.l0 k a1 ([] : List Int) 0 l0_0) = some r:=h;clear h;have H':=zMk H;clear H
 go_enter Try.func80,Try.ntmps80
 go_wp2_with (first | ((with_reducible refine gate_dst (N:=2) rfl ?_);refine box_event ?hg (N:=2) ?hd (cs:=#[.slice A0_0 l0_0.length c0_0]) (t:=34) ?hr ?_;(case hd=>rfl);(case hg=>rfl);(case hr=>first | (go_simp;done) | (go_simp;rfl));intro gb229 hg w3 hbox hb;have n0_:=zMk (below_step (hs HB) hb);have n1_:=zMk (hbox);have n2_:=zMk ((by rw [hg];exact (below_size (hs HB)) : w.heap.size ≤ gb229));have n3_:=zMk ((by rw [hg];exact (below_size (hs HB)) : w.heap.size ≤ gb229));clear HB;have HB:=n0_;have BK229:=n1_;have GW229:=n2_;have GE229:=n3_;clear n0_ n1_ n2_ n3_;clear hb hbox hg));go_loopg [5,7] k (fun kq v5 v7 w'=>∃ (x5_1 : List Int) (x7_1 : Int),v7 = .int .i64 x7_1 ∧ Aside0 (impl_AllAt.l0 kq a1 x5_1 x7_1 l0_0 = some r) ∧ Aside0 (kq ≤ k) ∧ Aside0 (Kd.R (Kd.int .i64) 3 w' w.heap.size (fun _=>True) v5 x5_1) ∧ Aside0 (w'.heap[gb229]? = some (.cells #[(.slice A0_0 l0_0.length c0_0)] 34 (0,0))) ∧ Aside0 (Below w.heap.size w w'));case atStart=>exact ⟨(([] : List Int)),(0),(by first | rfl | (simp;done) | (simp [*];done)),H',⟨Nat.le_refl _⟩,⟨by first | exact Kd.R_nil _ _ _ _ _ | exact Kd.N_nil _ _ _ _ _ | exact Kd.V_nil _ _ _ _ _ | exact Kd.Q_nil _ _ _ _ _ | exact Kd.S_nil _ _ _ _ _⟩,⟨bs BK229⟩,⟨hs1 HB GE229⟩⟩
 case round =>
  clear H'
  try clear p2
  obtain ⟨x5_1,x7_1,rfl,HA,HK1,HO_5,BK229,HB⟩:=hrel;cases gk with
  | zero=>exact absurd HA.out (by simp [impl_AllAt.l0])
  | succ k1 =>
   have H:=HA.out;clear HA;simp only [impl_AllAt.l0] at H
   by_cases c4 : x7_1 < 16
   ·rw [if_pos c4] at H;have c4b0 : decide (x7_1 < 16) = true:=decide_eq_true c4;clear c4;replace H:=Option.bind_eq_some_iff.mp H;obtain ⟨t230,A50,H⟩:=H;replace H : (if x5_1.length < 17592186044416 then (impl_AllAt.l0 k1 a1 (x5_1 ++ [t230]) (wrap64 (x7_1 + 1)) l0_0) else (none)) = some r:=H;have A5:=zMk A50;clear A50
    by_cases c6 : x5_1.length < 17592186044416
    ·rw [if_pos c6] at H;have LMc6:=zMk c6;clear c6;obtain ⟨y231,hy231⟩ : ∃ y_ : List Int,y_ = (x5_1 ++ [t230]):=⟨_,rfl⟩;replace H : (impl_AllAt.l0 k1 a1 y231 (wrap64 (x7_1 + 1)) l0_0) = some r:=by first | (rw [hy231];with_reducible exact H) | (have H2_:=(Option.bind_some _ _).symm.trans H;rw [hy231];with_reducible exact H2_) | (have H2_:=(Option.bind_some _ _).symm.trans H;with_reducible exact H2_) | with_reducible exact H | (rw [hy231];exact H) | exact H
     have Ny231:=zMk hy231;clear hy231;have H':=zMk H;clear H;have hcz7_0 : wr.cell? ⟨gb229,0,none⟩ = some (.slice A0_0 l0_0.length c0_0):=(zCl BK229.out 0).trans rfl;have hfz7_0:=zFr BK229.out 0;go_wp2_with (first | ((with_reducible refine gate_callee (f:=103) rfl ?_);refine goesL_ (some 14) rfl rfl Try.func103 (by kernel_rfl) rfl #[.agg #[.slice A0_0 l0_0.length c0_0],.int .i64 a1,.int .i64 x7_1] rfl (by (try simp only [List.map_toArray,List.map_cons,List.map_nil]);first | done | rfl | (simp only [List.length_drop,List.length_take];rfl)) ?_;(with_reducible refine (impl_GetAt.calls k1 _ _ l0_0 a1 x7_1 t230 _ ?side1 ?side2 A5.out).mono ?_);(case side1=>repeat (first | exact (Kd.C_below HR0_0.out HB.out) | (with_reducible refine Kd.C_alloc ?_ _) | (with_reducible refine Kd.C_drewN ?_ _) | (with_reducible refine Kd.C_drew ?_)));(case side2=>exact HC0_0.out);rintro e w8 ⟨rfl,hb⟩;refine ⟨_,rfl,?_⟩;have n0_:=zMk (Kd.R_below (rs HO_5) hb);have n1_:=zMk (blk_below (g:=gb229) (o:=.cells #[.slice A0_0 l0_0.length c0_0] 34 (0,0)) (bs BK229) hb);have n2_:=zMk (below_step (hs1 HB GE229) hb);clear HO_5;clear BK229;clear HB;have HO_5:=n0_;have BK229:=n1_;have HB:=n2_;clear n0_ n1_ n2_;(try clear hb);(try clear hb2);(try clear hk);(try clear hi)) | ((with_reducible refine gate_builtin (b:=.append) (xs:=#[.tmp 10,.tmp 15]) rfl ?_);at_builtin;refine Kd.R_append (Kd.int .i64) (w0:=w) w.heap.size rfl (.tmp 10) (.tmp 15) 29 3 (.int .i64 0) 8 rfl Try.underlying29 info3 rfl (by decide) (by omega) u5 x5_1 t230 [.int .i64 t230] (fun _=>True) (fun _=>False) rfl rfl ?aP (fun _ hk=>hk.elim) ?aF ?aO ?aB ?aS ?aL ?_;(case aP=>exact rfl);(case aB=>exact (hs1 HB GE229));(case aF=>exact (fun _ _=>trivial));(case aO=>exact (rs HO_5));(case aS=>exact (below_size (hs1 HB GE229)));(case aL=>have:=LMc6.out;omega);intro v232 w9 ho hb hg hat;rw [← Ny231.out] at ho;have n0_:=zMk (blk_grown (g:=gb229) (o:=.cells #[.slice A0_0 l0_0.length c0_0] 34 (0,0)) (bs BK229) hg (Kd.R_ne HO_5.out BK229.out (by decide)));have n1_:=zMk (hb);have n2_:=zMk (ho);clear BK229;clear HB;clear HO_5;have BK229:=n0_;have HB:=n1_;have HO233:=n2_;clear n0_ n1_ n2_;clear ho hb hg hat));go_roundg k1;case measure=>have:=HK1.out;omega
     case rel=>exact ⟨(y231),(wrap64 (x7_1 + 1)),(by first | rfl | (simp;done) | (simp [*];done)),H',⟨by have:=HK1.out;omega⟩,⟨rs HO233⟩,⟨bs BK229⟩,⟨hs1 HB GE229⟩⟩
    rw [if_neg c6] at H;exact absurd H (by simp)
   rw [if_neg c4] at H;have c4b0 : decide (x7_1 < 16) = false:=decide_eq_false c4;clear c4;obtain rfl:=Option.some.inj H
   go_wp2
   go_ret
   exact ⟨_,by first | rfl | (simp [errW_none,errW_some] <;> rfl) | (simp [*,errW_none,errW_some] <;> rfl),rs HO_5,hs1 HB GE229⟩
mutual
def impl_chunksOf.l0 : Nat → List Int → List (S89) → Int → Int → List (S89) → List (S147) → Int → Option (List Int)
 | 0,_,_,_,_,_,_,_=>none
 | k + 1,x3,x9,x10,x11,x235000,x235001,x235002=>if x11 < x10 then (if 0 ≤ x11 then (if x11 < (x9.length : Int) then ((impl_AllAt.f k x235001 ((rd_T89 x9 x11).f1)).bind fun t237=>(impl_chunksOf.l1 k x3 x9 x10 x11 t237 (t237.length : Int) 0 x235000 x235001 x235002)) else (none)) else (none)) else (some x3)
def impl_chunksOf.l1 : Nat → List Int → List (S89) → Int → Int → List Int → Int → Int → List (S89) → List (S147) → Int → Option (List Int)
 | 0,_,_,_,_,_,_,_,_,_,_=>none
 | k + 1,x3,x9,x10,x11,x19,x20,x21,x235000,x235001,x235002=>if x21 < x20 then (if 0 ≤ x21 then (if x21 < (x19.length : Int) then (if (rd x19 x21) > 0 then (if x3.length < 17592186044416 then (impl_chunksOf.l1 k (x3 ++ [rd x19 x21]) x9 x10 x11 x19 x20 (wrap64 (x21 + 1)) x235000 x235001 x235002) else (none)) else (impl_chunksOf.l1 k x3 x9 x10 x11 x19 x20 (wrap64 (x21 + 1)) x235000 x235001 x235002)) else (none)) else (none)) else (impl_chunksOf.l0 k x3 x9 x10 (wrap64 (x11 + 1)) x235000 x235001 x235002)
end
def impl_chunksOf.f (k : Nat) (l0_0 : List (S89)) (l0_1 : List (S147)) (a0_2 : Int) : Option (List Int):=impl_chunksOf.l0 k ([] : List Int) l0_0 (l0_0.length : Int) 0 l0_0 l0_1 a0_2
theorem impl_chunksOf.mono_l : ∀ k,(∀ y0 y1 y2 y3 y4 y5 y6,LeO (impl_chunksOf.l0 k y0 y1 y2 y3 y4 y5 y6) (impl_chunksOf.l0 (k + 1) y0 y1 y2 y3 y4 y5 y6)) ∧ (∀ y0 y1 y2 y3 y4 y5 y6 y7 y8 y9,LeO (impl_chunksOf.l1 k y0 y1 y2 y3 y4 y5 y6 y7 y8 y9) (impl_chunksOf.l1 (k + 1) y0 y1 y2 y3 y4 y5 y6 y7 y8 y9))
 | 0=>⟨fun _ _ _ _ _ _ _ r h=>by simp [impl_chunksOf.l0] at h,fun _ _ _ _ _ _ _ _ _ _ r h=>by simp [impl_chunksOf.l1] at h⟩
 | k + 1=>by
  obtain ⟨ih0,ih1⟩:=impl_chunksOf.mono_l k;refine ⟨?_,?_⟩
  ·intro y0 y1 y2 y3 y4 y5 y6;unfold impl_chunksOf.l0
   repeat' first
   | (with_reducible exact ih0 _ _ _ _ _ _ _)
   | (with_reducible exact ih1 _ _ _ _ _ _ _ _ _ _)
   | (with_reducible exact impl_AllAt.mono _ _ _)
   | (with_reducible exact LeO.refl _)
   | (with_reducible exact LeO.none _)
   | (with_reducible refine LeO.ite ?_ ?_)
   | (with_reducible refine LeO.bind ?_ (fun _=>?_))
   | exact ih0 _ _ _ _ _ _ _
   | exact ih1 _ _ _ _ _ _ _ _ _ _
   | exact impl_AllAt.mono _ _ _
   | exact LeO.none _
   | refine LeO.ite ?_ ?_
   | refine LeO.bind ?_ (fun _=>?_)
  intro y0 y1 y2 y3 y4 y5 y6 y7 y8 y9;unfold impl_chunksOf.l1
  repeat' first
  | (with_reducible exact ih0 _ _ _ _ _ _ _)
  | (with_reducible exact ih1 _ _ _ _ _ _ _ _ _ _)
  | (with_reducible exact impl_AllAt.mono _ _ _)
  | (with_reducible exact LeO.refl _)
  | (with_reducible exact LeO.none _)
  | (with_reducible refine LeO.ite ?_ ?_)
  | (with_reducible refine LeO.bind ?_ (fun _=>?_))
  | exact ih0 _ _ _ _ _ _ _
  | exact ih1 _ _ _ _ _ _ _ _ _ _
  | exact impl_AllAt.mono _ _ _
  | exact LeO.none _
  | refine LeO.ite ?_ ?_
  | refine LeO.bind ?_ (fun _=>?_)
theorem impl_chunksOf.mono : ∀ a0 a1 a2 k,LeO (impl_chunksOf.f k a0 a1 a2) (impl_chunksOf.f (k + 1) a0 a1 a2):=by
 intro a0 a1 a2 k;obtain ⟨ih0,ih1⟩:=impl_chunksOf.mono_l k;unfold impl_chunksOf.f
 repeat' first
   | (with_reducible exact ih0 _ _ _ _ _ _ _)
   | (with_reducible exact ih1 _ _ _ _ _ _ _ _ _ _)
   | (with_reducible exact impl_AllAt.mono _ _ _)
   | (with_reducible exact LeO.refl _)
   | (with_reducible exact LeO.none _)
   | (with_reducible refine LeO.ite ?_ ?_)
   | (with_reducible refine LeO.bind ?_ (fun _=>?_))
   | exact ih0 _ _ _ _ _ _ _
   | exact ih1 _ _ _ _ _ _ _ _ _ _
   | exact impl_AllAt.mono _ _ _
   | exact LeO.none _
   | refine LeO.ite ?_ ?_
   | refine LeO.bind ?_ (fun _=>?_)
set_option maxHeartbeats 8000000 in
set_option maxRecDepth 100000 in
theorem impl_chunksOf.calls (k : Nat) (A0_0 : Option Addr) (c0_0 : Nat) (l0_0 : List (S89)) (A0_1 : Option Addr) (c0_1 : Nat) (l0_1 : List (S147)) (a0_2 : Int) (r : List Int) (w : World) (hr0_0 : Kd.C k89 w A0_0 l0_0.length l0_0) (hc0_0 : l0_0.length ≤ c0_0) (hr0_1 : Kd.C k147 w A0_1 l0_1.length l0_1) (hc0_1 : l0_1.length ≤ c0_1) (h : impl_chunksOf.f k l0_0 l0_1 a0_2 = some r) :
  Calls Try.prog 48 #[.agg #[.slice A0_0 l0_0.length c0_0,.slice A0_1 l0_1.length c0_1,.int .i64 a0_2]] w fun e w'=>∃ v0_ : Value,e = .returned (v0_) ∧ Kd.R (Kd.int .i64) 3 w' w.heap.size (fun _=>True) v0_ r ∧ Below w.heap.size w w':=by
 have hu36:=Try.underlying36;have hu89:=Try.underlying89;have hu34:=Try.underlying34;have HR0_0:=zMk hr0_0;have HC0_0:=zMk hc0_0;clear hr0_0 hc0_0;have HR0_1:=zMk hr0_1;have HC0_1:=zMk hc0_1;clear hr0_1 hc0_1;have HB:=zMk (Below.refl w.heap.size w);have H : (impl_chunksOf.l0 k ([] : List Int) l0_0 (l0_0.length : Int) 0 l0_0 l0_1 a0_2) = some r:=h;clear h;have H':=zMk H;clear H
 go_enter Try.func48,Try.ntmps48
 go_wp2_with (first | ((with_reducible refine gate_dst (N:=1) rfl ?_);refine box_event ?hg (N:=1) ?hd (cs:=#[.slice A0_0 l0_0.length c0_0,.slice A0_1 l0_1.length c0_1,.int .i64 a0_2]) (t:=36) ?hr ?_;(case hd=>rfl);(case hg=>rfl);(case hr=>first | (go_simp;done) | (go_simp;rfl));intro gb234 hg w2 hbox hb;have n0_:=zMk (below_step (hs HB) hb);have n1_:=zMk (hbox);have n2_:=zMk ((by rw [hg];exact (below_size (hs HB)) : w.heap.size ≤ gb234));have n3_:=zMk ((by rw [hg];exact (below_size (hs HB)) : w.heap.size ≤ gb234));clear HB;have HB:=n0_;have BK234:=n1_;have GW234:=n2_;have GE234:=n3_;clear n0_ n1_ n2_ n3_;clear hb hbox hg;have hcz3_0 : w2.cell? ⟨gb234,0,none⟩ = some (.slice A0_0 l0_0.length c0_0):=(zCl BK234.out 0).trans rfl;have hcz3_1 : w2.cell? ⟨gb234,1,none⟩ = some (.slice A0_1 l0_1.length c0_1):=(zCl BK234.out 1).trans rfl;have hcz3_2 : w2.cell? ⟨gb234,2,none⟩ = some (.int .i64 a0_2):=(zCl BK234.out 2).trans rfl;have hfz3_0:=zFr BK234.out 0;have hfz3_1:=zFr BK234.out 1;have hfz3_2:=zFr BK234.out 2));go_loopg [3,11] k (fun kq v3 v11 w'=>∃ (x3_1 : List Int) (x11_1 : Int),v11 = .int .i64 x11_1 ∧ Aside0 (impl_chunksOf.l0 kq x3_1 l0_0 (l0_0.length : Int) x11_1 l0_0 l0_1 a0_2 = some r) ∧ Aside0 (kq ≤ k) ∧ Aside0 (Kd.R (Kd.int .i64) 3 w' w.heap.size (fun _=>True) v3 x3_1) ∧ Aside0 (w'.heap[gb234]? = some (.cells #[(.slice A0_0 l0_0.length c0_0),(.slice A0_1 l0_1.length c0_1),.int .i64 a0_2] 36 (0,0))) ∧ Aside0 (Below w.heap.size w w'));case atStart=>exact ⟨(([] : List Int)),(0),(by first | rfl | (simp;done) | (simp [*];done)),H',⟨Nat.le_refl _⟩,⟨by first | exact Kd.R_nil _ _ _ _ _ | exact Kd.N_nil _ _ _ _ _ | exact Kd.V_nil _ _ _ _ _ | exact Kd.Q_nil _ _ _ _ _ | exact Kd.S_nil _ _ _ _ _⟩,⟨bs BK234⟩,⟨hs1 HB GE234⟩⟩
 case round =>
  clear H'
  try clear p2
  try clear hcz3_0
  try clear hcz3_1
  try clear hcz3_2
  try clear hfz3_0
  try clear hfz3_1
  try clear hfz3_2
  obtain ⟨x3_1,x11_1,rfl,HA,HK1,HO_3,BK234,HB⟩:=hrel;cases gk with
  | zero=>exact absurd HA.out (by simp [impl_chunksOf.l0])
  | succ k1 =>
   have H:=HA.out;clear HA;simp only [impl_chunksOf.l0] at H
   by_cases c4 : x11_1 < (l0_0.length : Int)
   ·rw [if_pos c4] at H;have c4b0 : decide (x11_1 < (l0_0.length : Int)) = true:=decide_eq_true c4;clear c4
    by_cases c5 : 0 ≤ x11_1
    ·rw [if_pos c5] at H;have c5b0 : decide (0 ≤ x11_1) = true:=decide_eq_true c5;clear c5
     by_cases c6 : x11_1 < (l0_0.length : Int)
     ·rw [if_pos c6] at H;have c6b0 : decide (x11_1 < (l0_0.length : Int)) = true:=decide_eq_true c6;clear c6;replace H:=Option.bind_eq_some_iff.mp H;obtain ⟨t237,A70,H⟩:=H;replace H : (impl_chunksOf.l1 k1 x3_1 l0_0 (l0_0.length : Int) x11_1 t237 (t237.length : Int) 0 l0_0 l0_1 a0_2) = some r:=H;have A7:=zMk A70;clear A70;have H':=zMk H;clear H;have p235 : 0 ≤ (x11_1 : Int):=zDe (by first | (with_reducible assumption) | assumption);have q235 : x11_1 < (l0_0.length : Int):=zDe (by first | (with_reducible assumption) | assumption);obtain ⟨ad235,e235,hx235_0,hx235_1⟩:=at_T89 HR0_0.out x11_1 p235 q235;cases e235;replace hx235_0:=(HB.out.cell (zBl w _ hx235_0)).trans hx235_0;replace hx235_1:=(HB.out.cell (zBl w _ hx235_1)).trans hx235_1;replace p235:=eq_true p235;replace q235:=eq_true q235;go_wp2_with (first | ((with_reducible refine gate_dst (N:=5) rfl ?_);refine box_event ?hg (N:=5) ?hd (cs:=#[.int .i64 0,.int .i64 0]) (t:=89) ?hr ?_;(case hd=>rfl);(case hg=>rfl);(case hr=>first | (go_simp;done) | (go_simp;rfl));intro gb236 hg w8 hbox hb;have n0_:=zMk (Kd.R_below (rs HO_3) hb);have n1_:=zMk (blk_below (g:=gb234) (o:=.cells #[.slice (some ad235) l0_0.length c0_0,.slice A0_1 l0_1.length c0_1,.int .i64 a0_2] 36 (0,0)) (bs BK234) hb);have n2_:=zMk (below_step (hs1 HB GE234) hb);have n3_:=zMk (hbox);have n4_:=zMk ((by rw [hg];exact (below_size (hs1 HB GE234)) : w.heap.size ≤ gb236));have n5_:=zMk ((by rw [hg];exact (below_size (hs1 HB GE234)) : w.heap.size ≤ gb236));have n6_:=zMk ((by rw [hg];exact Nat.ne_of_lt (blk_lt (g:=gb234) (o:=.cells #[.slice (some ad235) l0_0.length c0_0,.slice A0_1 l0_1.length c0_1,.int .i64 a0_2] 36 (0,0)) (bs BK234)) : gb234 ≠ gb236));have n7_:=zMk ((by rw [hg];exact Nat.ne_of_gt (blk_lt (g:=gb234) (o:=.cells #[.slice (some ad235) l0_0.length c0_0,.slice A0_1 l0_1.length c0_1,.int .i64 a0_2] 36 (0,0)) (bs BK234)) : gb236 ≠ gb234));clear HO_3;clear BK234;clear HB;have HO_3:=n0_;have BK234:=n1_;have HB:=n2_;have BK236:=n3_;have GW236:=n4_;have GE236:=n5_;have NB234_236:=n6_;have NB236_234:=n7_;clear n0_ n1_ n2_ n3_ n4_ n5_ n6_ n7_;clear hb hbox hg;have hnb9:=NB236_234.out;have hnc9:=NB234_236.out;have hcz10_0 : w8.cell? ⟨gb236,0,none⟩ = some (.int .i64 0):=(zCl BK236.out 0).trans rfl;have hcz10_1 : w8.cell? ⟨gb236,1,none⟩ = some (.int .i64 0):=(zCl BK236.out 1).trans rfl;have hfz10_0:=zFr BK236.out 0;have hfz10_1:=zFr BK236.out 1;have hcz11_0 : w8.cell? ⟨gb234,0,none⟩ = some (.slice (some ad235) l0_0.length c0_0):=(zCl BK234.out 0).trans rfl;have hcz11_1 : w8.cell? ⟨gb234,1,none⟩ = some (.slice A0_1 l0_1.length c0_1):=(zCl BK234.out 1).trans rfl;have hcz11_2 : w8.cell? ⟨gb234,2,none⟩ = some (.int .i64 a0_2):=(zCl BK234.out 2).trans rfl;have hfz11_0:=zFr BK234.out 0;have hfz11_1:=zFr BK234.out 1;have hfz11_2:=zFr BK234.out 2) | ((with_reducible refine gate_callee (f:=80) rfl ?_);refine goesL_ (some 19) rfl rfl Try.func80 (by kernel_rfl) rfl #[.agg #[.slice A0_1 l0_1.length c0_1],.int .i64 ((rd_T89 l0_0 x11_1).f1)] rfl (by (try simp only [List.map_toArray,List.map_cons,List.map_nil]);first | done | rfl | (simp only [List.length_drop,List.length_take];rfl)) ?_;(with_reducible refine (impl_AllAt.calls k1 _ _ l0_1 ((rd_T89 l0_0 x11_1).f1) t237 _ ?side1 ?side2 A7.out).mono ?_);(case side1=>exact Kd.C_below HR0_1.out (hs2 HB GE234 GE236));(case side2=>exact HC0_1.out);rintro e w12 ⟨v238,rfl,ho0,hb⟩;refine ⟨_,rfl,?_⟩;have n0_:=zMk (Kd.R_elder' (by (with_reducible repeat (first | apply Kd.R_alloc | apply Kd.R_drewN | apply Kd.R_drew));exact (Kd.R_mono (Kd.R_far (p:=⟨gb236,1,none⟩) (Kd.R_far (p:=⟨gb236,0,none⟩) (Kd.R_types HO_3.out BK236.out (by decide)) (fun _ hk=>hk.2) (.int .i64 ((rd_T89 l0_0 x11_1).f0))) (fun _ hk=>hk.2) (.int .i64 ((rd_T89 l0_0 x11_1).f1))) (fun _ h_=>h_.1))) (Kd.R_base ho0) hb);have n1_:=zMk (Kd.R_lower (Kd.R_new' ho0 (Kd.R_lt (by (with_reducible repeat (first | apply Kd.R_alloc | apply Kd.R_drewN | apply Kd.R_drew));exact (Kd.R_mono (Kd.R_far (p:=⟨gb236,1,none⟩) (Kd.R_far (p:=⟨gb236,0,none⟩) (Kd.R_types HO_3.out BK236.out (by decide)) (fun _ hk=>hk.2) (.int .i64 ((rd_T89 l0_0 x11_1).f0))) (fun _ hk=>hk.2) (.int .i64 ((rd_T89 l0_0 x11_1).f1))) (fun _ h_=>h_.1))))) (below_size (hs2 HB GE234 GE236)));have n2_:=zMk (blk_below (g:=gb234) (o:=.cells #[.slice (some ad235) l0_0.length c0_0,.slice A0_1 l0_1.length c0_1,.int .i64 a0_2] 36 (0,0)) (by (with_reducible repeat (first | refine blk_drewN ?_ _ | refine blk_drew ?_ | refine blk_alloc ?_ _));refine blk_far ?_ NB234_236.out _;(with_reducible repeat (first | refine blk_drewN ?_ _ | refine blk_drew ?_ | refine blk_alloc ?_ _));refine blk_far ?_ NB234_236.out _;(with_reducible repeat (first | refine blk_drewN ?_ _ | refine blk_drew ?_ | refine blk_alloc ?_ _));exact BK234.out) hb);have n3_:=zMk (blk_below (g:=gb236) (o:=.cells #[.int .i64 ((rd_T89 l0_0 x11_1).f0),.int .i64 ((rd_T89 l0_0 x11_1).f1)] 89 (0,0)) (by (with_reducible repeat (first | refine blk_drewN ?_ _ | refine blk_drew ?_ | refine blk_alloc ?_ _));refine blk_put (cs:=#[.int .i64 ((rd_T89 l0_0 x11_1).f0),.int .i64 0]) ?_ 1 _ rfl;(with_reducible repeat (first | refine blk_drewN ?_ _ | refine blk_drew ?_ | refine blk_alloc ?_ _));refine blk_put (cs:=#[.int .i64 0,.int .i64 0]) ?_ 0 _ rfl;(with_reducible repeat (first | refine blk_drewN ?_ _ | refine blk_drew ?_ | refine blk_alloc ?_ _));exact BK236.out) hb);have n4_:=zMk (below_step (hs2 HB GE234 GE236) hb);clear HO_3;clear BK234;clear BK236;clear HB;have HO_3:=n0_;have HO239:=n1_;have BK234:=n2_;have BK236:=n3_;have HB:=n4_;clear n0_ n1_ n2_ n3_ n4_;(try clear hb);(try clear hb2);(try clear hk);(try clear hi);(try clear ho0);obtain ⟨Ao13,co13,eo13⟩:=Kd.R_slice HO239.out;subst eo13));go_loopg [3,21] k1 (fun kq v3 v21 w'=>∃ (x3_2 : List Int) (x21_2 : Int),v21 = .int .i64 x21_2 ∧ Aside0 (impl_chunksOf.l1 kq x3_2 l0_0 (l0_0.length : Int) x11_1 t237 (t237.length : Int) x21_2 l0_0 l0_1 a0_2 = some r) ∧ Aside0 (kq ≤ k1) ∧ Aside0 (Kd.R (Kd.int .i64) 3 w' w.heap.size (fun k_=>some k_ ≠ ((.slice Ao13 t237.length co13) : Value).ownBlock) v3 x3_2) ∧ Aside0 (Kd.R (Kd.int .i64) 3 w' w.heap.size (fun k_=>some k_ ≠ (v3 : Value).ownBlock) (.slice Ao13 t237.length co13) t237) ∧ Aside0 (w'.heap[gb234]? = some (.cells #[(.slice (some ad235) l0_0.length c0_0),(.slice A0_1 l0_1.length c0_1),.int .i64 a0_2] 36 (0,0))) ∧ Aside0 (w'.heap[gb236]? = some (.cells #[.int .i64 ((rd_T89 l0_0 x11_1).f0),.int .i64 ((rd_T89 l0_0 x11_1).f1)] 89 (0,0))) ∧ Aside0 (Below w.heap.size w w'));case atStart=>exact ⟨(x3_1),(0),(by first | rfl | (simp;done) | (simp [*];done)),H',⟨Nat.le_refl _⟩,⟨by (with_reducible repeat (first | apply Kd.R_alloc | apply Kd.R_drewN | apply Kd.R_drew));exact Kd.R_mono HO_3.out (fun _ hk=>hk.2)⟩,⟨by (with_reducible repeat (first | apply Kd.R_alloc | apply Kd.R_drewN | apply Kd.R_drew));exact Kd.R_mono HO239.out (fun _ hk=>hk.2)⟩,⟨bs BK234⟩,⟨bs BK236⟩,⟨hs2 HB GE234 GE236⟩⟩
      case round =>
       clear H'
       try clear p2
       try clear q2
       try clear hx2
       try clear c4
       try clear c4b0
       try clear c5
       try clear c5b0
       try clear c6
       try clear c6b0
       try clear c8
       try clear c9
       try clear hcz10_0
       try clear hcz10_1
       try clear hcz11_0
       try clear hcz11_1
       try clear hcz11_2
       try clear hcz3_0
       try clear hcz3_1
       try clear hcz3_2
       try clear hfz10_0
       try clear hfz10_1
       try clear hfz11_0
       try clear hfz11_1
       try clear hfz11_2
       try clear hfz3_0
       try clear hfz3_1
       try clear hfz3_2
       try clear hx235_0
       try clear hx235_1
       try clear p2
       try clear p235
       try clear q235
       obtain ⟨x3_2,x21_2,rfl,HA,HK2,HO_3,HO_19,BK234,BK236,HB⟩:=hrel;cases gk with
       | zero=>exact absurd HA.out (by simp [impl_chunksOf.l1])
       | succ k2 =>
        have H:=HA.out;clear HA;simp only [impl_chunksOf.l1] at H
        by_cases c14 : x21_2 < (t237.length : Int)
        ·rw [if_pos c14] at H;have c14b0 : decide (x21_2 < (t237.length : Int)) = true:=decide_eq_true c14;clear c14
         by_cases c15 : 0 ≤ x21_2
         ·rw [if_pos c15] at H;have c15b0 : decide (0 ≤ x21_2) = true:=decide_eq_true c15;clear c15
          by_cases c16 : x21_2 < (t237.length : Int)
          ·rw [if_pos c16] at H;have c16b0 : decide (x21_2 < (t237.length : Int)) = true:=decide_eq_true c16;clear c16
           by_cases c17 : (rd t237 x21_2) > 0
           ·rw [if_pos c17] at H;have c17b0 : decide (0 < (rd t237 x21_2)) = true:=decide_eq_true c17;clear c17
            by_cases c18 : x3_2.length < 17592186044416
            ·rw [if_pos c18] at H;have LMc18:=zMk c18;clear c18;obtain ⟨y241,hy241⟩ : ∃ y_ : List Int,y_ = (x3_2 ++ [rd t237 x21_2]):=⟨_,rfl⟩;replace H : (impl_chunksOf.l1 k2 y241 l0_0 (l0_0.length : Int) x11_1 t237 (t237.length : Int) (wrap64 (x21_2 + 1)) l0_0 l0_1 a0_2) = some r:=by first | (rw [hy241];with_reducible exact H) | (have H2_:=(Option.bind_some _ _).symm.trans H;rw [hy241];with_reducible exact H2_) | (have H2_:=(Option.bind_some _ _).symm.trans H;with_reducible exact H2_) | with_reducible exact H | (rw [hy241];exact H) | exact H
             have Ny241:=zMk hy241;clear hy241;have H':=zMk H;clear H;have p240 : 0 ≤ (x21_2 : Int):=zDe (by first | (with_reducible assumption) | assumption);have q240 : x21_2 < (t237.length : Int):=zDe (by first | (with_reducible assumption) | assumption);obtain ⟨ad240,e240,hx240_0⟩:=Kd.at_int (Kd.R_reads' HO_19.out).2.2 x21_2 p240 q240;cases e240;replace p240:=eq_true p240;replace q240:=eq_true q240;go_wp2_with (first | ((with_reducible refine gate_builtin (b:=.append) (xs:=#[.tmp 27,.tmp 29]) rfl ?_);at_builtin;refine Kd.R_append (Kd.int .i64) (w0:=w) w.heap.size rfl (.tmp 27) (.tmp 29) 29 3 (.int .i64 0) 8 rfl Try.underlying29 info3 rfl (by decide) (by omega) u3 x3_2 (rd t237 x21_2) [.int .i64 (rd t237 x21_2)] (fun k_=>some k_ ≠ (.slice (some ad240) t237.length co13 : Value).ownBlock) (fun _=>False) rfl rfl ?aP (fun _ hk=>hk.elim) ?aF ?aO ?aB ?aS ?aL ?_;(case aP=>exact rfl);(case aB=>exact (hs2 HB GE234 GE236));(case aF=>exact (fun k_ hk=>Kd.fresh' (Kd.R_lt (rs HO_19)) k_ hk));(case aO=>exact (rs HO_3));(case aS=>exact (below_size (hs2 HB GE234 GE236)));(case aL=>have:=LMc18.out;omega);intro v242 w19 ho hb hg hat;rw [← Ny241.out] at ho;have n0_:=zMk (Kd.R_after (ok:=(fun _=>True)) (by (with_reducible repeat (first | apply Kd.R_alloc | apply Kd.R_drewN | apply Kd.R_drew));exact Kd.R_mono HO_19.out (fun _ hk=>⟨trivial,hk⟩)) hg hat);have n1_:=zMk (blk_grown (g:=gb234) (o:=.cells #[.slice (some ad235) l0_0.length c0_0,.slice A0_1 l0_1.length c0_1,.int .i64 a0_2] 36 (0,0)) (bs BK234) hg (Kd.R_ne HO_3.out BK234.out (by decide)));have n2_:=zMk (blk_grown (g:=gb236) (o:=.cells #[.int .i64 ((rd_T89 l0_0 x11_1).f0),.int .i64 ((rd_T89 l0_0 x11_1).f1)] 89 (0,0)) (bs BK236) hg (Kd.R_ne HO_3.out BK236.out (by decide)));have n3_:=zMk (hb);have n4_:=zMk (ho);clear HO_19;clear BK234;clear BK236;clear HB;clear HO_3;have HO_19:=n0_;have BK234:=n1_;have BK236:=n2_;have HB:=n3_;have HO243:=n4_;clear n0_ n1_ n2_ n3_ n4_;clear ho hb hg hat));go_roundg k2;case measure=>have:=HK1.out;have:=HK2.out;omega
             case rel=>exact ⟨(y241),(wrap64 (x21_2 + 1)),(by first | rfl | (simp;done) | (simp [*];done)),H',⟨by have:=HK1.out;have:=HK2.out;omega⟩,⟨rs HO243⟩,⟨by (with_reducible repeat (first | apply Kd.R_alloc | apply Kd.R_drewN | apply Kd.R_drew));exact Kd.R_mono HO_19.out (fun _ hk=>hk.2)⟩,⟨bs BK234⟩,⟨bs BK236⟩,⟨hs2 HB GE234 GE236⟩⟩
            rw [if_neg c18] at H;exact absurd H (by simp)
           rw [if_neg c17] at H;have c17b0 : decide (0 < (rd t237 x21_2)) = false:=decide_eq_false c17;clear c17;have H':=zMk H;clear H;have p240 : 0 ≤ (x21_2 : Int):=zDe (by first | (with_reducible assumption) | assumption);have q240 : x21_2 < (t237.length : Int):=zDe (by first | (with_reducible assumption) | assumption);obtain ⟨ad240,e240,hx240_0⟩:=Kd.at_int (Kd.R_reads' HO_19.out).2.2 x21_2 p240 q240;cases e240;replace p240:=eq_true p240;replace q240:=eq_true q240
           go_wp2
           go_roundg k2;case measure=>have:=HK1.out;have:=HK2.out;omega
           case rel=>exact ⟨(x3_2),(wrap64 (x21_2 + 1)),(by first | rfl | (simp;done) | (simp [*];done)),H',⟨by have:=HK1.out;have:=HK2.out;omega⟩,⟨rs HO_3⟩,⟨rs HO_19⟩,⟨bs BK234⟩,⟨bs BK236⟩,⟨hs2 HB GE234 GE236⟩⟩
          rw [if_neg c16] at H;exact absurd H (by simp)
         rw [if_neg c15] at H;exact absurd H (by simp)
        rw [if_neg c14] at H;have c14b0 : decide (x21_2 < (t237.length : Int)) = false:=decide_eq_false c14;clear c14;have H':=zMk H;clear H
        go_wp2
        go_roundg k2;case measure=>have:=HK1.out;have:=HK2.out;omega
        case rel=>exact ⟨(x3_2),(wrap64 (x11_1 + 1)),(by first | rfl | (simp;done) | (simp [*];done)),H',⟨by have:=HK1.out;have:=HK2.out;omega⟩,⟨by (with_reducible repeat (first | apply Kd.R_alloc | apply Kd.R_drewN | apply Kd.R_drew));exact Kd.R_mono HO_3.out (fun _ hk=>trivial)⟩,⟨bs BK234⟩,⟨hs2 HB GE234 GE236⟩⟩
     rw [if_neg c6] at H;exact absurd H (by simp)
    rw [if_neg c5] at H;exact absurd H (by simp)
   rw [if_neg c4] at H;have c4b0 : decide (x11_1 < (l0_0.length : Int)) = false:=decide_eq_false c4;clear c4;obtain rfl:=Option.some.inj H
   go_wp2
   go_ret
   exact ⟨_,by first | rfl | (simp [errW_none,errW_some] <;> rfl) | (simp [*,errW_none,errW_some] <;> rfl),rs HO_3,hs1 HB GE234⟩
end Go.Proofs.Ytklkhnomnanpoaa.PK

namespace Go.Proofs.Ytklkhnomnanpoaa.PK
open Go.Shelf Go.RowKit Go.Proofs.YtklkhnomnanpoaaW.PrintWords
def lays191_ren : Go.Shelf.Ren:=⟨fun | 191=>49 | 189=>81 | 125=>105 | 257=>104 | 128=>132 | 129=>133 | 294=>123 | 295=>124 | 296=>125 | 297=>126 | 298=>127 | 299=>128 | 216=>129 | 300=>130 | 301=>131 | 328=>138 | 329=>139 | 330=>140 | 331=>141 | 332=>142 | 215=>143 | 343=>144 | n=>n,fun | 28=>29 | 0=>0 | 3=>3 | 46=>140 | 51=>172 | 53=>174 | 4=>4 | 183=>164 | 182=>163 | 131=>169 | 5=>5 | 9=>9 | 218=>179 | 222=>183 | 228=>186 | 229=>187 | n=>n,fun n=>n⟩
theorem lays191 : Lays.n191 Try.prog lays191_ren where
 mixed:=by kernel_rfl
 f125:=Try.func105.trans (congrArg some (by kernel_rfl))
 f128:=Try.func132.trans (congrArg some (by kernel_rfl))
 f129:=Try.func133.trans (congrArg some (by kernel_rfl))
 f189:=Try.func81.trans (congrArg some (by kernel_rfl))
 f191:=Try.func49.trans (congrArg some (by kernel_rfl))
 f215:=Try.func143.trans (congrArg some (by kernel_rfl))
 f216:=Try.func129.trans (congrArg some (by kernel_rfl))
 f257:=Try.func104.trans (congrArg some (by kernel_rfl))
 f294:=Try.func123.trans (congrArg some (by kernel_rfl))
 f295:=Try.func124.trans (congrArg some (by kernel_rfl))
 f296:=Try.func125.trans (congrArg some (by kernel_rfl))
 f297:=Try.func126.trans (congrArg some (by kernel_rfl))
 f298:=Try.func127.trans (congrArg some (by kernel_rfl))
 f299:=Try.func128.trans (congrArg some (by kernel_rfl))
 f300:=Try.func130.trans (congrArg some (by kernel_rfl))
 f301:=Try.func131.trans (congrArg some (by kernel_rfl))
 f328:=Try.func138.trans (congrArg some (by kernel_rfl))
 f329:=Try.func139.trans (congrArg some (by kernel_rfl))
 f330:=Try.func140.trans (congrArg some (by kernel_rfl))
 f331:=Try.func141.trans (congrArg some (by kernel_rfl))
 f332:=Try.func142.trans (congrArg some (by kernel_rfl))
 f343:=Try.func144.trans (congrArg some (by kernel_rfl))
 t0:=Try.underlying0
 a0:=Try.isAgg0
 z0:=Try.sizeOf0
 v0:=Try.zeroValue0
 t3:=Try.underlying3
 a3:=Try.isAgg3
 z3:=Try.sizeOf3
 v3:=Try.zeroValue3
 t4:=Try.underlying4
 a4:=Try.isAgg4
 z4:=Try.sizeOf4
 v4:=Try.zeroValue4
 t5:=Try.underlying5
 a5:=Try.isAgg5
 z5:=Try.sizeOf5
 v5:=Try.zeroValue5
 t9:=Try.underlying9
 a9:=Try.isAgg9
 z9:=Try.sizeOf9
 v9:=Try.zeroValue9
 t28:=Try.underlying29
 a28:=Try.isAgg29
 z28:=Try.sizeOf29
 v28:=Try.zeroValue29
 t46:=Try.underlying140
 a46:=Try.isAgg140
 z46:=Try.sizeOf140
 v46:=Try.zeroValue140
 t51:=Try.underlying172
 a51:=Try.isAgg172
 z51:=Try.sizeOf172
 v51:=Try.zeroValue172
 t53:=Try.underlying174
 a53:=Try.isAgg174
 z53:=Try.sizeOf174
 v53:=Try.zeroValue174
 t131:=Try.underlying169
 a131:=Try.isAgg169
 z131:=Try.sizeOf169
 v131:=Try.zeroValue169
 t182:=Try.underlying163
 a182:=Try.isAgg163
 z182:=Try.sizeOf163
 v182:=Try.zeroValue163
 t183:=Try.underlying164
 a183:=Try.isAgg164
 z183:=Try.sizeOf164
 v183:=Try.zeroValue164
 t218:=Try.underlying179
 a218:=Try.isAgg179
 z218:=Try.sizeOf179
 v218:=Try.zeroValue179
 t222:=Try.underlying183
 a222:=Try.isAgg183
 z222:=Try.sizeOf183
 v222:=Try.zeroValue183
 t228:=Try.underlying186
 a228:=Try.isAgg186
 z228:=Try.sizeOf186
 v228:=Try.zeroValue186
 t229:=Try.underlying187
 a229:=Try.isAgg187
 z229:=Try.sizeOf187
 v229:=Try.zeroValue187
def sort_Ints.f (_ : Nat) (l0 : List Int) : Option (List Int):=if l0.length < 4611686018427387904 then some (l0.mergeSort fun x y=>decide (x ≤ y)) else none
theorem sort_Ints.mono : ∀ a0 k,LeO (sort_Ints.f k a0) (sort_Ints.f (k + 1) a0):=fun _ _=>LeO.refl _
theorem reps_ints : ∀ {l : List Int} {cs : List Value},Reps (fun x c=>c = [Value.int .i64 x]) 1 l cs → cs = l.map (Value.int .i64):=by
 intro l cs h;obtain ⟨h1,h2⟩:=h;apply List.ext_getElem
 ·simp;omega
 intro j g1 g2;have g3 : j < l.length:=by simpa using g2
 have h3:=h2 j l[j] (List.getElem?_eq_getElem g3);rw [Nat.mul_one,List.take_one,List.head?_drop,List.getElem?_eq_getElem g1] at h3;have h4 : [cs[j]] = [Value.int .i64 l[j]]:=h3;rw [List.getElem_map];exact List.head_eq_of_cons_eq h4
theorem ints_reps (l : List Int) : Reps (fun x c=>c = [Value.int .i64 x]) 1 l (l.map (Value.int .i64)):=by
 refine ⟨by simp,fun j p hp=>?_⟩;rw [Nat.mul_one,List.take_one,List.head?_drop,List.getElem?_map,hp];rfl
theorem sort_Ints.calls (k : Nat) (P0_ : Nat → Prop) (u0_ : Value) (l0 : List Int) (r1 : List Int) (w0 w : World) (hB : Below w0.heap.size w0 w) (ho0 : Kd.R (Kd.int .i64) 3 w w0.heap.size P0_ u0_ l0) (h : sort_Ints.f k l0 = some r1) :
  Calls Try.prog 49 #[u0_] w fun e w'=>e = .returned (.tuple #[]) ∧ Kd.R (Kd.int .i64) 3 w' w0.heap.size (fun k_=>(P0_ k_ ∨ w.heap.size ≤ k_)) u0_ r1 ∧ Below w0.heap.size w0 w' ∧ Kept w w' (fun k_=>P0_ k_):=by
 unfold sort_Ints.f at h
 by_cases hlt : l0.length < 4611686018427387904
 case neg=>rw [if_neg hlt] at h;cases h
 rw [if_pos hlt] at h;obtain rfl:=Option.some.inj h;obtain ⟨hP,inner,ho,hr⟩:=ho0;obtain rfl:=reps_ints hr;rcases ho.2 with ⟨rfl,hl⟩ | ⟨g,cap,cur,rfl,hg,hb,h1,h2,h3,ht⟩
 ·obtain rfl : l0 = []:=List.length_eq_zero_iff.1 hl;refine (Any.sort_Ints_none lays191 none 0 w).mono fun e w' ⟨he,hw⟩=>?_;subst hw;exact ⟨he,by rw [show ([] : List Int).mergeSort (fun x y=>decide (x ≤ y)) = [] by simp];exact Kd.R_nil _ _ _ _ _,hB,Kept.refl _ _⟩
 have hH : Go.Sort.Holds (Value.int .i64) w g 0 l0.toArray:=holds_of_blockI hb (by have ht' : cur.toList.take (l0.length * 1) = l0.map (Value.int .i64):=ht;rw [Nat.mul_one] at ht';exact ht');have hlen : (l0.mergeSort fun x y=>decide (x ≤ y)).length = l0.length:=List.length_mergeSort l0;refine (Any.sort_Ints lays191 g 0 cap l0 w hH (blk_lt hb) hlt).mono fun e w' ⟨he,n,os,hw⟩=>?_;subst hw;have hgr:=grownBy_sortedI (w:=w) (g:=g) (n:=n) (os:=os) (l0.mergeSort fun x y=>decide (x ≤ y)).toArray;refine ⟨he,⟨fun k hk=>.inl (hP k hk),(l0.mergeSort fun x y=>decide (x ≤ y)).map (Value.int .i64),?_,ints_reps _⟩,?_,?_⟩
 ·have:=ownsRow_sortedI (n:=n) (os:=os) hlen hg hb h1 h2 h3;rw [hlen];exact this
 ·exact ⟨hgr.1.trans hB.os,hgr.2.trans hB.tape,hgr.3.trans hB.output,Nat.le_trans hB.size hgr.size,fun k hk=>(hgr.block k (Nat.lt_of_lt_of_le hk hB.size) (by intro e2;injection e2 with e2;omega)).trans (hB.block k hk)⟩
 exact Kept.of_grown hgr (Kept.refl _ _) fun k hk=>.inl (hP k hk)
end Go.Proofs.Ytklkhnomnanpoaa.PK

namespace Go.Proofs.Ytklkhnomnanpoaa.PK
open Go.RowKit Go.Proofs.YtklkhnomnanpoaaW.PrintWords Go.Proofs.YtklkhnomnanpoaaW.PrintLast Go.Proofs.YtklkhnomnanpoaaW.PrintMore
attribute [local go_sem] max2_int min2_int max_two min_two max_three min_three max_four min_four
def impl_LiveOf.l0 : Nat → List Int → List Int → List Int → Int → Int → Option (List Int)
 | 0,_,_,_,_,_=>none
 | k + 1,x3,x4,x11,x12,x13=>if x13 < x12 then (if 0 ≤ x13 then (if x13 < (x11.length : Int) then (if x13 = 0 then (if x4.length < 17592186044416 then (impl_LiveOf.l0 k x3 (x4 ++ [rd x11 x13]) x11 x12 (wrap64 (x13 + 1))) else (none)) else (if 0 ≤ (wrap64 (x13 - 1)) then (if (wrap64 (x13 - 1)) < (x3.length : Int) then (if (rd x3 (wrap64 (x13 - 1))) = (rd x11 x13) then (impl_LiveOf.l0 k x3 x4 x11 x12 (wrap64 (x13 + 1))) else (if x4.length < 17592186044416 then (impl_LiveOf.l0 k x3 (x4 ++ [rd x11 x13]) x11 x12 (wrap64 (x13 + 1))) else (none))) else (none)) else (none))) else (none)) else (none)) else (some x4)
def impl_LiveOf.f (k : Nat) (l0_0 : List (S89)) (l0_1 : List (S147)) (a0_2 : Int) : Option (List Int):=(impl_chunksOf.f k l0_0 l0_1 a0_2).bind fun t365=>((sort_Ints.f k t365).bind fun t368=>(impl_LiveOf.l0 k t368 ([] : List Int) t368 (t365.length : Int) 0))
theorem impl_LiveOf.mono_l : ∀ k,(∀ y0 y1 y2 y3 y4,LeO (impl_LiveOf.l0 k y0 y1 y2 y3 y4) (impl_LiveOf.l0 (k + 1) y0 y1 y2 y3 y4))
 | 0=>fun _ _ _ _ _ r h=>by simp [impl_LiveOf.l0] at h
 | k + 1=>by
  have ih0:=impl_LiveOf.mono_l k;intro y0 y1 y2 y3 y4;unfold impl_LiveOf.l0
  repeat' first
  | (with_reducible exact ih0 _ _ _ _ _)
  | (with_reducible exact impl_chunksOf.mono _ _ _ _)
  | (with_reducible exact sort_Ints.mono _ _)
  | (with_reducible exact LeO.refl _)
  | (with_reducible exact LeO.none _)
  | (with_reducible refine LeO.ite ?_ ?_)
  | (with_reducible refine LeO.bind ?_ (fun _=>?_))
  | exact ih0 _ _ _ _ _
  | exact impl_chunksOf.mono _ _ _ _
  | exact sort_Ints.mono _ _
  | exact LeO.none _
  | refine LeO.ite ?_ ?_
  | refine LeO.bind ?_ (fun _=>?_)
theorem impl_LiveOf.mono : ∀ a0 a1 a2 k,LeO (impl_LiveOf.f k a0 a1 a2) (impl_LiveOf.f (k + 1) a0 a1 a2):=by
 intro a0 a1 a2 k;have ih0:=impl_LiveOf.mono_l k;unfold impl_LiveOf.f
 repeat' first
   | (with_reducible exact ih0 _ _ _ _ _)
   | (with_reducible exact impl_chunksOf.mono _ _ _ _)
   | (with_reducible exact sort_Ints.mono _ _)
   | (with_reducible exact LeO.refl _)
   | (with_reducible exact LeO.none _)
   | (with_reducible refine LeO.ite ?_ ?_)
   | (with_reducible refine LeO.bind ?_ (fun _=>?_))
   | exact ih0 _ _ _ _ _
   | exact impl_chunksOf.mono _ _ _ _
   | exact sort_Ints.mono _ _
   | exact LeO.none _
   | refine LeO.ite ?_ ?_
   | refine LeO.bind ?_ (fun _=>?_)
set_option maxHeartbeats 8000000 in
set_option maxRecDepth 100000 in
theorem impl_LiveOf.calls (k : Nat) (A0_0 : Option Addr) (c0_0 : Nat) (l0_0 : List (S89)) (A0_1 : Option Addr) (c0_1 : Nat) (l0_1 : List (S147)) (a0_2 : Int) (r : List Int) (w : World) (hr0_0 : Kd.C k89 w A0_0 l0_0.length l0_0) (hc0_0 : l0_0.length ≤ c0_0) (hr0_1 : Kd.C k147 w A0_1 l0_1.length l0_1) (hc0_1 : l0_1.length ≤ c0_1) (h : impl_LiveOf.f k l0_0 l0_1 a0_2 = some r) :
  Calls Try.prog 11 #[.agg #[.slice A0_0 l0_0.length c0_0,.slice A0_1 l0_1.length c0_1,.int .i64 a0_2]] w fun e w'=>∃ v0_ : Value,e = .returned (v0_) ∧ Kd.R (Kd.int .i64) 3 w' w.heap.size (fun _=>True) v0_ r ∧ Below w.heap.size w w':=by
 have hu36:=Try.underlying36;have HR0_0:=zMk hr0_0;have HC0_0:=zMk hc0_0;clear hr0_0 hc0_0;have HR0_1:=zMk hr0_1;have HC0_1:=zMk hc0_1;clear hr0_1 hc0_1;have HB:=zMk (Below.refl w.heap.size w);have H : ((impl_chunksOf.f k l0_0 l0_1 a0_2).bind fun t365=>((sort_Ints.f k t365).bind fun t368=>(impl_LiveOf.l0 k t368 ([] : List Int) t368 (t365.length : Int) 0))) = some r:=h;clear h;replace H:=Option.bind_eq_some_iff.mp H;obtain ⟨t365,A20,H⟩:=H;replace H : ((sort_Ints.f k t365).bind fun t368=>(impl_LiveOf.l0 k t368 ([] : List Int) t368 (t365.length : Int) 0)) = some r:=H;have A2:=zMk A20;clear A20;replace H:=Option.bind_eq_some_iff.mp H;obtain ⟨t368,A30,H⟩:=H;replace H : (impl_LiveOf.l0 k t368 ([] : List Int) t368 (t365.length : Int) 0) = some r:=H;have A3:=zMk A30;clear A30;have H':=zMk H;clear H
 go_enter Try.func11,Try.ntmps11
 go_wp2_with (first | ((with_reducible refine gate_dst (N:=1) rfl ?_);refine box_event ?hg (N:=1) ?hd (cs:=#[.slice A0_0 l0_0.length c0_0,.slice A0_1 l0_1.length c0_1,.int .i64 a0_2]) (t:=36) ?hr ?_;(case hd=>rfl);(case hg=>rfl);(case hr=>first | (go_simp;done) | (go_simp;rfl));intro gb364 hg w4 hbox hb;have n0_:=zMk (below_step (hs HB) hb);have n1_:=zMk (hbox);have n2_:=zMk ((by rw [hg];exact (below_size (hs HB)) : w.heap.size ≤ gb364));have n3_:=zMk ((by rw [hg];exact (below_size (hs HB)) : w.heap.size ≤ gb364));clear HB;have HB:=n0_;have BK364:=n1_;have GW364:=n2_;have GE364:=n3_;clear n0_ n1_ n2_ n3_;clear hb hbox hg;have hcz5_0 : w4.cell? ⟨gb364,0,none⟩ = some (.slice A0_0 l0_0.length c0_0):=(zCl BK364.out 0).trans rfl;have hcz5_1 : w4.cell? ⟨gb364,1,none⟩ = some (.slice A0_1 l0_1.length c0_1):=(zCl BK364.out 1).trans rfl;have hcz5_2 : w4.cell? ⟨gb364,2,none⟩ = some (.int .i64 a0_2):=(zCl BK364.out 2).trans rfl;have hfz5_0:=zFr BK364.out 0;have hfz5_1:=zFr BK364.out 1;have hfz5_2:=zFr BK364.out 2) | ((with_reducible refine gate_callee (f:=48) rfl ?_);refine goesL_ (some 8) rfl rfl Try.func48 (by kernel_rfl) rfl #[.agg #[.slice A0_0 l0_0.length c0_0,.slice A0_1 l0_1.length c0_1,.int .i64 a0_2]] rfl (by (try simp only [List.map_toArray,List.map_cons,List.map_nil]);first | done | rfl | (simp only [List.length_drop,List.length_take];rfl)) ?_;(with_reducible refine (impl_chunksOf.calls k _ _ l0_0 _ _ l0_1 a0_2 t365 _ ?side1 ?side2 ?side3 ?side4 A2.out).mono ?_);(case side1=>repeat (first | exact (Kd.C_below HR0_0.out HB.out) | (with_reducible refine Kd.C_alloc ?_ _) | (with_reducible refine Kd.C_drewN ?_ _) | (with_reducible refine Kd.C_drew ?_)));(case side2=>exact HC0_0.out);(case side3=>repeat (first | exact (Kd.C_below HR0_1.out HB.out) | (with_reducible refine Kd.C_alloc ?_ _) | (with_reducible refine Kd.C_drewN ?_ _) | (with_reducible refine Kd.C_drew ?_)));(case side4=>exact HC0_1.out);rintro e w6 ⟨v366,rfl,ho0,hb⟩;refine ⟨_,rfl,?_⟩;have n0_:=zMk (Kd.R_lower ho0 (below_size (hs1 HB GE364)));have n1_:=zMk (blk_below (g:=gb364) (o:=.cells #[.slice A0_0 l0_0.length c0_0,.slice A0_1 l0_1.length c0_1,.int .i64 a0_2] 36 (0,0)) (bs BK364) hb);have n2_:=zMk (below_step (hs1 HB GE364) hb);clear BK364;clear HB;have HO367:=n0_;have BK364:=n1_;have HB:=n2_;clear n0_ n1_ n2_;(try clear hb);(try clear hb2);(try clear hk);(try clear hi);(try clear ho0);obtain ⟨Ao7,co7,eo7⟩:=Kd.R_slice HO367.out;subst eo7) | ((with_reducible refine gate_callee (f:=49) rfl ?_);refine goesL_ (some 10) rfl rfl Try.func49 (by kernel_rfl) rfl #[.slice Ao7 t365.length co7] rfl (by (try simp only [List.map_toArray,List.map_cons,List.map_nil]);first | done | rfl | (simp only [List.length_drop,List.length_take];rfl)) ?_;(with_reducible refine (sort_Ints.calls k (fun k_=>some k_ = (.slice Ao7 t365.length co7 : Value).ownBlock) (.slice Ao7 t365.length co7) t365 t368 w _ ?side1 ?side2 A3.out).mono ?_);(case side1=>repeat (first | (with_reducible first | exact HB.out | apply below_alloc | apply pw_below_drewN | apply below_drew1 | refine below_set ?_ GE364.out) | exact HB.out));(case side2=>exact Kd.R_tight rfl HO367.out);rintro e w8 ⟨rfl,hy0,hb,hkp⟩;refine ⟨_,rfl,?_⟩;have n0_:=zMk (blk_kept (bs BK364) hkp (fun hs_=>(fun e_=>(Kd.R_ne HO367.out BK364.out (by decide)) e_) hs_));have n1_:=zMk (Kd.R_reok rfl hy0 (fun k_ e_=>HO367.out.1 k_ e_));have n2_:=zMk (hb);clear BK364;clear HO367;clear HB;have BK364:=n0_;have HO367:=n1_;have HB:=n2_;clear n0_ n1_ n2_;(try clear hb);(try clear hkp);(try clear hy0)))
 (try simp only [Act.put,zS1,zS2,zS3])
 go_loopg [4,13] k (fun kq v4 v13 w'=>∃ (x4_1 : List Int) (x13_1 : Int),v13 = .int .i64 x13_1 ∧ Aside0 (impl_LiveOf.l0 kq t368 x4_1 t368 (t365.length : Int) x13_1 = some r) ∧ Aside0 (kq ≤ k) ∧ Aside0 (Kd.R (Kd.int .i64) 3 w' w.heap.size (fun k_=>some k_ ≠ (v4 : Value).ownBlock) (.slice Ao7 t365.length co7) t368) ∧ Aside0 (Kd.R (Kd.int .i64) 3 w' w.heap.size (fun k_=>some k_ ≠ ((.slice Ao7 t365.length co7) : Value).ownBlock ∧ some k_ ≠ ((.slice Ao7 t365.length co7) : Value).ownBlock) v4 x4_1) ∧ Aside0 (Kd.R (Kd.int .i64) 3 w' w.heap.size (fun k_=>some k_ ≠ (v4 : Value).ownBlock) (.slice Ao7 t365.length co7) t368) ∧ Aside0 (w'.heap[gb364]? = some (.cells #[(.slice A0_0 l0_0.length c0_0),(.slice A0_1 l0_1.length c0_1),.int .i64 a0_2] 36 (0,0))) ∧ Aside0 (Below w.heap.size w w'));case atStart=>exact ⟨(([] : List Int)),(0),(by first | rfl | (simp;done) | (simp [*];done)),H',⟨Nat.le_refl _⟩,⟨by (with_reducible repeat (first | apply Kd.R_alloc | apply Kd.R_drewN | apply Kd.R_drew));exact Kd.R_mono HO367.out (fun _ hk=>(by simp [Value.ownBlock]))⟩,⟨by first | exact Kd.R_nil _ _ _ _ _ | exact Kd.N_nil _ _ _ _ _ | exact Kd.V_nil _ _ _ _ _ | exact Kd.Q_nil _ _ _ _ _ | exact Kd.S_nil _ _ _ _ _⟩,⟨by (with_reducible repeat (first | apply Kd.R_alloc | apply Kd.R_drewN | apply Kd.R_drew));exact Kd.R_mono HO367.out (fun _ hk=>(by simp [Value.ownBlock]))⟩,⟨bs BK364⟩,⟨hs1 HB GE364⟩⟩
 case round =>
  clear H'
  try clear c1
  try clear p2
  try clear c4
  try clear hcz5_0
  try clear hcz5_1
  try clear hcz5_2
  try clear hfz5_0
  try clear hfz5_1
  try clear hfz5_2
  obtain ⟨x4_1,x13_1,rfl,HA,HK1,HO_3,HO_4,HO_11,BK364,HB⟩:=hrel;have hl3_1:=(Kd.R_reads' HO_3.out).1;rw [hl3_1] at HO_3
  (try simp only [hl3_1])
  (try simp only [hl3_1] at BK364)
  (try simp only [hl3_1] at HO_4)
  (try simp only [hl3_1] at HO_11)
  have hl11_1:=(Kd.R_reads' HO_11.out).1;rw [hl11_1] at HO_11
  (try simp only [hl11_1])
  (try simp only [hl11_1] at BK364)
  (try simp only [hl11_1] at HO_3)
  (try simp only [hl11_1] at HO_4)
  cases gk with
  | zero=>exact absurd HA.out (by simp [impl_LiveOf.l0])
  | succ k1 =>
   have H:=HA.out;clear HA;simp only [impl_LiveOf.l0] at H
   by_cases c9 : x13_1 < (t365.length : Int)
   ·rw [if_pos c9] at H;have c9b0 : decide (x13_1 < (t365.length : Int)) = true:=decide_eq_true c9;clear c9
    by_cases c10 : 0 ≤ x13_1
    ·rw [if_pos c10] at H;have c10b0 : decide (0 ≤ x13_1) = true:=decide_eq_true c10;clear c10
     by_cases c11 : x13_1 < (t368.length : Int)
     ·rw [if_pos c11] at H;have c11b0 : decide (x13_1 < (t368.length : Int)) = true:=decide_eq_true c11;clear c11
      by_cases c12 : x13_1 = 0
      ·rw [if_pos c12] at H;have c12b0 : (x13_1 == 0) = true:=beq_iff_eq.mpr c12;have c12b1 : (x13_1 != 0) = false:=bne_eq_false_iff_eq.mpr c12;clear c12
       by_cases c13 : x4_1.length < 17592186044416
       ·rw [if_pos c13] at H;have LMc13:=zMk c13;clear c13;obtain ⟨y370,hy370⟩ : ∃ y_ : List Int,y_ = (x4_1 ++ [rd t368 x13_1]):=⟨_,rfl⟩;replace H : (impl_LiveOf.l0 k1 t368 y370 t368 (t365.length : Int) (wrap64 (x13_1 + 1))) = some r:=by first | (rw [hy370];with_reducible exact H) | (have H2_:=(Option.bind_some _ _).symm.trans H;rw [hy370];with_reducible exact H2_) | (have H2_:=(Option.bind_some _ _).symm.trans H;with_reducible exact H2_) | with_reducible exact H | (rw [hy370];exact H) | exact H
        have Ny370:=zMk hy370;clear hy370;have H':=zMk H;clear H;have p369 : 0 ≤ (x13_1 : Int):=zDe (by first | (with_reducible assumption) | assumption);have q369 : x13_1 < (t368.length : Int):=zDe (by first | (with_reducible assumption) | assumption);obtain ⟨ad369,e369,hx369_0⟩:=Kd.at_int (Kd.R_reads' HO_11.out).2.2 x13_1 p369 q369;cases e369;replace p369:=eq_true p369;replace q369:=eq_true q369;go_wp2_with (first | ((with_reducible refine gate_builtin (b:=.append) (xs:=#[.tmp 29,.tmp 31]) rfl ?_);at_builtin;refine Kd.R_append (Kd.int .i64) (w0:=w) w.heap.size rfl (.tmp 29) (.tmp 31) 29 3 (.int .i64 0) 8 rfl Try.underlying29 info3 rfl (by decide) (by omega) u4 x4_1 (rd t368 x13_1) [.int .i64 (rd t368 x13_1)] (fun k_=>some k_ ≠ (.slice (some ad369) t368.length co7 : Value).ownBlock ∧ some k_ ≠ (.slice (some ad369) t368.length co7 : Value).ownBlock) (fun _=>False) rfl rfl ?aP (fun _ hk=>hk.elim) ?aF ?aO ?aB ?aS ?aL ?_;(case aP=>exact rfl);(case aB=>exact (hs1 HB GE364));(case aF=>exact (fun k_ hk=>⟨Kd.fresh' (Kd.R_lt (rs HO_3)) k_ hk,Kd.fresh' (Kd.R_lt (rs HO_11)) k_ hk⟩));(case aO=>exact (rs HO_4));(case aS=>exact (below_size (hs1 HB GE364)));(case aL=>have:=LMc13.out;omega);intro v371 w14 ho hb hg hat;rw [← Ny370.out] at ho;have n0_:=zMk (Kd.R_after (ok:=(fun _=>True)) (by (with_reducible repeat (first | apply Kd.R_alloc | apply Kd.R_drewN | apply Kd.R_drew));exact Kd.R_mono HO_3.out (fun _ hk=>⟨trivial,hk⟩)) hg hat);have n1_:=zMk (Kd.R_after (ok:=(fun _=>True)) (by (with_reducible repeat (first | apply Kd.R_alloc | apply Kd.R_drewN | apply Kd.R_drew));exact Kd.R_mono HO_11.out (fun _ hk=>⟨trivial,hk⟩)) hg hat);have n2_:=zMk (blk_grown (g:=gb364) (o:=.cells #[.slice A0_0 l0_0.length c0_0,.slice A0_1 l0_1.length c0_1,.int .i64 a0_2] 36 (0,0)) (bs BK364) hg (Kd.R_ne HO_4.out BK364.out (by decide)));have n3_:=zMk (hb);have n4_:=zMk (ho);clear HO_3;clear HO_11;clear BK364;clear HB;clear HO_4;have HO_3:=n0_;have HO_11:=n1_;have BK364:=n2_;have HB:=n3_;have HO372:=n4_;clear n0_ n1_ n2_ n3_ n4_;clear ho hb hg hat))
        (try simp only [← hl3_1])
        go_roundg k1;case measure=>have:=HK1.out;omega
        case rel=>exact ⟨(y370),(wrap64 (x13_1 + 1)),(by first | rfl | (simp;done) | (simp [*];done)),H',⟨by have:=HK1.out;omega⟩,⟨by (try simp only [hl3_1]);(try simp only [hl11_1]);(with_reducible repeat (first | apply Kd.R_alloc | apply Kd.R_drewN | apply Kd.R_drew));exact Kd.R_mono HO_3.out (fun _ hk=>hk.2)⟩,⟨by (try simp only [hl3_1]);(try simp only [hl11_1]);(with_reducible repeat (first | apply Kd.R_alloc | apply Kd.R_drewN | apply Kd.R_drew));exact HO372.out⟩,⟨by (try simp only [hl3_1]);(try simp only [hl11_1]);(with_reducible repeat (first | apply Kd.R_alloc | apply Kd.R_drewN | apply Kd.R_drew));exact Kd.R_mono HO_11.out (fun _ hk=>hk.2)⟩,⟨by (try simp only [hl3_1]);(try simp only [hl11_1]);(with_reducible repeat (first | refine blk_drewN ?_ _ | refine blk_drew ?_ | refine blk_alloc ?_ _));exact BK364.out⟩,⟨hs1 HB GE364⟩⟩
       rw [if_neg c13] at H;exact absurd H (by simp)
      rw [if_neg c12] at H;have c12b0 : (x13_1 == 0) = false:=beq_eq_false_iff_ne.mpr c12;have c12b1 : (x13_1 != 0) = true:=bne_iff_ne.mpr c12;obtain ⟨ji15,hji15⟩ : ∃ j_ : Int,(wrap64 (x13_1 - 1)) = j_:=⟨_,rfl⟩;replace H : (if 0 ≤ (ji15) then (if (ji15) < (t368.length : Int) then (if (rd t368 (ji15)) = (rd t368 x13_1) then (impl_LiveOf.l0 k1 t368 x4_1 t368 (t365.length : Int) (wrap64 (x13_1 + 1))) else (if x4_1.length < 17592186044416 then (impl_LiveOf.l0 k1 t368 (x4_1 ++ [rd t368 x13_1]) t368 (t365.length : Int) (wrap64 (x13_1 + 1))) else (none))) else (none)) else (none)) = some r:=by first | (rw [hji15] at H;exact H) | (simp only [hji15] at H ⊢;exact H)
      have hji15w : (IntKind.i64.wrap (x13_1 - 1)) = ji15:=(i64_w _).trans hji15
      by_cases c16 : 0 ≤ (ji15)
      ·rw [if_pos c16] at H;have c16b0 : decide (0 ≤ (ji15)) = true:=decide_eq_true c16;clear c16
       by_cases c17 : (ji15) < (t368.length : Int)
       ·rw [if_pos c17] at H;have c17b0 : decide ((ji15) < (t368.length : Int)) = true:=decide_eq_true c17;clear c17
        by_cases c18 : (rd t368 (ji15)) = (rd t368 x13_1)
        ·rw [if_pos c18] at H;have c18b0 : ((rd t368 (ji15)) == (rd t368 x13_1)) = true:=beq_iff_eq.mpr c18;have c18b1 : ((rd t368 (ji15)) != (rd t368 x13_1)) = false:=bne_eq_false_iff_eq.mpr c18;clear c18;have H':=zMk H;clear H;have p369 : 0 ≤ (x13_1 : Int):=zDe (by first | (with_reducible assumption) | assumption);have q369 : x13_1 < (t368.length : Int):=zDe (by first | (with_reducible assumption) | assumption);obtain ⟨ad369,e369,hx369_0⟩:=Kd.at_int (Kd.R_reads' HO_11.out).2.2 x13_1 p369 q369;cases e369;replace p369:=eq_true p369;replace q369:=eq_true q369;have p373 : 0 ≤ ((ji15) : Int):=zDe (by first | (with_reducible assumption) | assumption);have q373 : (ji15) < (t368.length : Int):=zDe (by first | (with_reducible assumption) | assumption);obtain ⟨ad373,e373,hx373_0⟩:=Kd.at_int (Kd.R_reads' HO_3.out).2.2 (ji15) p373 q373;obtain rfl : ad369 = ad373:=(by injection e373);replace p373:=eq_true p373;replace q373:=eq_true q373
         go_wp2
         (try simp only [← hl3_1])
         go_roundg k1;case measure=>have:=HK1.out;omega
         case rel=>exact ⟨(x4_1),(wrap64 (x13_1 + 1)),(by first | rfl | (simp;done) | (simp [*];done)),H',⟨by have:=HK1.out;omega⟩,⟨by (try simp only [hl3_1]);(try simp only [hl11_1]);(with_reducible repeat (first | apply Kd.R_alloc | apply Kd.R_drewN | apply Kd.R_drew));exact HO_3.out⟩,⟨by (try simp only [hl3_1]);(try simp only [hl11_1]);(with_reducible repeat (first | apply Kd.R_alloc | apply Kd.R_drewN | apply Kd.R_drew));exact HO_4.out⟩,⟨by (try simp only [hl3_1]);(try simp only [hl11_1]);(with_reducible repeat (first | apply Kd.R_alloc | apply Kd.R_drewN | apply Kd.R_drew));exact HO_11.out⟩,⟨by (try simp only [hl3_1]);(try simp only [hl11_1]);(with_reducible repeat (first | refine blk_drewN ?_ _ | refine blk_drew ?_ | refine blk_alloc ?_ _));exact BK364.out⟩,⟨hs1 HB GE364⟩⟩
        rw [if_neg c18] at H;have c18b0 : ((rd t368 (ji15)) == (rd t368 x13_1)) = false:=beq_eq_false_iff_ne.mpr c18;have c18b1 : ((rd t368 (ji15)) != (rd t368 x13_1)) = true:=bne_iff_ne.mpr c18
        by_cases c19 : x4_1.length < 17592186044416
        ·rw [if_pos c19] at H;have LMc19:=zMk c19;clear c19;obtain ⟨y374,hy374⟩ : ∃ y_ : List Int,y_ = (x4_1 ++ [rd t368 x13_1]):=⟨_,rfl⟩;replace H : (impl_LiveOf.l0 k1 t368 y374 t368 (t365.length : Int) (wrap64 (x13_1 + 1))) = some r:=by first | (rw [hy374];with_reducible exact H) | (have H2_:=(Option.bind_some _ _).symm.trans H;rw [hy374];with_reducible exact H2_) | (have H2_:=(Option.bind_some _ _).symm.trans H;with_reducible exact H2_) | with_reducible exact H | (rw [hy374];exact H) | exact H
         have Ny374:=zMk hy374;clear hy374;have H':=zMk H;clear H;have p369 : 0 ≤ (x13_1 : Int):=zDe (by first | (with_reducible assumption) | assumption);have q369 : x13_1 < (t368.length : Int):=zDe (by first | (with_reducible assumption) | assumption);obtain ⟨ad369,e369,hx369_0⟩:=Kd.at_int (Kd.R_reads' HO_11.out).2.2 x13_1 p369 q369;cases e369;replace p369:=eq_true p369;replace q369:=eq_true q369;have p373 : 0 ≤ ((ji15) : Int):=zDe (by first | (with_reducible assumption) | assumption);have q373 : (ji15) < (t368.length : Int):=zDe (by first | (with_reducible assumption) | assumption);obtain ⟨ad373,e373,hx373_0⟩:=Kd.at_int (Kd.R_reads' HO_3.out).2.2 (ji15) p373 q373;obtain rfl : ad369 = ad373:=(by injection e373);replace p373:=eq_true p373;replace q373:=eq_true q373;go_wp2_with (first | ((with_reducible refine gate_builtin (b:=.append) (xs:=#[.tmp 29,.tmp 31]) rfl ?_);at_builtin;refine Kd.R_append (Kd.int .i64) (w0:=w) w.heap.size rfl (.tmp 29) (.tmp 31) 29 3 (.int .i64 0) 8 rfl Try.underlying29 info3 rfl (by decide) (by omega) u4 x4_1 (rd t368 x13_1) [.int .i64 (rd t368 x13_1)] (fun k_=>some k_ ≠ (.slice (some ad369) t368.length co7 : Value).ownBlock ∧ some k_ ≠ (.slice (some ad369) t368.length co7 : Value).ownBlock) (fun _=>False) rfl rfl ?aP (fun _ hk=>hk.elim) ?aF ?aO ?aB ?aS ?aL ?_;(case aP=>exact rfl);(case aB=>exact (hs1 HB GE364));(case aF=>exact (fun k_ hk=>⟨Kd.fresh' (Kd.R_lt (rs HO_3)) k_ hk,Kd.fresh' (Kd.R_lt (rs HO_11)) k_ hk⟩));(case aO=>exact (rs HO_4));(case aS=>exact (below_size (hs1 HB GE364)));(case aL=>have:=LMc19.out;omega);intro v375 w20 ho hb hg hat;rw [← Ny374.out] at ho;have n0_:=zMk (Kd.R_after (ok:=(fun _=>True)) (by (with_reducible repeat (first | apply Kd.R_alloc | apply Kd.R_drewN | apply Kd.R_drew));exact Kd.R_mono HO_3.out (fun _ hk=>⟨trivial,hk⟩)) hg hat);have n1_:=zMk (Kd.R_after (ok:=(fun _=>True)) (by (with_reducible repeat (first | apply Kd.R_alloc | apply Kd.R_drewN | apply Kd.R_drew));exact Kd.R_mono HO_11.out (fun _ hk=>⟨trivial,hk⟩)) hg hat);have n2_:=zMk (blk_grown (g:=gb364) (o:=.cells #[.slice A0_0 l0_0.length c0_0,.slice A0_1 l0_1.length c0_1,.int .i64 a0_2] 36 (0,0)) (bs BK364) hg (Kd.R_ne HO_4.out BK364.out (by decide)));have n3_:=zMk (hb);have n4_:=zMk (ho);clear HO_3;clear HO_11;clear BK364;clear HB;clear HO_4;have HO_3:=n0_;have HO_11:=n1_;have BK364:=n2_;have HB:=n3_;have HO376:=n4_;clear n0_ n1_ n2_ n3_ n4_;clear ho hb hg hat))
         (try simp only [← hl3_1])
         go_roundg k1;case measure=>have:=HK1.out;omega
         case rel=>exact ⟨(y374),(wrap64 (x13_1 + 1)),(by first | rfl | (simp;done) | (simp [*];done)),H',⟨by have:=HK1.out;omega⟩,⟨by (try simp only [hl3_1]);(try simp only [hl11_1]);(with_reducible repeat (first | apply Kd.R_alloc | apply Kd.R_drewN | apply Kd.R_drew));exact Kd.R_mono HO_3.out (fun _ hk=>hk.2)⟩,⟨by (try simp only [hl3_1]);(try simp only [hl11_1]);(with_reducible repeat (first | apply Kd.R_alloc | apply Kd.R_drewN | apply Kd.R_drew));exact HO376.out⟩,⟨by (try simp only [hl3_1]);(try simp only [hl11_1]);(with_reducible repeat (first | apply Kd.R_alloc | apply Kd.R_drewN | apply Kd.R_drew));exact Kd.R_mono HO_11.out (fun _ hk=>hk.2)⟩,⟨by (try simp only [hl3_1]);(try simp only [hl11_1]);(with_reducible repeat (first | refine blk_drewN ?_ _ | refine blk_drew ?_ | refine blk_alloc ?_ _));exact BK364.out⟩,⟨hs1 HB GE364⟩⟩
        rw [if_neg c19] at H;exact absurd H (by simp)
       rw [if_neg c17] at H;exact absurd H (by simp)
      rw [if_neg c16] at H;exact absurd H (by simp)
     rw [if_neg c11] at H;exact absurd H (by simp)
    rw [if_neg c10] at H;exact absurd H (by simp)
   rw [if_neg c9] at H;have c9b0 : decide (x13_1 < (t365.length : Int)) = false:=decide_eq_false c9
   (try rw [hl3_1] at c9b0)
   clear c9;obtain rfl:=Option.some.inj H
   go_wp2
   go_ret
   exact ⟨_,by first | rfl | (simp [errW_none,errW_some] <;> rfl) | (simp [*,errW_none,errW_some] <;> rfl),by (with_reducible repeat (first | apply Kd.R_alloc | apply Kd.R_drewN | apply Kd.R_drew));exact Kd.R_mono HO_4.out (fun _ hk=>trivial),hs1 HB GE364⟩
def laws_eqIntS.l0 : Nat → List Int → List Int → Int → Option (Bool)
 | 0,_,_,_=>none
 | k + 1,x0,x1,x5=>if x5 < (x0.length : Int) then (if 0 ≤ x5 then (if x5 < (x1.length : Int) then (if (rd x0 x5) = (rd x1 x5) then (laws_eqIntS.l0 k x0 x1 (wrap64 (x5 + 1))) else (some false)) else (none)) else (none)) else (some true)
def laws_eqIntS.f (k : Nat) (l0 : List Int) (l1 : List Int) : Option (Bool):=if (l0.length : Int) = (l1.length : Int) then (laws_eqIntS.l0 k l0 l1 0) else (some false)
theorem laws_eqIntS.mono_l : ∀ k,(∀ y0 y1 y2,LeO (laws_eqIntS.l0 k y0 y1 y2) (laws_eqIntS.l0 (k + 1) y0 y1 y2))
 | 0=>fun _ _ _ r h=>by simp [laws_eqIntS.l0] at h
 | k + 1=>by
  have ih0:=laws_eqIntS.mono_l k;intro y0 y1 y2;unfold laws_eqIntS.l0
  repeat' first
  | (with_reducible exact ih0 _ _ _)
  | (with_reducible exact LeO.refl _)
  | (with_reducible exact LeO.none _)
  | (with_reducible refine LeO.ite ?_ ?_)
  | (with_reducible refine LeO.bind ?_ (fun _=>?_))
  | exact ih0 _ _ _
  | exact LeO.none _
  | refine LeO.ite ?_ ?_
  | refine LeO.bind ?_ (fun _=>?_)
theorem laws_eqIntS.mono : ∀ a0 a1 k,LeO (laws_eqIntS.f k a0 a1) (laws_eqIntS.f (k + 1) a0 a1):=by
 intro a0 a1 k;have ih0:=laws_eqIntS.mono_l k;unfold laws_eqIntS.f
 repeat' first
   | (with_reducible exact ih0 _ _ _)
   | (with_reducible exact LeO.refl _)
   | (with_reducible exact LeO.none _)
   | (with_reducible refine LeO.ite ?_ ?_)
   | (with_reducible refine LeO.bind ?_ (fun _=>?_))
   | exact ih0 _ _ _
   | exact LeO.none _
   | refine LeO.ite ?_ ?_
   | refine LeO.bind ?_ (fun _=>?_)
set_option maxHeartbeats 8000000 in
set_option maxRecDepth 100000 in
theorem laws_eqIntS.calls (k : Nat) (A0 : Option Addr) (c0 : Nat) (l0 : List Int) (A1 : Option Addr) (c1 : Nat) (l1 : List Int) (r : Bool) (w : World) (hr0 : Kd.C (Kd.int .i64) w A0 l0.length l0) (hc0 : l0.length ≤ c0) (hr1 : Kd.C (Kd.int .i64) w A1 l1.length l1) (hc1 : l1.length ≤ c1) (h : laws_eqIntS.f k l0 l1 = some r) :
  Calls Try.prog 12 #[.slice A0 l0.length c0,.slice A1 l1.length c1] w fun e w'=>e = .returned (.bool r) ∧ Drawn0 w w':=by
 have HR0:=zMk hr0;have HC0:=zMk hc0;clear hr0 hc0;have HR1:=zMk hr1;have HC1:=zMk hc1;clear hr1 hc1;have H : (if (l0.length : Int) = (l1.length : Int) then (laws_eqIntS.l0 k l0 l1 0) else (some false)) = some r:=h;clear h
 by_cases c3 : (l0.length : Int) = (l1.length : Int)
 ·rw [if_pos c3] at H;have c3b0 : ((l0.length : Int) == (l1.length : Int)) = true:=beq_iff_eq.mpr c3;have c3b1 : ((l0.length : Int) != (l1.length : Int)) = false:=bne_eq_false_iff_eq.mpr c3;have c3b2 : (l0.length == l1.length) = true:=by first | simpa using c3 | (simp at c3 ⊢;omega)
  clear c3;have H':=zMk H;clear H
  go_enter Try.func12,Try.ntmps12
  go_wp2_with ((fail_if_success go_not_at_region 6);go_quiet (fail));go_loopg [5] k (fun kq v5 w'=>∃ (x5_1 : Int),v5 = .int .i64 x5_1 ∧ Aside0 (laws_eqIntS.l0 kq l0 l1 x5_1 = some r) ∧ Aside0 (kq ≤ k) ∧ Drawn0 w w');case atStart=>exact ⟨(0),(by first | rfl | (simp;done) | (simp [*];done)),H',⟨Nat.le_refl _⟩,by repeat (first | exact Drawn0.refl _ | apply Drawn0.step)⟩
  case round =>
   clear H'
   try clear c1
   try clear p2
   try clear c3
   try clear c3b0
   try clear c3b1
   try clear c3b2
   obtain ⟨x5_1,rfl,HA,HK1,⟨m1,rfl⟩⟩:=hrel;cases gk with
   | zero=>exact absurd HA.out (by simp [laws_eqIntS.l0])
   | succ k1 =>
    have H:=HA.out;clear HA;simp only [laws_eqIntS.l0] at H
    by_cases c4 : x5_1 < (l0.length : Int)
    ·rw [if_pos c4] at H;have c4b0 : decide (x5_1 < (l0.length : Int)) = true:=decide_eq_true c4;clear c4
     by_cases c5 : 0 ≤ x5_1
     ·rw [if_pos c5] at H;have c5b0 : decide (0 ≤ x5_1) = true:=decide_eq_true c5;clear c5
      by_cases c6 : x5_1 < (l1.length : Int)
      ·rw [if_pos c6] at H;have c6b0 : decide (x5_1 < (l1.length : Int)) = true:=decide_eq_true c6;clear c6
       by_cases c7 : (rd l0 x5_1) = (rd l1 x5_1)
       ·rw [if_pos c7] at H;have c7b0 : ((rd l0 x5_1) == (rd l1 x5_1)) = true:=beq_iff_eq.mpr c7;have c7b1 : ((rd l0 x5_1) != (rd l1 x5_1)) = false:=bne_eq_false_iff_eq.mpr c7;clear c7;have H':=zMk H;clear H;have p377 : 0 ≤ (x5_1 : Int):=zDe (by first | (with_reducible assumption) | assumption);have q377 : x5_1 < (l0.length : Int):=zDe (by first | (with_reducible assumption) | assumption);obtain ⟨ad377,e377,hx377_0⟩:=Kd.at_int HR0.out x5_1 p377 q377;cases e377;replace p377:=eq_true p377;replace q377:=eq_true q377;have p378 : 0 ≤ (x5_1 : Int):=zDe (by first | (with_reducible assumption) | assumption);have q378 : x5_1 < (l1.length : Int):=zDe (by first | (with_reducible assumption) | assumption);obtain ⟨ad378,e378,hx378_0⟩:=Kd.at_int HR1.out x5_1 p378 q378;cases e378;replace p378:=eq_true p378;replace q378:=eq_true q378;go_wp2_with ((fail_if_success go_not_at_region 6);go_quiet (fail));go_roundg k1;case measure=>have:=HK1.out;omega
        case rel=>exact ⟨(wrap64 (x5_1 + 1)),(by first | rfl | (simp;done) | (simp [*];done)),H',⟨by have:=HK1.out;omega⟩,by repeat (first | exact Drawn0.refl _ | apply Drawn0.step)⟩
       rw [if_neg c7] at H;have c7b0 : ((rd l0 x5_1) == (rd l1 x5_1)) = false:=beq_eq_false_iff_ne.mpr c7;have c7b1 : ((rd l0 x5_1) != (rd l1 x5_1)) = true:=bne_iff_ne.mpr c7;obtain rfl:=Option.some.inj H;have p377 : 0 ≤ (x5_1 : Int):=zDe (by first | (with_reducible assumption) | assumption);have q377 : x5_1 < (l0.length : Int):=zDe (by first | (with_reducible assumption) | assumption);obtain ⟨ad377,e377,hx377_0⟩:=Kd.at_int HR0.out x5_1 p377 q377;cases e377;replace p377:=eq_true p377;replace q377:=eq_true q377;have p378 : 0 ≤ (x5_1 : Int):=zDe (by first | (with_reducible assumption) | assumption);have q378 : x5_1 < (l1.length : Int):=zDe (by first | (with_reducible assumption) | assumption);obtain ⟨ad378,e378,hx378_0⟩:=Kd.at_int HR1.out x5_1 p378 q378;cases e378;replace p378:=eq_true p378;replace q378:=eq_true q378;go_wp2_with ((fail_if_success go_not_at_region 6);go_quiet (fail))
       go_ret
       exact ⟨by first | rfl | (simp;done) | (simp [*];done),by repeat (first | exact Drawn0.refl _ | apply Drawn0.step)⟩
      rw [if_neg c6] at H;exact absurd H (by simp)
     rw [if_neg c5] at H;exact absurd H (by simp)
    rw [if_neg c4] at H;have c4b0 : decide (x5_1 < (l0.length : Int)) = false:=decide_eq_false c4;clear c4;obtain rfl:=Option.some.inj H;go_wp2_with ((fail_if_success go_not_at_region 6);go_quiet (fail))
    go_ret
    exact ⟨by first | rfl | (simp;done) | (simp [*];done),by repeat (first | exact Drawn0.refl _ | apply Drawn0.step)⟩
 rw [if_neg c3] at H;have c3b0 : ((l0.length : Int) == (l1.length : Int)) = false:=beq_eq_false_iff_ne.mpr c3;have c3b1 : ((l0.length : Int) != (l1.length : Int)) = true:=bne_iff_ne.mpr c3;have c3b2 : (l0.length == l1.length) = false:=by first | simpa using c3 | (simp at c3 ⊢;omega)
 obtain rfl:=Option.some.inj H
 go_enter Try.func12,Try.ntmps12
 go_wp2_with ((fail_if_success go_not_at_region 6);go_quiet (fail))
 go_ret
 exact ⟨by first | rfl | (simp;done) | (simp [*];done),by repeat (first | exact Drawn0.refl _ | apply Drawn0.step)⟩
def laws_eqVol.f (a0_0 : Int) (a0_1 : Int) (a1_0 : Int) (a1_1 : Int) : Option (Bool):=if a0_0 = a1_0 then (if a0_1 = a1_1 then (some true) else (some false)) else (some false)
set_option maxHeartbeats 8000000 in
set_option maxRecDepth 100000 in
theorem laws_eqVol.calls (a0_0 : Int) (a0_1 : Int) (a1_0 : Int) (a1_1 : Int) (r : Bool) (w : World) (h : laws_eqVol.f a0_0 a0_1 a1_0 a1_1 = some r) :
  Calls Try.prog 82 #[.agg #[.int .i64 a0_0,.int .i64 a0_1],.agg #[.int .i64 a1_0,.int .i64 a1_1]] w fun e w'=>e = .returned (.bool r) ∧ Below w.heap.size w w':=by
 have hu89:=Try.underlying89;have HB:=zMk (Below.refl w.heap.size w);have H : (if a0_0 = a1_0 then (if a0_1 = a1_1 then (some true) else (some false)) else (some false)) = some r:=h;clear h
 go_enter Try.func82,Try.ntmps82
 go_upto_if 9 with (first | ((with_reducible refine gate_dst (N:=2) rfl ?_);refine box_event ?hg (N:=2) ?hd (cs:=#[.int .i64 a0_0,.int .i64 a0_1]) (t:=89) ?hr ?_;(case hd=>rfl);(case hg=>rfl);(case hr=>first | (go_simp;done) | (go_simp;rfl));intro gb379 hg w5 hbox hb;have n0_:=zMk (below_step (hs HB) hb);have n1_:=zMk (hbox);have n2_:=zMk ((by rw [hg];exact (below_size (hs HB)) : w.heap.size ≤ gb379));have n3_:=zMk ((by rw [hg];exact (below_size (hs HB)) : w.heap.size ≤ gb379));clear HB;have HB:=n0_;have BK379:=n1_;have GW379:=n2_;have GE379:=n3_;clear n0_ n1_ n2_ n3_;clear hb hbox hg) | ((with_reducible refine gate_dst (N:=3) rfl ?_);refine box_event ?hg (N:=3) ?hd (cs:=#[.int .i64 a1_0,.int .i64 a1_1]) (t:=89) ?hr ?_;(case hd=>rfl);(case hg=>rfl);(case hr=>first | (go_simp;done) | (go_simp;rfl));intro gb380 hg w6 hbox hb;have n0_:=zMk (blk_below (g:=gb379) (o:=.cells #[.int .i64 a0_0,.int .i64 a0_1] 89 (0,0)) (bs BK379) hb);have n1_:=zMk (below_step (hs1 HB GE379) hb);have n2_:=zMk (hbox);have n3_:=zMk ((by rw [hg];exact (below_size (hs1 HB GE379)) : w.heap.size ≤ gb380));have n4_:=zMk ((by rw [hg];exact (below_size (hs1 HB GE379)) : w.heap.size ≤ gb380));have n5_:=zMk ((by rw [hg];exact Nat.ne_of_lt (blk_lt (g:=gb379) (o:=.cells #[.int .i64 a0_0,.int .i64 a0_1] 89 (0,0)) (bs BK379)) : gb379 ≠ gb380));have n6_:=zMk ((by rw [hg];exact Nat.ne_of_gt (blk_lt (g:=gb379) (o:=.cells #[.int .i64 a0_0,.int .i64 a0_1] 89 (0,0)) (bs BK379)) : gb380 ≠ gb379));clear BK379;clear HB;have BK379:=n0_;have HB:=n1_;have BK380:=n2_;have GW380:=n3_;have GE380:=n4_;have NB379_380:=n5_;have NB380_379:=n6_;clear n0_ n1_ n2_ n3_ n4_ n5_ n6_;clear hb hbox hg;have hnb7:=NB379_380.out;have hnc7:=NB380_379.out;have hcz8_0 : w6.cell? ⟨gb379,0,none⟩ = some (.int .i64 a0_0):=(zCl BK379.out 0).trans rfl;have hcz8_1 : w6.cell? ⟨gb379,1,none⟩ = some (.int .i64 a0_1):=(zCl BK379.out 1).trans rfl;have hfz8_0:=zFr BK379.out 0;have hfz8_1:=zFr BK379.out 1;have hcz9_0 : w6.cell? ⟨gb380,0,none⟩ = some (.int .i64 a1_0):=(zCl BK380.out 0).trans rfl;have hcz9_1 : w6.cell? ⟨gb380,1,none⟩ = some (.int .i64 a1_1):=(zCl BK380.out 1).trans rfl;have hfz9_0:=zFr BK380.out 0;have hfz9_1:=zFr BK380.out 1))
 (try simp only [Act.put,zS1,zS2,zS3])
 by_cases c3 : a0_0 = a1_0
 ·rw [if_pos c3] at H;have c3b0 : (a0_0 == a1_0) = true:=beq_iff_eq.mpr c3;have c3b1 : (a0_0 != a1_0) = false:=bne_eq_false_iff_eq.mpr c3;clear c3
  (first | rw [c3b0] | rw [c3b1] | (simp only [i64_w,i32_w];rw [c3b0]) | skip)
  by_cases c4 : a0_1 = a1_1
  ·rw [if_pos c4] at H;have c4b0 : (a0_1 == a1_1) = true:=beq_iff_eq.mpr c4;have c4b1 : (a0_1 != a1_1) = false:=bne_eq_false_iff_eq.mpr c4;clear c4;obtain rfl:=Option.some.inj H
   go_wp2
   go_ret
   exact ⟨by first | rfl | (simp [errW_none,errW_some] <;> rfl) | (simp [*,errW_none,errW_some] <;> rfl),hs2 HB GE379 GE380⟩
  rw [if_neg c4] at H;have c4b0 : (a0_1 == a1_1) = false:=beq_eq_false_iff_ne.mpr c4;have c4b1 : (a0_1 != a1_1) = true:=bne_iff_ne.mpr c4;obtain rfl:=Option.some.inj H
  go_wp2
  go_ret
  exact ⟨by first | rfl | (simp [errW_none,errW_some] <;> rfl) | (simp [*,errW_none,errW_some] <;> rfl),hs2 HB GE379 GE380⟩
 rw [if_neg c3] at H;have c3b0 : (a0_0 == a1_0) = false:=beq_eq_false_iff_ne.mpr c3;have c3b1 : (a0_0 != a1_0) = true:=bne_iff_ne.mpr c3
 (first | rw [c3b0] | rw [c3b1] | (simp only [i64_w,i32_w];rw [c3b0]) | skip)
 obtain rfl:=Option.some.inj H
 go_wp2
 go_ret
 exact ⟨by first | rfl | (simp [errW_none,errW_some] <;> rfl) | (simp [*,errW_none,errW_some] <;> rfl),hs2 HB GE379 GE380⟩
def laws_eqVolS.l0 : Nat → List (S89) → List (S89) → Int → Option (Bool)
 | 0,_,_,_=>none
 | k + 1,x0,x1,x5=>if x5 < (x0.length : Int) then (if 0 ≤ x5 then (if x5 < (x1.length : Int) then ((laws_eqVol.f ((rd_T89 x0 x5).f0) ((rd_T89 x0 x5).f1) ((rd_T89 x1 x5).f0) ((rd_T89 x1 x5).f1)).bind fun t383=>(if t383 = true then (laws_eqVolS.l0 k x0 x1 (wrap64 (x5 + 1))) else (some false))) else (none)) else (none)) else (some true)
def laws_eqVolS.f (k : Nat) (l0 : List (S89)) (l1 : List (S89)) : Option (Bool):=if (l0.length : Int) = (l1.length : Int) then (laws_eqVolS.l0 k l0 l1 0) else (some false)
theorem laws_eqVolS.mono_l : ∀ k,(∀ y0 y1 y2,LeO (laws_eqVolS.l0 k y0 y1 y2) (laws_eqVolS.l0 (k + 1) y0 y1 y2))
 | 0=>fun _ _ _ r h=>by simp [laws_eqVolS.l0] at h
 | k + 1=>by
  have ih0:=laws_eqVolS.mono_l k;intro y0 y1 y2;unfold laws_eqVolS.l0
  repeat' first
  | (with_reducible exact ih0 _ _ _)
  | (with_reducible exact LeO.refl _)
  | (with_reducible exact LeO.none _)
  | (with_reducible refine LeO.ite ?_ ?_)
  | (with_reducible refine LeO.bind ?_ (fun _=>?_))
  | exact ih0 _ _ _
  | exact LeO.none _
  | refine LeO.ite ?_ ?_
  | refine LeO.bind ?_ (fun _=>?_)
theorem laws_eqVolS.mono : ∀ a0 a1 k,LeO (laws_eqVolS.f k a0 a1) (laws_eqVolS.f (k + 1) a0 a1):=by
 intro a0 a1 k;have ih0:=laws_eqVolS.mono_l k;unfold laws_eqVolS.f
 repeat' first
   | (with_reducible exact ih0 _ _ _)
   | (with_reducible exact LeO.refl _)
   | (with_reducible exact LeO.none _)
   | (with_reducible refine LeO.ite ?_ ?_)
   | (with_reducible refine LeO.bind ?_ (fun _=>?_))
   | exact ih0 _ _ _
   | exact LeO.none _
   | refine LeO.ite ?_ ?_
   | refine LeO.bind ?_ (fun _=>?_)
def laws_eqVolS.T6 : Bool × List (List Nat × List Nat):=(true,[([],[]),([],[]),([0,1],[0,1]),([2],[2]),([],[]),([],[]),([4,5],[4,5]),([6],[6]),([3,7],[3,7]),([8],[8])])
def laws_eqVolS.B6 : List Nat:=[0,0,3,7,0,0,48,112,255,511]
theorem laws_eqVolS.tab6 : rtab .any (opsOf Try.f50 6) = laws_eqVolS.T6:=by kernel_rfl
theorem laws_eqVolS.bits6 : waitsOk laws_eqVolS.T6.2 laws_eqVolS.B6 = true:=by kernel_rfl
set_option maxHeartbeats 8000000 in
set_option maxRecDepth 100000 in
theorem laws_eqVolS.calls (k : Nat) (A0 : Option Addr) (c0 : Nat) (l0 : List (S89)) (A1 : Option Addr) (c1 : Nat) (l1 : List (S89)) (r : Bool) (w : World) (hr0 : Kd.C k89 w A0 l0.length l0) (hc0 : l0.length ≤ c0) (hr1 : Kd.C k89 w A1 l1.length l1) (hc1 : l1.length ≤ c1) (h : laws_eqVolS.f k l0 l1 = some r) :
  Calls Try.prog 50 #[.slice A0 l0.length c0,.slice A1 l1.length c1] w fun e w'=>e = .returned (.bool r) ∧ Below w.heap.size w w':=by
 have hu89:=Try.underlying89;have HR0:=zMk hr0;have HC0:=zMk hc0;clear hr0 hc0;have HR1:=zMk hr1;have HC1:=zMk hc1;clear hr1 hc1;have HB:=zMk (Below.refl w.heap.size w);have H : (if (l0.length : Int) = (l1.length : Int) then (laws_eqVolS.l0 k l0 l1 0) else (some false)) = some r:=h;clear h
 by_cases c3 : (l0.length : Int) = (l1.length : Int)
 ·rw [if_pos c3] at H;have c3b0 : ((l0.length : Int) == (l1.length : Int)) = true:=beq_iff_eq.mpr c3;have c3b1 : ((l0.length : Int) != (l1.length : Int)) = false:=bne_eq_false_iff_eq.mpr c3;have c3b2 : (l0.length == l1.length) = true:=by first | simpa using c3 | (simp at c3 ⊢;omega)
  clear c3;have H':=zMk H;clear H
  go_enter Try.func50,Try.ntmps50
  go_wp2
  go_loopg [5] k (fun kq v5 w'=>∃ (x5_1 : Int),v5 = .int .i64 x5_1 ∧ Aside0 (laws_eqVolS.l0 kq l0 l1 x5_1 = some r) ∧ Aside0 (kq ≤ k) ∧ Aside0 (Below w.heap.size w w'));case atStart=>exact ⟨(0),(by first | rfl | (simp;done) | (simp [*];done)),H',⟨Nat.le_refl _⟩,⟨hs HB⟩⟩
  case round =>
   clear H'
   try clear c1
   try clear p2
   try clear c3
   try clear c3b0
   try clear c3b1
   try clear c3b2
   obtain ⟨x5_1,rfl,HA,HK1,HB⟩:=hrel;cases gk with
   | zero=>exact absurd HA.out (by simp [laws_eqVolS.l0])
   | succ k1 =>
    have H:=HA.out;clear HA;simp only [laws_eqVolS.l0] at H
    by_cases c4 : x5_1 < (l0.length : Int)
    ·rw [if_pos c4] at H;have c4b0 : decide (x5_1 < (l0.length : Int)) = true:=decide_eq_true c4;clear c4
     by_cases c5 : 0 ≤ x5_1
     ·rw [if_pos c5] at H;have c5b0 : decide (0 ≤ x5_1) = true:=decide_eq_true c5;clear c5
      by_cases c6 : x5_1 < (l1.length : Int)
      ·rw [if_pos c6] at H;have c6b0 : decide (x5_1 < (l1.length : Int)) = true:=decide_eq_true c6;clear c6;replace H:=Option.bind_eq_some_iff.mp H;obtain ⟨t383,A70,H⟩:=H;replace H : (if t383 = true then (laws_eqVolS.l0 k1 l0 l1 (wrap64 (x5_1 + 1))) else (some false)) = some r:=H;have A7:=zMk A70;clear A70
       by_cases c8 : t383 = true
       ·subst c8;have H1 : (laws_eqVolS.l0 k1 l0 l1 (wrap64 (x5_1 + 1))) = some r:=by rw [if_pos rfl] at H;exact H
        clear H;have H:=H1;clear H1;have H':=zMk H;clear H
        try go_wp2
        have n0_:=zMk (below_drew1 HB.out);clear HB;have HB:=n0_;clear n0_;have p381 : 0 ≤ (x5_1 : Int):=zDe (by first | (with_reducible assumption) | assumption);have q381 : x5_1 < (l0.length : Int):=zDe (by first | (with_reducible assumption) | assumption);obtain ⟨ad381,e381,hx381_0,hx381_1⟩:=at_T89 HR0.out x5_1 p381 q381;have hw381_1:=hx381_1;have hw381_0:=hx381_0;cases e381;replace hx381_0:=(HB.out.cell (zBl w _ hx381_0)).trans hx381_0;replace hx381_1:=(HB.out.cell (zBl w _ hx381_1)).trans hx381_1;replace p381:=eq_true p381;replace q381:=eq_true q381;have p382 : 0 ≤ (x5_1 : Int):=zDe (by first | (with_reducible assumption) | assumption);have q382 : x5_1 < (l1.length : Int):=zDe (by first | (with_reducible assumption) | assumption);obtain ⟨ad382,e382,hx382_0,hx382_1⟩:=at_T89 HR1.out x5_1 p382 q382;have hw382_1:=hx382_1;have hw382_0:=hx382_0;cases e382;replace hx382_0:=(HB.out.cell (zBl w _ hx382_0)).trans hx382_0;replace hx382_1:=(HB.out.cell (zBl w _ hx382_1)).trans hx382_1;replace p382:=eq_true p382;replace q382:=eq_true q382;refine start_ (n:=10) (S:=fun w'=>w'.cell? (ad381.add ((x5_1).toNat * 2)) = some (.int .i64 ((rd_T89 l0 x5_1).f0)) ∧ w'.cell? ⟨(ad381.add ((x5_1).toNat * 2)).block,(ad381.add ((x5_1).toNat * 2)).off + 1,none⟩ = some (.int .i64 ((rd_T89 l0 x5_1).f1)) ∧ w'.cell? (ad382.add ((x5_1).toNat * 2)) = some (.int .i64 ((rd_T89 l1 x5_1).f0)) ∧ w'.cell? ⟨(ad382.add ((x5_1).toNat * 2)).block,(ad382.add ((x5_1).toNat * 2)).off + 1,none⟩ = some (.int .i64 ((rd_T89 l1 x5_1).f1))) (ds:=[]) #[false,false,false,false,false,false,false,false,false,false] (by kernel_rfl) rfl rfl ⟨((HB.out.cell (zBl w _ hw381_0)).trans hw381_0),((HB.out.cell (zBl w _ hw381_1)).trans hw381_1),((HB.out.cell (zBl w _ hw382_0)).trans hw382_0),((HB.out.cell (zBl w _ hw382_1)).trans hw382_1)⟩ (fun hHeld=>?_);refine with_tabW laws_eqVolS.tab6 laws_eqVolS.bits6 (fun HT_ HW_=>?_);generalize wr.drew = w9 at HB hx381_0 hx381_1 hx382_0 hx382_1 hHeld ⊢;refine pure_ (i:=0) (N:=some 17) (v:=?_) (a':=?_) #[true,false,false,false,false,false,false,false,false,false] rfl rfl (any_of HT_.out (by kernel_rfl)) (fun _ _ _ h=>h) (Or.inl ⟨by rfl,?_⟩) ?_ ?_;rotate_left
        ·intro w';go_simp;with_reducible rfl
        rotate_left
        ·simp only [Act.put,zS1,zS2,zS3,i64_w,i32_w];rfl
        refine pure_ (i:=1) (N:=some 18) (v:=?_) (a':=?_) #[true,true,false,false,false,false,false,false,false,false] rfl rfl (any_of HT_.out (by kernel_rfl)) (fun _ _ _ h=>h) (Or.inl ⟨by rfl,?_⟩) ?_ ?_;rotate_left
        ·intro w';go_simp;with_reducible rfl
        rotate_left
        ·simp only [Act.put,zS1,zS2,zS3,i64_w,i32_w];rfl
        refine pure_ (i:=2) (N:=some 19) (v:=?_) (a':=?_) #[true,true,true,false,false,false,false,false,false,false] rfl rfl (any_of HT_.out (by kernel_rfl)) (fun _ _ _ h=>h) (Or.inl ⟨by rfl,?_⟩) ?_ ?_;rotate_left
        ·intro w';go_simp;with_reducible rfl
        rotate_left
        ·simp only [Act.put,zS1,zS2,zS3,i64_w,i32_w];rfl
        refine pure_ (i:=4) (N:=some 21) (v:=?_) (a':=?_) #[true,true,true,false,true,false,false,false,false,false] rfl rfl (any_of HT_.out (by kernel_rfl)) (fun _ _ _ h=>h) (Or.inl ⟨by rfl,?_⟩) ?_ ?_;rotate_left
        ·intro w';go_simp;with_reducible rfl
        rotate_left
        ·simp only [Act.put,zS1,zS2,zS3,i64_w,i32_w];rfl
        refine pure_ (i:=5) (N:=some 22) (v:=?_) (a':=?_) #[true,true,true,false,true,true,false,false,false,false] rfl rfl (any_of HT_.out (by kernel_rfl)) (fun _ _ _ h=>h) (Or.inl ⟨by rfl,?_⟩) ?_ ?_;rotate_left
        ·intro w';go_simp;with_reducible rfl
        rotate_left
        ·simp only [Act.put,zS1,zS2,zS3,i64_w,i32_w];rfl
        refine pure_ (i:=6) (N:=some 23) (v:=?_) (a':=?_) #[true,true,true,false,true,true,true,false,false,false] rfl rfl (any_of HT_.out (by kernel_rfl)) (fun _ _ _ h=>h) (Or.inl ⟨by rfl,?_⟩) ?_ ?_;rotate_left
        ·intro w';go_simp;with_reducible rfl
        rotate_left
        ·simp only [Act.put,zS1,zS2,zS3,i64_w,i32_w];rfl
        refine take_ (i:=3) (N:=some 20) (v:=?_) (a':=?_) #[true,true,true,true,true,true,true,false,false,false] rfl rfl (take_ofW HT_.out HW_.out (by kernel_rfl)) (fun _ _ _ h=>h) (Or.inl ⟨by rfl,?_⟩) hHeld ?_ ?_;rotate_left
        ·rintro w' ⟨s0,s1,s2,s3⟩;go_simp;with_reducible rfl
        rotate_left
        ·simp only [Act.put,zS1,zS2,zS3,i64_w,i32_w];rfl
        refine take_ (i:=7) (N:=some 24) (v:=?_) (a':=?_) #[true,true,true,true,true,true,true,true,false,false] rfl rfl (take_ofW HT_.out HW_.out (by kernel_rfl)) (fun _ _ _ h=>h) (Or.inl ⟨by rfl,?_⟩) hHeld ?_ ?_;rotate_left
        ·rintro w' ⟨s0,s1,s2,s3⟩;go_simp;with_reducible rfl
        rotate_left
        ·simp only [Act.put,zS1,zS2,zS3,i64_w,i32_w];rfl
        refine one_ (i:=8) (N:=some 25) #[true,true,true,true,true,true,true,true,true,false] rfl rfl (one_of HT_.out (by kernel_rfl)) (by decide) (fun K hK=>?_);refine goes_ Try.func82 (by kernel_rfl) rfl #[.agg #[.int .i64 ((rd_T89 l0 x5_1).f0),.int .i64 ((rd_T89 l0 x5_1).f1)],.agg #[.int .i64 ((rd_T89 l1 x5_1).f0),.int .i64 ((rd_T89 l1 x5_1).f1)]] (by rfl) rfl rfl (by (try simp only [List.map_toArray,List.map_cons,List.map_nil]);first | done | rfl | (simp only [List.length_drop,List.length_take];rfl)) ?_;with_reducible refine (laws_eqVol.calls ((rd_T89 l0 x5_1).f0) ((rd_T89 l0 x5_1).f1) ((rd_T89 l1 x5_1).f0) ((rd_T89 l1 x5_1).f1) true _ A7.out).mono ?_
        rintro e w10 ⟨rfl,hb⟩;refine ⟨_,rfl,?_⟩;have n0_:=zMk (below_step (hs HB) hb);clear HB;have HB:=n0_;clear n0_
        (try clear hb)
        (try clear hb2)
        (try clear hk)
        (try clear hi)
        refine hK.out _ _ ⟨((HB.out.cell (zBl w _ hw381_0)).trans hw381_0),((HB.out.cell (zBl w _ hw381_1)).trans hw381_1),((HB.out.cell (zBl w _ hw382_0)).trans hw382_0),((HB.out.cell (zBl w _ hw382_1)).trans hw382_1)⟩ (fun hHeld=>?_);clear hK K;refine norm_ (a':=?_) ?_ ?_;rotate_left
        ·show Act.put _ (some 25) _ = _;simp only [Act.put,zS1,zS2,zS3,i64_w,i32_w];rfl
        refine pure_ (i:=9) (N:=some 26) (v:=?_) (a':=?_) #[true,true,true,true,true,true,true,true,true,true] rfl rfl (any_of HT_.out (by kernel_rfl)) (fun _ _ _ h=>h) (Or.inl ⟨by rfl,?_⟩) ?_ ?_;rotate_left
        ·intro w';go_simp;with_reducible rfl
        rotate_left
        ·simp only [Act.put,zS1,zS2,zS3,i64_w,i32_w];rfl
        refine done_ (done_of HT_.out (by kernel_rfl)) ?_
        try go_wp2
        go_roundg k1;case measure=>have:=HK1.out;omega
        case rel=>exact ⟨(wrap64 (x5_1 + 1)),(by first | rfl | (simp;done) | (simp [*];done)),H',⟨by have:=HK1.out;omega⟩,⟨hs HB⟩⟩
       replace c8:=Bool.eq_false_iff.mpr c8;subst c8;have H1 : (some false) = some r:=by rw [if_neg (show ¬ (false = true) by decide)] at H;exact H
       clear H;have H:=H1;clear H1;obtain rfl:=Option.some.inj H
       try go_wp2
       have n0_:=zMk (below_drew1 HB.out);clear HB;have HB:=n0_;clear n0_;have p381 : 0 ≤ (x5_1 : Int):=zDe (by first | (with_reducible assumption) | assumption);have q381 : x5_1 < (l0.length : Int):=zDe (by first | (with_reducible assumption) | assumption);obtain ⟨ad381,e381,hx381_0,hx381_1⟩:=at_T89 HR0.out x5_1 p381 q381;have hw381_1:=hx381_1;have hw381_0:=hx381_0;cases e381;replace hx381_0:=(HB.out.cell (zBl w _ hx381_0)).trans hx381_0;replace hx381_1:=(HB.out.cell (zBl w _ hx381_1)).trans hx381_1;replace p381:=eq_true p381;replace q381:=eq_true q381;have p382 : 0 ≤ (x5_1 : Int):=zDe (by first | (with_reducible assumption) | assumption);have q382 : x5_1 < (l1.length : Int):=zDe (by first | (with_reducible assumption) | assumption);obtain ⟨ad382,e382,hx382_0,hx382_1⟩:=at_T89 HR1.out x5_1 p382 q382;have hw382_1:=hx382_1;have hw382_0:=hx382_0;cases e382;replace hx382_0:=(HB.out.cell (zBl w _ hx382_0)).trans hx382_0;replace hx382_1:=(HB.out.cell (zBl w _ hx382_1)).trans hx382_1;replace p382:=eq_true p382;replace q382:=eq_true q382;refine start_ (n:=10) (S:=fun w'=>w'.cell? (ad381.add ((x5_1).toNat * 2)) = some (.int .i64 ((rd_T89 l0 x5_1).f0)) ∧ w'.cell? ⟨(ad381.add ((x5_1).toNat * 2)).block,(ad381.add ((x5_1).toNat * 2)).off + 1,none⟩ = some (.int .i64 ((rd_T89 l0 x5_1).f1)) ∧ w'.cell? (ad382.add ((x5_1).toNat * 2)) = some (.int .i64 ((rd_T89 l1 x5_1).f0)) ∧ w'.cell? ⟨(ad382.add ((x5_1).toNat * 2)).block,(ad382.add ((x5_1).toNat * 2)).off + 1,none⟩ = some (.int .i64 ((rd_T89 l1 x5_1).f1))) (ds:=[]) #[false,false,false,false,false,false,false,false,false,false] (by kernel_rfl) rfl rfl ⟨((HB.out.cell (zBl w _ hw381_0)).trans hw381_0),((HB.out.cell (zBl w _ hw381_1)).trans hw381_1),((HB.out.cell (zBl w _ hw382_0)).trans hw382_0),((HB.out.cell (zBl w _ hw382_1)).trans hw382_1)⟩ (fun hHeld=>?_);refine with_tabW laws_eqVolS.tab6 laws_eqVolS.bits6 (fun HT_ HW_=>?_);generalize wr.drew = w11 at HB hx381_0 hx381_1 hx382_0 hx382_1 hHeld ⊢;refine pure_ (i:=0) (N:=some 17) (v:=?_) (a':=?_) #[true,false,false,false,false,false,false,false,false,false] rfl rfl (any_of HT_.out (by kernel_rfl)) (fun _ _ _ h=>h) (Or.inl ⟨by rfl,?_⟩) ?_ ?_;rotate_left
       ·intro w';go_simp;with_reducible rfl
       rotate_left
       ·simp only [Act.put,zS1,zS2,zS3,i64_w,i32_w];rfl
       refine pure_ (i:=1) (N:=some 18) (v:=?_) (a':=?_) #[true,true,false,false,false,false,false,false,false,false] rfl rfl (any_of HT_.out (by kernel_rfl)) (fun _ _ _ h=>h) (Or.inl ⟨by rfl,?_⟩) ?_ ?_;rotate_left
       ·intro w';go_simp;with_reducible rfl
       rotate_left
       ·simp only [Act.put,zS1,zS2,zS3,i64_w,i32_w];rfl
       refine pure_ (i:=2) (N:=some 19) (v:=?_) (a':=?_) #[true,true,true,false,false,false,false,false,false,false] rfl rfl (any_of HT_.out (by kernel_rfl)) (fun _ _ _ h=>h) (Or.inl ⟨by rfl,?_⟩) ?_ ?_;rotate_left
       ·intro w';go_simp;with_reducible rfl
       rotate_left
       ·simp only [Act.put,zS1,zS2,zS3,i64_w,i32_w];rfl
       refine pure_ (i:=4) (N:=some 21) (v:=?_) (a':=?_) #[true,true,true,false,true,false,false,false,false,false] rfl rfl (any_of HT_.out (by kernel_rfl)) (fun _ _ _ h=>h) (Or.inl ⟨by rfl,?_⟩) ?_ ?_;rotate_left
       ·intro w';go_simp;with_reducible rfl
       rotate_left
       ·simp only [Act.put,zS1,zS2,zS3,i64_w,i32_w];rfl
       refine pure_ (i:=5) (N:=some 22) (v:=?_) (a':=?_) #[true,true,true,false,true,true,false,false,false,false] rfl rfl (any_of HT_.out (by kernel_rfl)) (fun _ _ _ h=>h) (Or.inl ⟨by rfl,?_⟩) ?_ ?_;rotate_left
       ·intro w';go_simp;with_reducible rfl
       rotate_left
       ·simp only [Act.put,zS1,zS2,zS3,i64_w,i32_w];rfl
       refine pure_ (i:=6) (N:=some 23) (v:=?_) (a':=?_) #[true,true,true,false,true,true,true,false,false,false] rfl rfl (any_of HT_.out (by kernel_rfl)) (fun _ _ _ h=>h) (Or.inl ⟨by rfl,?_⟩) ?_ ?_;rotate_left
       ·intro w';go_simp;with_reducible rfl
       rotate_left
       ·simp only [Act.put,zS1,zS2,zS3,i64_w,i32_w];rfl
       refine take_ (i:=3) (N:=some 20) (v:=?_) (a':=?_) #[true,true,true,true,true,true,true,false,false,false] rfl rfl (take_ofW HT_.out HW_.out (by kernel_rfl)) (fun _ _ _ h=>h) (Or.inl ⟨by rfl,?_⟩) hHeld ?_ ?_;rotate_left
       ·rintro w' ⟨s0,s1,s2,s3⟩;go_simp;with_reducible rfl
       rotate_left
       ·simp only [Act.put,zS1,zS2,zS3,i64_w,i32_w];rfl
       refine take_ (i:=7) (N:=some 24) (v:=?_) (a':=?_) #[true,true,true,true,true,true,true,true,false,false] rfl rfl (take_ofW HT_.out HW_.out (by kernel_rfl)) (fun _ _ _ h=>h) (Or.inl ⟨by rfl,?_⟩) hHeld ?_ ?_;rotate_left
       ·rintro w' ⟨s0,s1,s2,s3⟩;go_simp;with_reducible rfl
       rotate_left
       ·simp only [Act.put,zS1,zS2,zS3,i64_w,i32_w];rfl
       refine one_ (i:=8) (N:=some 25) #[true,true,true,true,true,true,true,true,true,false] rfl rfl (one_of HT_.out (by kernel_rfl)) (by decide) (fun K hK=>?_);refine goes_ Try.func82 (by kernel_rfl) rfl #[.agg #[.int .i64 ((rd_T89 l0 x5_1).f0),.int .i64 ((rd_T89 l0 x5_1).f1)],.agg #[.int .i64 ((rd_T89 l1 x5_1).f0),.int .i64 ((rd_T89 l1 x5_1).f1)]] (by rfl) rfl rfl (by (try simp only [List.map_toArray,List.map_cons,List.map_nil]);first | done | rfl | (simp only [List.length_drop,List.length_take];rfl)) ?_;with_reducible refine (laws_eqVol.calls ((rd_T89 l0 x5_1).f0) ((rd_T89 l0 x5_1).f1) ((rd_T89 l1 x5_1).f0) ((rd_T89 l1 x5_1).f1) false _ A7.out).mono ?_
       rintro e w12 ⟨rfl,hb⟩;refine ⟨_,rfl,?_⟩;have n0_:=zMk (below_step (hs HB) hb);clear HB;have HB:=n0_;clear n0_
       (try clear hb)
       (try clear hb2)
       (try clear hk)
       (try clear hi)
       refine hK.out _ _ ⟨((HB.out.cell (zBl w _ hw381_0)).trans hw381_0),((HB.out.cell (zBl w _ hw381_1)).trans hw381_1),((HB.out.cell (zBl w _ hw382_0)).trans hw382_0),((HB.out.cell (zBl w _ hw382_1)).trans hw382_1)⟩ (fun hHeld=>?_);clear hK K;refine norm_ (a':=?_) ?_ ?_;rotate_left
       ·show Act.put _ (some 25) _ = _;simp only [Act.put,zS1,zS2,zS3,i64_w,i32_w];rfl
       refine pure_ (i:=9) (N:=some 26) (v:=?_) (a':=?_) #[true,true,true,true,true,true,true,true,true,true] rfl rfl (any_of HT_.out (by kernel_rfl)) (fun _ _ _ h=>h) (Or.inl ⟨by rfl,?_⟩) ?_ ?_;rotate_left
       ·intro w';go_simp;with_reducible rfl
       rotate_left
       ·simp only [Act.put,zS1,zS2,zS3,i64_w,i32_w];rfl
       refine done_ (done_of HT_.out (by kernel_rfl)) ?_
       try go_wp2
       go_ret
       exact ⟨by first | rfl | (simp [errW_none,errW_some] <;> rfl) | (simp [*,errW_none,errW_some] <;> rfl),hs HB⟩
      rw [if_neg c6] at H;exact absurd H (by simp)
     rw [if_neg c5] at H;exact absurd H (by simp)
    rw [if_neg c4] at H;have c4b0 : decide (x5_1 < (l0.length : Int)) = false:=decide_eq_false c4;clear c4;obtain rfl:=Option.some.inj H
    go_wp2
    go_ret
    exact ⟨by first | rfl | (simp [errW_none,errW_some] <;> rfl) | (simp [*,errW_none,errW_some] <;> rfl),hs HB⟩
 rw [if_neg c3] at H;have c3b0 : ((l0.length : Int) == (l1.length : Int)) = false:=beq_eq_false_iff_ne.mpr c3;have c3b1 : ((l0.length : Int) != (l1.length : Int)) = true:=bne_iff_ne.mpr c3;have c3b2 : (l0.length == l1.length) = false:=by first | simpa using c3 | (simp at c3 ⊢;omega)
 obtain rfl:=Option.some.inj H
 go_enter Try.func50,Try.ntmps50
 go_wp2
 go_ret
 exact ⟨by first | rfl | (simp [errW_none,errW_some] <;> rfl) | (simp [*,errW_none,errW_some] <;> rfl),hs HB⟩
def laws_eqKnot.f (k : Nat) (a0_0 : Bool) (l0_1 : List Int) (a1_0 : Bool) (l1_1 : List Int) : Option (Bool):=if (a0_0 != a1_0) = true then (some false) else ((laws_eqIntS.f k l0_1 l1_1).bind fun t386=>(if t386 = true then (some true) else (some false)))
theorem laws_eqKnot.mono : ∀ a0 a1 a2 a3 k,LeO (laws_eqKnot.f k a0 a1 a2 a3) (laws_eqKnot.f (k + 1) a0 a1 a2 a3):=by
 intro a0 a1 a2 a3 k;unfold laws_eqKnot.f
 repeat' first
   | (with_reducible exact laws_eqIntS.mono _ _ _)
   | (with_reducible exact LeO.refl _)
   | (with_reducible exact LeO.none _)
   | (with_reducible refine LeO.ite ?_ ?_)
   | (with_reducible refine LeO.bind ?_ (fun _=>?_))
   | exact laws_eqIntS.mono _ _ _
   | exact LeO.none _
   | refine LeO.ite ?_ ?_
   | refine LeO.bind ?_ (fun _=>?_)
set_option maxHeartbeats 8000000 in
set_option maxRecDepth 100000 in
theorem laws_eqKnot.calls (k : Nat) (a0_0 : Bool) (A0_1 : Option Addr) (c0_1 : Nat) (l0_1 : List Int) (a1_0 : Bool) (A1_1 : Option Addr) (c1_1 : Nat) (l1_1 : List Int) (r : Bool) (w : World) (hr0_1 : Kd.C (Kd.int .i64) w A0_1 l0_1.length l0_1) (hc0_1 : l0_1.length ≤ c0_1) (hr1_1 : Kd.C (Kd.int .i64) w A1_1 l1_1.length l1_1) (hc1_1 : l1_1.length ≤ c1_1) (h : laws_eqKnot.f k a0_0 l0_1 a1_0 l1_1 = some r) :
  Calls Try.prog 106 #[.agg #[.bool a0_0,.slice A0_1 l0_1.length c0_1],.agg #[.bool a1_0,.slice A1_1 l1_1.length c1_1]] w fun e w'=>e = .returned (.bool r) ∧ Below w.heap.size w w':=by
 have hu147:=Try.underlying147;have HR0_1:=zMk hr0_1;have HC0_1:=zMk hc0_1;clear hr0_1 hc0_1;have HR1_1:=zMk hr1_1;have HC1_1:=zMk hc1_1;clear hr1_1 hc1_1;have HB:=zMk (Below.refl w.heap.size w);have H : (if (a0_0 != a1_0) = true then (some false) else ((laws_eqIntS.f k l0_1 l1_1).bind fun t386=>(if t386 = true then (some true) else (some false)))) = some r:=h;clear h
 go_enter Try.func106,Try.ntmps106
 go_upto_if 9 with (first | ((with_reducible refine gate_dst (N:=2) rfl ?_);refine box_event ?hg (N:=2) ?hd (cs:=#[.bool a0_0,.slice A0_1 l0_1.length c0_1]) (t:=147) ?hr ?_;(case hd=>rfl);(case hg=>rfl);(case hr=>first | (go_simp;done) | (go_simp;rfl));intro gb384 hg w4 hbox hb;have n0_:=zMk (below_step (hs HB) hb);have n1_:=zMk (hbox);have n2_:=zMk ((by rw [hg];exact (below_size (hs HB)) : w.heap.size ≤ gb384));have n3_:=zMk ((by rw [hg];exact (below_size (hs HB)) : w.heap.size ≤ gb384));clear HB;have HB:=n0_;have BK384:=n1_;have GW384:=n2_;have GE384:=n3_;clear n0_ n1_ n2_ n3_;clear hb hbox hg) | ((with_reducible refine gate_dst (N:=3) rfl ?_);refine box_event ?hg (N:=3) ?hd (cs:=#[.bool a1_0,.slice A1_1 l1_1.length c1_1]) (t:=147) ?hr ?_;(case hd=>rfl);(case hg=>rfl);(case hr=>first | (go_simp;done) | (go_simp;rfl));intro gb385 hg w5 hbox hb;have n0_:=zMk (blk_below (g:=gb384) (o:=.cells #[.bool a0_0,.slice A0_1 l0_1.length c0_1] 147 (0,0)) (bs BK384) hb);have n1_:=zMk (below_step (hs1 HB GE384) hb);have n2_:=zMk (hbox);have n3_:=zMk ((by rw [hg];exact (below_size (hs1 HB GE384)) : w.heap.size ≤ gb385));have n4_:=zMk ((by rw [hg];exact (below_size (hs1 HB GE384)) : w.heap.size ≤ gb385));have n5_:=zMk ((by rw [hg];exact Nat.ne_of_lt (blk_lt (g:=gb384) (o:=.cells #[.bool a0_0,.slice A0_1 l0_1.length c0_1] 147 (0,0)) (bs BK384)) : gb384 ≠ gb385));have n6_:=zMk ((by rw [hg];exact Nat.ne_of_gt (blk_lt (g:=gb384) (o:=.cells #[.bool a0_0,.slice A0_1 l0_1.length c0_1] 147 (0,0)) (bs BK384)) : gb385 ≠ gb384));clear BK384;clear HB;have BK384:=n0_;have HB:=n1_;have BK385:=n2_;have GW385:=n3_;have GE385:=n4_;have NB384_385:=n5_;have NB385_384:=n6_;clear n0_ n1_ n2_ n3_ n4_ n5_ n6_;clear hb hbox hg;have hnb6:=NB384_385.out;have hnc6:=NB385_384.out;have hcz7_0 : w5.cell? ⟨gb384,0,none⟩ = some (.bool a0_0):=(zCl BK384.out 0).trans rfl;have hcz7_1 : w5.cell? ⟨gb384,1,none⟩ = some (.slice A0_1 l0_1.length c0_1):=(zCl BK384.out 1).trans rfl;have hfz7_0:=zFr BK384.out 0;have hfz7_1:=zFr BK384.out 1;have hcz8_0 : w5.cell? ⟨gb385,0,none⟩ = some (.bool a1_0):=(zCl BK385.out 0).trans rfl;have hcz8_1 : w5.cell? ⟨gb385,1,none⟩ = some (.slice A1_1 l1_1.length c1_1):=(zCl BK385.out 1).trans rfl;have hfz8_0:=zFr BK385.out 0;have hfz8_1:=zFr BK385.out 1))
 (try simp only [Act.put,zS1,zS2,zS3])
 by_cases c3 : (a0_0 != a1_0) = true
 ·rw [if_pos c3] at H;have c3b0 : (a0_0 != a1_0) = true:=c3
  (try (have c3b1 : decide (a0_0 = a1_0) = false:=by simpa using c3))
  (try (have c3b2 : (a0_0 == a1_0) = false:=by simpa using c3))
  (try (have c3b3 : ¬ (a0_0 = a1_0):=by simpa using c3))
  clear c3
  (first | rw [c3b0] | rw [c3b1] | rw [c3b2] | rw [c3b3] | (simp only [i64_w,i32_w];rw [c3b0]) | skip)
  obtain rfl:=Option.some.inj H
  go_wp2
  go_ret
  exact ⟨by first | rfl | (simp [errW_none,errW_some] <;> rfl) | (simp [*,errW_none,errW_some] <;> rfl),hs2 HB GE384 GE385⟩
 rw [if_neg c3] at H;have c3b0 : (a0_0 != a1_0) = false:=by simpa using c3
 (try (have c3b1 : decide (a0_0 = a1_0) = true:=by simpa using c3))
 (try (have c3b2 : (a0_0 == a1_0) = true:=by simpa using c3))
 clear c3
 (first | rw [c3b0] | rw [c3b1] | rw [c3b2] | (simp only [i64_w,i32_w];rw [c3b0]) | skip)
 replace H:=Option.bind_eq_some_iff.mp H;obtain ⟨t386,A90,H⟩:=H;replace H : (if t386 = true then (some true) else (some false)) = some r:=H;have A9:=zMk A90;clear A90
 go_upto_if 15 with (first | ((with_reducible refine gate_callee (f:=12) rfl ?_);refine goesL_ (some 14) rfl rfl Try.func12 (by kernel_rfl) rfl #[.slice A0_1 l0_1.length c0_1,.slice A1_1 l1_1.length c1_1] rfl (by (try simp only [List.map_toArray,List.map_cons,List.map_nil]);first | done | rfl | (simp only [List.length_drop,List.length_take];rfl)) ?_;(with_reducible refine (laws_eqIntS.calls k _ _ l0_1 _ _ l1_1 t386 _ ?side1 ?side2 ?side3 ?side4 A9.out).mono ?_);(case side1=>repeat (first | exact (Kd.C_below HR0_1.out HB.out) | (with_reducible refine Kd.C_alloc ?_ _) | (with_reducible refine Kd.C_drewN ?_ _) | (with_reducible refine Kd.C_drew ?_)));(case side2=>exact HC0_1.out);(case side3=>repeat (first | exact (Kd.C_below HR1_1.out HB.out) | (with_reducible refine Kd.C_alloc ?_ _) | (with_reducible refine Kd.C_drewN ?_ _) | (with_reducible refine Kd.C_drew ?_)));(case side4=>exact HC1_1.out);rintro e w' ⟨rfl,⟨nd,rfl⟩⟩;refine ⟨_,rfl,?_⟩))
 (try simp only [Act.put,zS1,zS2,zS3])
 by_cases c10 : t386 = true
 ·subst c10;have H1 : (some true) = some r:=by rw [if_pos rfl] at H;exact H
  clear H;have H:=H1;clear H1;obtain rfl:=Option.some.inj H
  go_wp2
  go_ret
  exact ⟨by first | rfl | (simp [errW_none,errW_some] <;> rfl) | (simp [*,errW_none,errW_some] <;> rfl),hs2 HB GE384 GE385⟩
 replace c10:=Bool.eq_false_iff.mpr c10;subst c10;have H1 : (some false) = some r:=by rw [if_neg (show ¬ (false = true) by decide)] at H;exact H
 clear H;have H:=H1;clear H1;obtain rfl:=Option.some.inj H
 go_wp2
 go_ret
 exact ⟨by first | rfl | (simp [errW_none,errW_some] <;> rfl) | (simp [*,errW_none,errW_some] <;> rfl),hs2 HB GE384 GE385⟩
def laws_eqKnotS.l0 : Nat → List (S147) → List (S147) → Int → Option (Bool)
 | 0,_,_,_=>none
 | k + 1,x0,x1,x5=>if x5 < (x0.length : Int) then (if 0 ≤ x5 then (if x5 < (x1.length : Int) then ((laws_eqKnot.f k ((rd_T147 x0 x5).f0) ((rd_T147 x0 x5).f1) ((rd_T147 x1 x5).f0) ((rd_T147 x1 x5).f1)).bind fun t389=>(if t389 = true then (laws_eqKnotS.l0 k x0 x1 (wrap64 (x5 + 1))) else (some false))) else (none)) else (none)) else (some true)
def laws_eqKnotS.f (k : Nat) (l0 : List (S147)) (l1 : List (S147)) : Option (Bool):=if (l0.length : Int) = (l1.length : Int) then (laws_eqKnotS.l0 k l0 l1 0) else (some false)
theorem laws_eqKnotS.mono_l : ∀ k,(∀ y0 y1 y2,LeO (laws_eqKnotS.l0 k y0 y1 y2) (laws_eqKnotS.l0 (k + 1) y0 y1 y2))
 | 0=>fun _ _ _ r h=>by simp [laws_eqKnotS.l0] at h
 | k + 1=>by
  have ih0:=laws_eqKnotS.mono_l k;intro y0 y1 y2;unfold laws_eqKnotS.l0
  repeat' first
  | (with_reducible exact ih0 _ _ _)
  | (with_reducible exact laws_eqKnot.mono _ _ _ _ _)
  | (with_reducible exact LeO.refl _)
  | (with_reducible exact LeO.none _)
  | (with_reducible refine LeO.ite ?_ ?_)
  | (with_reducible refine LeO.bind ?_ (fun _=>?_))
  | exact ih0 _ _ _
  | exact laws_eqKnot.mono _ _ _ _ _
  | exact LeO.none _
  | refine LeO.ite ?_ ?_
  | refine LeO.bind ?_ (fun _=>?_)
theorem laws_eqKnotS.mono : ∀ a0 a1 k,LeO (laws_eqKnotS.f k a0 a1) (laws_eqKnotS.f (k + 1) a0 a1):=by
 intro a0 a1 k;have ih0:=laws_eqKnotS.mono_l k;unfold laws_eqKnotS.f
 repeat' first
   | (with_reducible exact ih0 _ _ _)
   | (with_reducible exact laws_eqKnot.mono _ _ _ _ _)
   | (with_reducible exact LeO.refl _)
   | (with_reducible exact LeO.none _)
   | (with_reducible refine LeO.ite ?_ ?_)
   | (with_reducible refine LeO.bind ?_ (fun _=>?_))
   | exact ih0 _ _ _
   | exact laws_eqKnot.mono _ _ _ _ _
   | exact LeO.none _
   | refine LeO.ite ?_ ?_
   | refine LeO.bind ?_ (fun _=>?_)
def laws_eqKnotS.T6 : Bool × List (List Nat × List Nat):=(true,[([],[]),([],[]),([0,1],[0,1]),([2],[2]),([],[]),([],[]),([4,5],[4,5]),([6],[6]),([3,7],[3,7]),([8],[8])])
def laws_eqKnotS.B6 : List Nat:=[0,0,3,7,0,0,48,112,255,511]
theorem laws_eqKnotS.tab6 : rtab .any (opsOf Try.f83 6) = laws_eqKnotS.T6:=by kernel_rfl
theorem laws_eqKnotS.bits6 : waitsOk laws_eqKnotS.T6.2 laws_eqKnotS.B6 = true:=by kernel_rfl
set_option maxHeartbeats 8000000 in
set_option maxRecDepth 100000 in
theorem laws_eqKnotS.calls (k : Nat) (A0 : Option Addr) (c0 : Nat) (l0 : List (S147)) (A1 : Option Addr) (c1 : Nat) (l1 : List (S147)) (r : Bool) (w : World) (hr0 : Kd.C k147 w A0 l0.length l0) (hc0 : l0.length ≤ c0) (hr1 : Kd.C k147 w A1 l1.length l1) (hc1 : l1.length ≤ c1) (h : laws_eqKnotS.f k l0 l1 = some r) :
  Calls Try.prog 83 #[.slice A0 l0.length c0,.slice A1 l1.length c1] w fun e w'=>e = .returned (.bool r) ∧ Below w.heap.size w w':=by
 have hu147:=Try.underlying147;have HR0:=zMk hr0;have HC0:=zMk hc0;clear hr0 hc0;have HR1:=zMk hr1;have HC1:=zMk hc1;clear hr1 hc1;have HB:=zMk (Below.refl w.heap.size w);have H : (if (l0.length : Int) = (l1.length : Int) then (laws_eqKnotS.l0 k l0 l1 0) else (some false)) = some r:=h;clear h
 by_cases c3 : (l0.length : Int) = (l1.length : Int)
 ·rw [if_pos c3] at H;have c3b0 : ((l0.length : Int) == (l1.length : Int)) = true:=beq_iff_eq.mpr c3;have c3b1 : ((l0.length : Int) != (l1.length : Int)) = false:=bne_eq_false_iff_eq.mpr c3;have c3b2 : (l0.length == l1.length) = true:=by first | simpa using c3 | (simp at c3 ⊢;omega)
  clear c3;have H':=zMk H;clear H
  go_enter Try.func83,Try.ntmps83
  go_wp2
  go_loopg [5] k (fun kq v5 w'=>∃ (x5_1 : Int),v5 = .int .i64 x5_1 ∧ Aside0 (laws_eqKnotS.l0 kq l0 l1 x5_1 = some r) ∧ Aside0 (kq ≤ k) ∧ Aside0 (Below w.heap.size w w'));case atStart=>exact ⟨(0),(by first | rfl | (simp;done) | (simp [*];done)),H',⟨Nat.le_refl _⟩,⟨hs HB⟩⟩
  case round =>
   clear H'
   try clear c1
   try clear p2
   try clear c3
   try clear c3b0
   try clear c3b1
   try clear c3b2
   obtain ⟨x5_1,rfl,HA,HK1,HB⟩:=hrel;cases gk with
   | zero=>exact absurd HA.out (by simp [laws_eqKnotS.l0])
   | succ k1 =>
    have H:=HA.out;clear HA;simp only [laws_eqKnotS.l0] at H
    by_cases c4 : x5_1 < (l0.length : Int)
    ·rw [if_pos c4] at H;have c4b0 : decide (x5_1 < (l0.length : Int)) = true:=decide_eq_true c4;clear c4
     by_cases c5 : 0 ≤ x5_1
     ·rw [if_pos c5] at H;have c5b0 : decide (0 ≤ x5_1) = true:=decide_eq_true c5;clear c5
      by_cases c6 : x5_1 < (l1.length : Int)
      ·rw [if_pos c6] at H;have c6b0 : decide (x5_1 < (l1.length : Int)) = true:=decide_eq_true c6;clear c6;replace H:=Option.bind_eq_some_iff.mp H;obtain ⟨t389,A70,H⟩:=H;replace H : (if t389 = true then (laws_eqKnotS.l0 k1 l0 l1 (wrap64 (x5_1 + 1))) else (some false)) = some r:=H;have A7:=zMk A70;clear A70
       by_cases c8 : t389 = true
       ·subst c8;have H1 : (laws_eqKnotS.l0 k1 l0 l1 (wrap64 (x5_1 + 1))) = some r:=by rw [if_pos rfl] at H;exact H
        clear H;have H:=H1;clear H1;have H':=zMk H;clear H
        try go_wp2
        have n0_:=zMk (below_drew1 HB.out);clear HB;have HB:=n0_;clear n0_;have p387 : 0 ≤ (x5_1 : Int):=zDe (by first | (with_reducible assumption) | assumption);have q387 : x5_1 < (l0.length : Int):=zDe (by first | (with_reducible assumption) | assumption);obtain ⟨ad387,A387_1,c387_1,e387,hx387_0,hx387_1,hl387_1,hi387_1⟩:=at_T147 HR0.out x5_1 p387 q387;have hw387_1:=hx387_1;have hw387_0:=hx387_0;cases e387;replace hx387_0:=(HB.out.cell (zBl w _ hx387_0)).trans hx387_0;replace hx387_1:=(HB.out.cell (zBl w _ hx387_1)).trans hx387_1;have HR387_1:=zMk hi387_1;have HC387_1:=zMk hl387_1;clear hi387_1 hl387_1;replace p387:=eq_true p387;replace q387:=eq_true q387;have p388 : 0 ≤ (x5_1 : Int):=zDe (by first | (with_reducible assumption) | assumption);have q388 : x5_1 < (l1.length : Int):=zDe (by first | (with_reducible assumption) | assumption);obtain ⟨ad388,A388_1,c388_1,e388,hx388_0,hx388_1,hl388_1,hi388_1⟩:=at_T147 HR1.out x5_1 p388 q388;have hw388_1:=hx388_1;have hw388_0:=hx388_0;cases e388;replace hx388_0:=(HB.out.cell (zBl w _ hx388_0)).trans hx388_0;replace hx388_1:=(HB.out.cell (zBl w _ hx388_1)).trans hx388_1;have HR388_1:=zMk hi388_1;have HC388_1:=zMk hl388_1;clear hi388_1 hl388_1;replace p388:=eq_true p388;replace q388:=eq_true q388;refine start_ (n:=10) (S:=fun w'=>w'.cell? (ad387.add ((x5_1).toNat * 2)) = some (.bool ((rd_T147 l0 x5_1).f0)) ∧ w'.cell? ⟨(ad387.add ((x5_1).toNat * 2)).block,(ad387.add ((x5_1).toNat * 2)).off + 1,none⟩ = some (.slice A387_1 ((rd_T147 l0 x5_1).f1).length c387_1) ∧ w'.cell? (ad388.add ((x5_1).toNat * 2)) = some (.bool ((rd_T147 l1 x5_1).f0)) ∧ w'.cell? ⟨(ad388.add ((x5_1).toNat * 2)).block,(ad388.add ((x5_1).toNat * 2)).off + 1,none⟩ = some (.slice A388_1 ((rd_T147 l1 x5_1).f1).length c388_1)) (ds:=[]) #[false,false,false,false,false,false,false,false,false,false] (by kernel_rfl) rfl rfl ⟨((HB.out.cell (zBl w _ hw387_0)).trans hw387_0),((HB.out.cell (zBl w _ hw387_1)).trans hw387_1),((HB.out.cell (zBl w _ hw388_0)).trans hw388_0),((HB.out.cell (zBl w _ hw388_1)).trans hw388_1)⟩ (fun hHeld=>?_);refine with_tabW laws_eqKnotS.tab6 laws_eqKnotS.bits6 (fun HT_ HW_=>?_);generalize wr.drew = w9 at HB HR387_1 HR388_1 hx387_0 hx387_1 hx388_0 hx388_1 hHeld ⊢;refine pure_ (i:=0) (N:=some 17) (v:=?_) (a':=?_) #[true,false,false,false,false,false,false,false,false,false] rfl rfl (any_of HT_.out (by kernel_rfl)) (fun _ _ _ h=>h) (Or.inl ⟨by rfl,?_⟩) ?_ ?_;rotate_left
        ·intro w';go_simp;with_reducible rfl
        rotate_left
        ·simp only [Act.put,zS1,zS2,zS3,i64_w,i32_w];rfl
        refine pure_ (i:=1) (N:=some 18) (v:=?_) (a':=?_) #[true,true,false,false,false,false,false,false,false,false] rfl rfl (any_of HT_.out (by kernel_rfl)) (fun _ _ _ h=>h) (Or.inl ⟨by rfl,?_⟩) ?_ ?_;rotate_left
        ·intro w';go_simp;with_reducible rfl
        rotate_left
        ·simp only [Act.put,zS1,zS2,zS3,i64_w,i32_w];rfl
        refine pure_ (i:=2) (N:=some 19) (v:=?_) (a':=?_) #[true,true,true,false,false,false,false,false,false,false] rfl rfl (any_of HT_.out (by kernel_rfl)) (fun _ _ _ h=>h) (Or.inl ⟨by rfl,?_⟩) ?_ ?_;rotate_left
        ·intro w';go_simp;with_reducible rfl
        rotate_left
        ·simp only [Act.put,zS1,zS2,zS3,i64_w,i32_w];rfl
        refine pure_ (i:=4) (N:=some 21) (v:=?_) (a':=?_) #[true,true,true,false,true,false,false,false,false,false] rfl rfl (any_of HT_.out (by kernel_rfl)) (fun _ _ _ h=>h) (Or.inl ⟨by rfl,?_⟩) ?_ ?_;rotate_left
        ·intro w';go_simp;with_reducible rfl
        rotate_left
        ·simp only [Act.put,zS1,zS2,zS3,i64_w,i32_w];rfl
        refine pure_ (i:=5) (N:=some 22) (v:=?_) (a':=?_) #[true,true,true,false,true,true,false,false,false,false] rfl rfl (any_of HT_.out (by kernel_rfl)) (fun _ _ _ h=>h) (Or.inl ⟨by rfl,?_⟩) ?_ ?_;rotate_left
        ·intro w';go_simp;with_reducible rfl
        rotate_left
        ·simp only [Act.put,zS1,zS2,zS3,i64_w,i32_w];rfl
        refine pure_ (i:=6) (N:=some 23) (v:=?_) (a':=?_) #[true,true,true,false,true,true,true,false,false,false] rfl rfl (any_of HT_.out (by kernel_rfl)) (fun _ _ _ h=>h) (Or.inl ⟨by rfl,?_⟩) ?_ ?_;rotate_left
        ·intro w';go_simp;with_reducible rfl
        rotate_left
        ·simp only [Act.put,zS1,zS2,zS3,i64_w,i32_w];rfl
        refine take_ (i:=3) (N:=some 20) (v:=?_) (a':=?_) #[true,true,true,true,true,true,true,false,false,false] rfl rfl (take_ofW HT_.out HW_.out (by kernel_rfl)) (fun _ _ _ h=>h) (Or.inl ⟨by rfl,?_⟩) hHeld ?_ ?_;rotate_left
        ·rintro w' ⟨s0,s1,s2,s3⟩;go_simp;with_reducible rfl
        rotate_left
        ·simp only [Act.put,zS1,zS2,zS3,i64_w,i32_w];rfl
        refine take_ (i:=7) (N:=some 24) (v:=?_) (a':=?_) #[true,true,true,true,true,true,true,true,false,false] rfl rfl (take_ofW HT_.out HW_.out (by kernel_rfl)) (fun _ _ _ h=>h) (Or.inl ⟨by rfl,?_⟩) hHeld ?_ ?_;rotate_left
        ·rintro w' ⟨s0,s1,s2,s3⟩;go_simp;with_reducible rfl
        rotate_left
        ·simp only [Act.put,zS1,zS2,zS3,i64_w,i32_w];rfl
        refine one_ (i:=8) (N:=some 25) #[true,true,true,true,true,true,true,true,true,false] rfl rfl (one_of HT_.out (by kernel_rfl)) (by decide) (fun K hK=>?_);refine goes_ Try.func106 (by kernel_rfl) rfl #[.agg #[.bool ((rd_T147 l0 x5_1).f0),.slice A387_1 ((rd_T147 l0 x5_1).f1).length c387_1],.agg #[.bool ((rd_T147 l1 x5_1).f0),.slice A388_1 ((rd_T147 l1 x5_1).f1).length c388_1]] (by rfl) rfl rfl (by (try simp only [List.map_toArray,List.map_cons,List.map_nil]);first | done | rfl | (simp only [List.length_drop,List.length_take];rfl)) ?_;with_reducible refine (laws_eqKnot.calls k1 ((rd_T147 l0 x5_1).f0) _ _ ((rd_T147 l0 x5_1).f1) ((rd_T147 l1 x5_1).f0) _ _ ((rd_T147 l1 x5_1).f1) true _ ?side1 ?side2 ?side3 ?side4 A7.out).mono ?_
        (case side1=>repeat (first | exact (Kd.C_below HR387_1.out HB.out) | (with_reducible refine Kd.C_alloc ?_ _) | (with_reducible refine Kd.C_drewN ?_ _) | (with_reducible refine Kd.C_drew ?_)))
        (case side2=>exact HC387_1.out)
        (case side3=>repeat (first | exact (Kd.C_below HR388_1.out HB.out) | (with_reducible refine Kd.C_alloc ?_ _) | (with_reducible refine Kd.C_drewN ?_ _) | (with_reducible refine Kd.C_drew ?_)))
        (case side4=>exact HC388_1.out)
        rintro e w10 ⟨rfl,hb⟩;refine ⟨_,rfl,?_⟩;have n0_:=zMk (below_step (hs HB) hb);clear HB;have HB:=n0_;clear n0_
        (try clear hb)
        (try clear hb2)
        (try clear hk)
        (try clear hi)
        refine hK.out _ _ ⟨((HB.out.cell (zBl w _ hw387_0)).trans hw387_0),((HB.out.cell (zBl w _ hw387_1)).trans hw387_1),((HB.out.cell (zBl w _ hw388_0)).trans hw388_0),((HB.out.cell (zBl w _ hw388_1)).trans hw388_1)⟩ (fun hHeld=>?_);clear hK K;refine norm_ (a':=?_) ?_ ?_;rotate_left
        ·show Act.put _ (some 25) _ = _;simp only [Act.put,zS1,zS2,zS3,i64_w,i32_w];rfl
        refine pure_ (i:=9) (N:=some 26) (v:=?_) (a':=?_) #[true,true,true,true,true,true,true,true,true,true] rfl rfl (any_of HT_.out (by kernel_rfl)) (fun _ _ _ h=>h) (Or.inl ⟨by rfl,?_⟩) ?_ ?_;rotate_left
        ·intro w';go_simp;with_reducible rfl
        rotate_left
        ·simp only [Act.put,zS1,zS2,zS3,i64_w,i32_w];rfl
        refine done_ (done_of HT_.out (by kernel_rfl)) ?_
        try go_wp2
        go_roundg k1;case measure=>have:=HK1.out;omega
        case rel=>exact ⟨(wrap64 (x5_1 + 1)),(by first | rfl | (simp;done) | (simp [*];done)),H',⟨by have:=HK1.out;omega⟩,⟨hs HB⟩⟩
       replace c8:=Bool.eq_false_iff.mpr c8;subst c8;have H1 : (some false) = some r:=by rw [if_neg (show ¬ (false = true) by decide)] at H;exact H
       clear H;have H:=H1;clear H1;obtain rfl:=Option.some.inj H
       try go_wp2
       have n0_:=zMk (below_drew1 HB.out);clear HB;have HB:=n0_;clear n0_;have p387 : 0 ≤ (x5_1 : Int):=zDe (by first | (with_reducible assumption) | assumption);have q387 : x5_1 < (l0.length : Int):=zDe (by first | (with_reducible assumption) | assumption);obtain ⟨ad387,A387_1,c387_1,e387,hx387_0,hx387_1,hl387_1,hi387_1⟩:=at_T147 HR0.out x5_1 p387 q387;have hw387_1:=hx387_1;have hw387_0:=hx387_0;cases e387;replace hx387_0:=(HB.out.cell (zBl w _ hx387_0)).trans hx387_0;replace hx387_1:=(HB.out.cell (zBl w _ hx387_1)).trans hx387_1;have HR387_1:=zMk hi387_1;have HC387_1:=zMk hl387_1;clear hi387_1 hl387_1;replace p387:=eq_true p387;replace q387:=eq_true q387;have p388 : 0 ≤ (x5_1 : Int):=zDe (by first | (with_reducible assumption) | assumption);have q388 : x5_1 < (l1.length : Int):=zDe (by first | (with_reducible assumption) | assumption);obtain ⟨ad388,A388_1,c388_1,e388,hx388_0,hx388_1,hl388_1,hi388_1⟩:=at_T147 HR1.out x5_1 p388 q388;have hw388_1:=hx388_1;have hw388_0:=hx388_0;cases e388;replace hx388_0:=(HB.out.cell (zBl w _ hx388_0)).trans hx388_0;replace hx388_1:=(HB.out.cell (zBl w _ hx388_1)).trans hx388_1;have HR388_1:=zMk hi388_1;have HC388_1:=zMk hl388_1;clear hi388_1 hl388_1;replace p388:=eq_true p388;replace q388:=eq_true q388;refine start_ (n:=10) (S:=fun w'=>w'.cell? (ad387.add ((x5_1).toNat * 2)) = some (.bool ((rd_T147 l0 x5_1).f0)) ∧ w'.cell? ⟨(ad387.add ((x5_1).toNat * 2)).block,(ad387.add ((x5_1).toNat * 2)).off + 1,none⟩ = some (.slice A387_1 ((rd_T147 l0 x5_1).f1).length c387_1) ∧ w'.cell? (ad388.add ((x5_1).toNat * 2)) = some (.bool ((rd_T147 l1 x5_1).f0)) ∧ w'.cell? ⟨(ad388.add ((x5_1).toNat * 2)).block,(ad388.add ((x5_1).toNat * 2)).off + 1,none⟩ = some (.slice A388_1 ((rd_T147 l1 x5_1).f1).length c388_1)) (ds:=[]) #[false,false,false,false,false,false,false,false,false,false] (by kernel_rfl) rfl rfl ⟨((HB.out.cell (zBl w _ hw387_0)).trans hw387_0),((HB.out.cell (zBl w _ hw387_1)).trans hw387_1),((HB.out.cell (zBl w _ hw388_0)).trans hw388_0),((HB.out.cell (zBl w _ hw388_1)).trans hw388_1)⟩ (fun hHeld=>?_);refine with_tabW laws_eqKnotS.tab6 laws_eqKnotS.bits6 (fun HT_ HW_=>?_);generalize wr.drew = w11 at HB HR387_1 HR388_1 hx387_0 hx387_1 hx388_0 hx388_1 hHeld ⊢;refine pure_ (i:=0) (N:=some 17) (v:=?_) (a':=?_) #[true,false,false,false,false,false,false,false,false,false] rfl rfl (any_of HT_.out (by kernel_rfl)) (fun _ _ _ h=>h) (Or.inl ⟨by rfl,?_⟩) ?_ ?_;rotate_left
       ·intro w';go_simp;with_reducible rfl
       rotate_left
       ·simp only [Act.put,zS1,zS2,zS3,i64_w,i32_w];rfl
       refine pure_ (i:=1) (N:=some 18) (v:=?_) (a':=?_) #[true,true,false,false,false,false,false,false,false,false] rfl rfl (any_of HT_.out (by kernel_rfl)) (fun _ _ _ h=>h) (Or.inl ⟨by rfl,?_⟩) ?_ ?_;rotate_left
       ·intro w';go_simp;with_reducible rfl
       rotate_left
       ·simp only [Act.put,zS1,zS2,zS3,i64_w,i32_w];rfl
       refine pure_ (i:=2) (N:=some 19) (v:=?_) (a':=?_) #[true,true,true,false,false,false,false,false,false,false] rfl rfl (any_of HT_.out (by kernel_rfl)) (fun _ _ _ h=>h) (Or.inl ⟨by rfl,?_⟩) ?_ ?_;rotate_left
       ·intro w';go_simp;with_reducible rfl
       rotate_left
       ·simp only [Act.put,zS1,zS2,zS3,i64_w,i32_w];rfl
       refine pure_ (i:=4) (N:=some 21) (v:=?_) (a':=?_) #[true,true,true,false,true,false,false,false,false,false] rfl rfl (any_of HT_.out (by kernel_rfl)) (fun _ _ _ h=>h) (Or.inl ⟨by rfl,?_⟩) ?_ ?_;rotate_left
       ·intro w';go_simp;with_reducible rfl
       rotate_left
       ·simp only [Act.put,zS1,zS2,zS3,i64_w,i32_w];rfl
       refine pure_ (i:=5) (N:=some 22) (v:=?_) (a':=?_) #[true,true,true,false,true,true,false,false,false,false] rfl rfl (any_of HT_.out (by kernel_rfl)) (fun _ _ _ h=>h) (Or.inl ⟨by rfl,?_⟩) ?_ ?_;rotate_left
       ·intro w';go_simp;with_reducible rfl
       rotate_left
       ·simp only [Act.put,zS1,zS2,zS3,i64_w,i32_w];rfl
       refine pure_ (i:=6) (N:=some 23) (v:=?_) (a':=?_) #[true,true,true,false,true,true,true,false,false,false] rfl rfl (any_of HT_.out (by kernel_rfl)) (fun _ _ _ h=>h) (Or.inl ⟨by rfl,?_⟩) ?_ ?_;rotate_left
       ·intro w';go_simp;with_reducible rfl
       rotate_left
       ·simp only [Act.put,zS1,zS2,zS3,i64_w,i32_w];rfl
       refine take_ (i:=3) (N:=some 20) (v:=?_) (a':=?_) #[true,true,true,true,true,true,true,false,false,false] rfl rfl (take_ofW HT_.out HW_.out (by kernel_rfl)) (fun _ _ _ h=>h) (Or.inl ⟨by rfl,?_⟩) hHeld ?_ ?_;rotate_left
       ·rintro w' ⟨s0,s1,s2,s3⟩;go_simp;with_reducible rfl
       rotate_left
       ·simp only [Act.put,zS1,zS2,zS3,i64_w,i32_w];rfl
       refine take_ (i:=7) (N:=some 24) (v:=?_) (a':=?_) #[true,true,true,true,true,true,true,true,false,false] rfl rfl (take_ofW HT_.out HW_.out (by kernel_rfl)) (fun _ _ _ h=>h) (Or.inl ⟨by rfl,?_⟩) hHeld ?_ ?_;rotate_left
       ·rintro w' ⟨s0,s1,s2,s3⟩;go_simp;with_reducible rfl
       rotate_left
       ·simp only [Act.put,zS1,zS2,zS3,i64_w,i32_w];rfl
       refine one_ (i:=8) (N:=some 25) #[true,true,true,true,true,true,true,true,true,false] rfl rfl (one_of HT_.out (by kernel_rfl)) (by decide) (fun K hK=>?_);refine goes_ Try.func106 (by kernel_rfl) rfl #[.agg #[.bool ((rd_T147 l0 x5_1).f0),.slice A387_1 ((rd_T147 l0 x5_1).f1).length c387_1],.agg #[.bool ((rd_T147 l1 x5_1).f0),.slice A388_1 ((rd_T147 l1 x5_1).f1).length c388_1]] (by rfl) rfl rfl (by (try simp only [List.map_toArray,List.map_cons,List.map_nil]);first | done | rfl | (simp only [List.length_drop,List.length_take];rfl)) ?_;with_reducible refine (laws_eqKnot.calls k1 ((rd_T147 l0 x5_1).f0) _ _ ((rd_T147 l0 x5_1).f1) ((rd_T147 l1 x5_1).f0) _ _ ((rd_T147 l1 x5_1).f1) false _ ?side1 ?side2 ?side3 ?side4 A7.out).mono ?_
       (case side1=>repeat (first | exact (Kd.C_below HR387_1.out HB.out) | (with_reducible refine Kd.C_alloc ?_ _) | (with_reducible refine Kd.C_drewN ?_ _) | (with_reducible refine Kd.C_drew ?_)))
       (case side2=>exact HC387_1.out)
       (case side3=>repeat (first | exact (Kd.C_below HR388_1.out HB.out) | (with_reducible refine Kd.C_alloc ?_ _) | (with_reducible refine Kd.C_drewN ?_ _) | (with_reducible refine Kd.C_drew ?_)))
       (case side4=>exact HC388_1.out)
       rintro e w12 ⟨rfl,hb⟩;refine ⟨_,rfl,?_⟩;have n0_:=zMk (below_step (hs HB) hb);clear HB;have HB:=n0_;clear n0_
       (try clear hb)
       (try clear hb2)
       (try clear hk)
       (try clear hi)
       refine hK.out _ _ ⟨((HB.out.cell (zBl w _ hw387_0)).trans hw387_0),((HB.out.cell (zBl w _ hw387_1)).trans hw387_1),((HB.out.cell (zBl w _ hw388_0)).trans hw388_0),((HB.out.cell (zBl w _ hw388_1)).trans hw388_1)⟩ (fun hHeld=>?_);clear hK K;refine norm_ (a':=?_) ?_ ?_;rotate_left
       ·show Act.put _ (some 25) _ = _;simp only [Act.put,zS1,zS2,zS3,i64_w,i32_w];rfl
       refine pure_ (i:=9) (N:=some 26) (v:=?_) (a':=?_) #[true,true,true,true,true,true,true,true,true,true] rfl rfl (any_of HT_.out (by kernel_rfl)) (fun _ _ _ h=>h) (Or.inl ⟨by rfl,?_⟩) ?_ ?_;rotate_left
       ·intro w';go_simp;with_reducible rfl
       rotate_left
       ·simp only [Act.put,zS1,zS2,zS3,i64_w,i32_w];rfl
       refine done_ (done_of HT_.out (by kernel_rfl)) ?_
       try go_wp2
       go_ret
       exact ⟨by first | rfl | (simp [errW_none,errW_some] <;> rfl) | (simp [*,errW_none,errW_some] <;> rfl),hs HB⟩
      rw [if_neg c6] at H;exact absurd H (by simp)
     rw [if_neg c5] at H;exact absurd H (by simp)
    rw [if_neg c4] at H;have c4b0 : decide (x5_1 < (l0.length : Int)) = false:=decide_eq_false c4;clear c4;obtain rfl:=Option.some.inj H
    go_wp2
    go_ret
    exact ⟨by first | rfl | (simp [errW_none,errW_some] <;> rfl) | (simp [*,errW_none,errW_some] <;> rfl),hs HB⟩
 rw [if_neg c3] at H;have c3b0 : ((l0.length : Int) == (l1.length : Int)) = false:=beq_eq_false_iff_ne.mpr c3;have c3b1 : ((l0.length : Int) != (l1.length : Int)) = true:=bne_iff_ne.mpr c3;have c3b2 : (l0.length == l1.length) = false:=by first | simpa using c3 | (simp at c3 ⊢;omega)
 obtain rfl:=Option.some.inj H
 go_enter Try.func83,Try.ntmps83
 go_wp2
 go_ret
 exact ⟨by first | rfl | (simp [errW_none,errW_some] <;> rfl) | (simp [*,errW_none,errW_some] <;> rfl),hs HB⟩
def laws_eqArena.f (k : Nat) (l0_0 : List (S147)) (l1_0 : List (S147)) : Option (Bool):=(laws_eqKnotS.f k l0_0 l1_0).bind fun t392=>(if t392 = true then (some true) else (some false))
theorem laws_eqArena.mono : ∀ a0 a1 k,LeO (laws_eqArena.f k a0 a1) (laws_eqArena.f (k + 1) a0 a1):=by
 intro a0 a1 k;unfold laws_eqArena.f
 repeat' first
   | (with_reducible exact laws_eqKnotS.mono _ _ _)
   | (with_reducible exact LeO.refl _)
   | (with_reducible exact LeO.none _)
   | (with_reducible refine LeO.ite ?_ ?_)
   | (with_reducible refine LeO.bind ?_ (fun _=>?_))
   | exact laws_eqKnotS.mono _ _ _
   | exact LeO.none _
   | refine LeO.ite ?_ ?_
   | refine LeO.bind ?_ (fun _=>?_)
set_option maxHeartbeats 8000000 in
set_option maxRecDepth 100000 in
theorem laws_eqArena.calls (k : Nat) (A0_0 : Option Addr) (c0_0 : Nat) (l0_0 : List (S147)) (A1_0 : Option Addr) (c1_0 : Nat) (l1_0 : List (S147)) (r : Bool) (w : World) (hr0_0 : Kd.C k147 w A0_0 l0_0.length l0_0) (hc0_0 : l0_0.length ≤ c0_0) (hr1_0 : Kd.C k147 w A1_0 l1_0.length l1_0) (hc1_0 : l1_0.length ≤ c1_0) (h : laws_eqArena.f k l0_0 l1_0 = some r) :
  Calls Try.prog 51 #[.agg #[.slice A0_0 l0_0.length c0_0],.agg #[.slice A1_0 l1_0.length c1_0]] w fun e w'=>e = .returned (.bool r) ∧ Below w.heap.size w w':=by
 have hu34:=Try.underlying34;have HR0_0:=zMk hr0_0;have HC0_0:=zMk hc0_0;clear hr0_0 hc0_0;have HR1_0:=zMk hr1_0;have HC1_0:=zMk hc1_0;clear hr1_0 hc1_0;have HB:=zMk (Below.refl w.heap.size w);have H : ((laws_eqKnotS.f k l0_0 l1_0).bind fun t392=>(if t392 = true then (some true) else (some false))) = some r:=h;clear h;replace H:=Option.bind_eq_some_iff.mp H;obtain ⟨t392,A30,H⟩:=H;replace H : (if t392 = true then (some true) else (some false)) = some r:=H;have A3:=zMk A30;clear A30
 go_enter Try.func51,Try.ntmps51
 go_upto_if 10 with (first | ((with_reducible refine gate_dst (N:=2) rfl ?_);refine box_event ?hg (N:=2) ?hd (cs:=#[.slice A0_0 l0_0.length c0_0]) (t:=34) ?hr ?_;(case hd=>rfl);(case hg=>rfl);(case hr=>first | (go_simp;done) | (go_simp;rfl));intro gb390 hg w5 hbox hb;have n0_:=zMk (below_step (hs HB) hb);have n1_:=zMk (hbox);have n2_:=zMk ((by rw [hg];exact (below_size (hs HB)) : w.heap.size ≤ gb390));have n3_:=zMk ((by rw [hg];exact (below_size (hs HB)) : w.heap.size ≤ gb390));clear HB;have HB:=n0_;have BK390:=n1_;have GW390:=n2_;have GE390:=n3_;clear n0_ n1_ n2_ n3_;clear hb hbox hg) | ((with_reducible refine gate_dst (N:=3) rfl ?_);refine box_event ?hg (N:=3) ?hd (cs:=#[.slice A1_0 l1_0.length c1_0]) (t:=34) ?hr ?_;(case hd=>rfl);(case hg=>rfl);(case hr=>first | (go_simp;done) | (go_simp;rfl));intro gb391 hg w6 hbox hb;have n0_:=zMk (blk_below (g:=gb390) (o:=.cells #[.slice A0_0 l0_0.length c0_0] 34 (0,0)) (bs BK390) hb);have n1_:=zMk (below_step (hs1 HB GE390) hb);have n2_:=zMk (hbox);have n3_:=zMk ((by rw [hg];exact (below_size (hs1 HB GE390)) : w.heap.size ≤ gb391));have n4_:=zMk ((by rw [hg];exact (below_size (hs1 HB GE390)) : w.heap.size ≤ gb391));have n5_:=zMk ((by rw [hg];exact Nat.ne_of_lt (blk_lt (g:=gb390) (o:=.cells #[.slice A0_0 l0_0.length c0_0] 34 (0,0)) (bs BK390)) : gb390 ≠ gb391));have n6_:=zMk ((by rw [hg];exact Nat.ne_of_gt (blk_lt (g:=gb390) (o:=.cells #[.slice A0_0 l0_0.length c0_0] 34 (0,0)) (bs BK390)) : gb391 ≠ gb390));clear BK390;clear HB;have BK390:=n0_;have HB:=n1_;have BK391:=n2_;have GW391:=n3_;have GE391:=n4_;have NB390_391:=n5_;have NB391_390:=n6_;clear n0_ n1_ n2_ n3_ n4_ n5_ n6_;clear hb hbox hg;have hnb7:=NB390_391.out;have hnc7:=NB391_390.out;have hcz8_0 : w6.cell? ⟨gb390,0,none⟩ = some (.slice A0_0 l0_0.length c0_0):=(zCl BK390.out 0).trans rfl;have hfz8_0:=zFr BK390.out 0;have hcz9_0 : w6.cell? ⟨gb391,0,none⟩ = some (.slice A1_0 l1_0.length c1_0):=(zCl BK391.out 0).trans rfl;have hfz9_0:=zFr BK391.out 0) | ((with_reducible refine gate_callee (f:=83) rfl ?_);refine goesL_ (some 9) rfl rfl Try.func83 (by kernel_rfl) rfl #[.slice A0_0 l0_0.length c0_0,.slice A1_0 l1_0.length c1_0] rfl (by (try simp only [List.map_toArray,List.map_cons,List.map_nil]);first | done | rfl | (simp only [List.length_drop,List.length_take];rfl)) ?_;(with_reducible refine (laws_eqKnotS.calls k _ _ l0_0 _ _ l1_0 t392 _ ?side1 ?side2 ?side3 ?side4 A3.out).mono ?_);(case side1=>repeat (first | exact (Kd.C_below HR0_0.out HB.out) | (with_reducible refine Kd.C_alloc ?_ _) | (with_reducible refine Kd.C_drewN ?_ _) | (with_reducible refine Kd.C_drew ?_)));(case side2=>exact HC0_0.out);(case side3=>repeat (first | exact (Kd.C_below HR1_0.out HB.out) | (with_reducible refine Kd.C_alloc ?_ _) | (with_reducible refine Kd.C_drewN ?_ _) | (with_reducible refine Kd.C_drew ?_)));(case side4=>exact HC1_0.out);rintro e w10 ⟨rfl,hb⟩;refine ⟨_,rfl,?_⟩;have n0_:=zMk (blk_below (g:=gb390) (o:=.cells #[.slice A0_0 l0_0.length c0_0] 34 (0,0)) (bs BK390) hb);have n1_:=zMk (blk_below (g:=gb391) (o:=.cells #[.slice A1_0 l1_0.length c1_0] 34 (0,0)) (bs BK391) hb);have n2_:=zMk (below_step (hs2 HB GE390 GE391) hb);clear BK390;clear BK391;clear HB;have BK390:=n0_;have BK391:=n1_;have HB:=n2_;clear n0_ n1_ n2_;(try clear hb);(try clear hb2);(try clear hk);(try clear hi)))
 (try simp only [Act.put,zS1,zS2,zS3])
 by_cases c4 : t392 = true
 ·subst c4;have H1 : (some true) = some r:=by rw [if_pos rfl] at H;exact H
  clear H;have H:=H1;clear H1;obtain rfl:=Option.some.inj H
  go_wp2
  go_ret
  exact ⟨by first | rfl | (simp [errW_none,errW_some] <;> rfl) | (simp [*,errW_none,errW_some] <;> rfl),hs2 HB GE390 GE391⟩
 replace c4:=Bool.eq_false_iff.mpr c4;subst c4;have H1 : (some false) = some r:=by rw [if_neg (show ¬ (false = true) by decide)] at H;exact H
 clear H;have H:=H1;clear H1;obtain rfl:=Option.some.inj H
 go_wp2
 go_ret
 exact ⟨by first | rfl | (simp [errW_none,errW_some] <;> rfl) | (simp [*,errW_none,errW_some] <;> rfl),hs2 HB GE390 GE391⟩
def laws_eqStore.f (k : Nat) (l0_0 : List (S89)) (l0_1 : List (S147)) (a0_2 : Int) (l1_0 : List (S89)) (l1_1 : List (S147)) (a1_2 : Int) : Option (Bool):=(laws_eqVolS.f k l0_0 l1_0).bind fun t395=>(if t395 = true then ((laws_eqArena.f k l0_1 l1_1).bind fun t396=>(if t396 = true then (if a0_2 = a1_2 then (some true) else (some false)) else (some false))) else (some false))
theorem laws_eqStore.mono : ∀ a0 a1 a2 a3 a4 a5 k,LeO (laws_eqStore.f k a0 a1 a2 a3 a4 a5) (laws_eqStore.f (k + 1) a0 a1 a2 a3 a4 a5):=by
 intro a0 a1 a2 a3 a4 a5 k;unfold laws_eqStore.f
 repeat' first
   | (with_reducible exact laws_eqArena.mono _ _ _)
   | (with_reducible exact laws_eqVolS.mono _ _ _)
   | (with_reducible exact LeO.refl _)
   | (with_reducible exact LeO.none _)
   | (with_reducible refine LeO.ite ?_ ?_)
   | (with_reducible refine LeO.bind ?_ (fun _=>?_))
   | exact laws_eqArena.mono _ _ _
   | exact laws_eqVolS.mono _ _ _
   | exact LeO.none _
   | refine LeO.ite ?_ ?_
   | refine LeO.bind ?_ (fun _=>?_)
set_option maxHeartbeats 8000000 in
set_option maxRecDepth 100000 in
theorem laws_eqStore.calls (k : Nat) (A0_0 : Option Addr) (c0_0 : Nat) (l0_0 : List (S89)) (A0_1 : Option Addr) (c0_1 : Nat) (l0_1 : List (S147)) (a0_2 : Int) (A1_0 : Option Addr) (c1_0 : Nat) (l1_0 : List (S89)) (A1_1 : Option Addr) (c1_1 : Nat) (l1_1 : List (S147)) (a1_2 : Int) (r : Bool) (w : World) (hr0_0 : Kd.C k89 w A0_0 l0_0.length l0_0) (hc0_0 : l0_0.length ≤ c0_0) (hr0_1 : Kd.C k147 w A0_1 l0_1.length l0_1) (hc0_1 : l0_1.length ≤ c0_1) (hr1_0 : Kd.C k89 w A1_0 l1_0.length l1_0) (hc1_0 : l1_0.length ≤ c1_0) (hr1_1 : Kd.C k147 w A1_1 l1_1.length l1_1) (hc1_1 : l1_1.length ≤ c1_1) (h : laws_eqStore.f k l0_0 l0_1 a0_2 l1_0 l1_1 a1_2 = some r) :
  Calls Try.prog 13 #[.agg #[.slice A0_0 l0_0.length c0_0,.slice A0_1 l0_1.length c0_1,.int .i64 a0_2],.agg #[.slice A1_0 l1_0.length c1_0,.slice A1_1 l1_1.length c1_1,.int .i64 a1_2]] w fun e w'=>e = .returned (.bool r) ∧ Below w.heap.size w w':=by
 have hu36:=Try.underlying36;have hu34:=Try.underlying34;have HR0_0:=zMk hr0_0;have HC0_0:=zMk hc0_0;clear hr0_0 hc0_0;have HR0_1:=zMk hr0_1;have HC0_1:=zMk hc0_1;clear hr0_1 hc0_1;have HR1_0:=zMk hr1_0;have HC1_0:=zMk hc1_0;clear hr1_0 hc1_0;have HR1_1:=zMk hr1_1;have HC1_1:=zMk hc1_1;clear hr1_1 hc1_1;have HB:=zMk (Below.refl w.heap.size w);have H : ((laws_eqVolS.f k l0_0 l1_0).bind fun t395=>(if t395 = true then ((laws_eqArena.f k l0_1 l1_1).bind fun t396=>(if t396 = true then (if a0_2 = a1_2 then (some true) else (some false)) else (some false))) else (some false))) = some r:=h;clear h;replace H:=Option.bind_eq_some_iff.mp H;obtain ⟨t395,A30,H⟩:=H;replace H : (if t395 = true then ((laws_eqArena.f k l0_1 l1_1).bind fun t396=>(if t396 = true then (if a0_2 = a1_2 then (some true) else (some false)) else (some false))) else (some false)) = some r:=H;have A3:=zMk A30;clear A30
 go_enter Try.func13,Try.ntmps13
 go_upto_if 10 with (first | ((with_reducible refine gate_dst (N:=2) rfl ?_);refine box_event ?hg (N:=2) ?hd (cs:=#[.slice A0_0 l0_0.length c0_0,.slice A0_1 l0_1.length c0_1,.int .i64 a0_2]) (t:=36) ?hr ?_;(case hd=>rfl);(case hg=>rfl);(case hr=>first | (go_simp;done) | (go_simp;rfl));intro gb393 hg w8 hbox hb;have n0_:=zMk (below_step (hs HB) hb);have n1_:=zMk (hbox);have n2_:=zMk ((by rw [hg];exact (below_size (hs HB)) : w.heap.size ≤ gb393));have n3_:=zMk ((by rw [hg];exact (below_size (hs HB)) : w.heap.size ≤ gb393));clear HB;have HB:=n0_;have BK393:=n1_;have GW393:=n2_;have GE393:=n3_;clear n0_ n1_ n2_ n3_;clear hb hbox hg) | ((with_reducible refine gate_dst (N:=3) rfl ?_);refine box_event ?hg (N:=3) ?hd (cs:=#[.slice A1_0 l1_0.length c1_0,.slice A1_1 l1_1.length c1_1,.int .i64 a1_2]) (t:=36) ?hr ?_;(case hd=>rfl);(case hg=>rfl);(case hr=>first | (go_simp;done) | (go_simp;rfl));intro gb394 hg w9 hbox hb;have n0_:=zMk (blk_below (g:=gb393) (o:=.cells #[.slice A0_0 l0_0.length c0_0,.slice A0_1 l0_1.length c0_1,.int .i64 a0_2] 36 (0,0)) (bs BK393) hb);have n1_:=zMk (below_step (hs1 HB GE393) hb);have n2_:=zMk (hbox);have n3_:=zMk ((by rw [hg];exact (below_size (hs1 HB GE393)) : w.heap.size ≤ gb394));have n4_:=zMk ((by rw [hg];exact (below_size (hs1 HB GE393)) : w.heap.size ≤ gb394));have n5_:=zMk ((by rw [hg];exact Nat.ne_of_lt (blk_lt (g:=gb393) (o:=.cells #[.slice A0_0 l0_0.length c0_0,.slice A0_1 l0_1.length c0_1,.int .i64 a0_2] 36 (0,0)) (bs BK393)) : gb393 ≠ gb394));have n6_:=zMk ((by rw [hg];exact Nat.ne_of_gt (blk_lt (g:=gb393) (o:=.cells #[.slice A0_0 l0_0.length c0_0,.slice A0_1 l0_1.length c0_1,.int .i64 a0_2] 36 (0,0)) (bs BK393)) : gb394 ≠ gb393));clear BK393;clear HB;have BK393:=n0_;have HB:=n1_;have BK394:=n2_;have GW394:=n3_;have GE394:=n4_;have NB393_394:=n5_;have NB394_393:=n6_;clear n0_ n1_ n2_ n3_ n4_ n5_ n6_;clear hb hbox hg;have hnb10:=NB393_394.out;have hnc10:=NB394_393.out;have hcz11_0 : w9.cell? ⟨gb393,0,none⟩ = some (.slice A0_0 l0_0.length c0_0):=(zCl BK393.out 0).trans rfl;have hcz11_1 : w9.cell? ⟨gb393,1,none⟩ = some (.slice A0_1 l0_1.length c0_1):=(zCl BK393.out 1).trans rfl;have hcz11_2 : w9.cell? ⟨gb393,2,none⟩ = some (.int .i64 a0_2):=(zCl BK393.out 2).trans rfl;have hfz11_0:=zFr BK393.out 0;have hfz11_1:=zFr BK393.out 1;have hfz11_2:=zFr BK393.out 2;have hcz12_0 : w9.cell? ⟨gb394,0,none⟩ = some (.slice A1_0 l1_0.length c1_0):=(zCl BK394.out 0).trans rfl;have hcz12_1 : w9.cell? ⟨gb394,1,none⟩ = some (.slice A1_1 l1_1.length c1_1):=(zCl BK394.out 1).trans rfl;have hcz12_2 : w9.cell? ⟨gb394,2,none⟩ = some (.int .i64 a1_2):=(zCl BK394.out 2).trans rfl;have hfz12_0:=zFr BK394.out 0;have hfz12_1:=zFr BK394.out 1;have hfz12_2:=zFr BK394.out 2) | ((with_reducible refine gate_callee (f:=50) rfl ?_);refine goesL_ (some 9) rfl rfl Try.func50 (by kernel_rfl) rfl #[.slice A0_0 l0_0.length c0_0,.slice A1_0 l1_0.length c1_0] rfl (by (try simp only [List.map_toArray,List.map_cons,List.map_nil]);first | done | rfl | (simp only [List.length_drop,List.length_take];rfl)) ?_;(with_reducible refine (laws_eqVolS.calls k _ _ l0_0 _ _ l1_0 t395 _ ?side1 ?side2 ?side3 ?side4 A3.out).mono ?_);(case side1=>repeat (first | exact (Kd.C_below HR0_0.out HB.out) | (with_reducible refine Kd.C_alloc ?_ _) | (with_reducible refine Kd.C_drewN ?_ _) | (with_reducible refine Kd.C_drew ?_)));(case side2=>exact HC0_0.out);(case side3=>repeat (first | exact (Kd.C_below HR1_0.out HB.out) | (with_reducible refine Kd.C_alloc ?_ _) | (with_reducible refine Kd.C_drewN ?_ _) | (with_reducible refine Kd.C_drew ?_)));(case side4=>exact HC1_0.out);rintro e w13 ⟨rfl,hb⟩;refine ⟨_,rfl,?_⟩;have n0_:=zMk (blk_below (g:=gb393) (o:=.cells #[.slice A0_0 l0_0.length c0_0,.slice A0_1 l0_1.length c0_1,.int .i64 a0_2] 36 (0,0)) (bs BK393) hb);have n1_:=zMk (blk_below (g:=gb394) (o:=.cells #[.slice A1_0 l1_0.length c1_0,.slice A1_1 l1_1.length c1_1,.int .i64 a1_2] 36 (0,0)) (bs BK394) hb);have n2_:=zMk (below_step (hs2 HB GE393 GE394) hb);clear BK393;clear BK394;clear HB;have BK393:=n0_;have BK394:=n1_;have HB:=n2_;clear n0_ n1_ n2_;(try clear hb);(try clear hb2);(try clear hk);(try clear hi)))
 (try simp only [Act.put,zS1,zS2,zS3])
 by_cases c4 : t395 = true
 ·subst c4;have H1 : ((laws_eqArena.f k l0_1 l1_1).bind fun t396=>(if t396 = true then (if a0_2 = a1_2 then (some true) else (some false)) else (some false))) = some r:=by rw [if_pos rfl] at H;exact H
  clear H;have H:=H1;clear H1;replace H:=Option.bind_eq_some_iff.mp H;obtain ⟨t396,A50,H⟩:=H;replace H : (if t396 = true then (if a0_2 = a1_2 then (some true) else (some false)) else (some false)) = some r:=H;have A5:=zMk A50;clear A50;have hcz14_0 : w13.cell? ⟨gb393,0,none⟩ = some (.slice A0_0 l0_0.length c0_0):=(zCl BK393.out 0).trans rfl;have hcz14_1 : w13.cell? ⟨gb393,1,none⟩ = some (.slice A0_1 l0_1.length c0_1):=(zCl BK393.out 1).trans rfl;have hcz14_2 : w13.cell? ⟨gb393,2,none⟩ = some (.int .i64 a0_2):=(zCl BK393.out 2).trans rfl;have hfz14_0:=zFr BK393.out 0;have hfz14_1:=zFr BK393.out 1;have hfz14_2:=zFr BK393.out 2;have hcz15_0 : w13.cell? ⟨gb394,0,none⟩ = some (.slice A1_0 l1_0.length c1_0):=(zCl BK394.out 0).trans rfl;have hcz15_1 : w13.cell? ⟨gb394,1,none⟩ = some (.slice A1_1 l1_1.length c1_1):=(zCl BK394.out 1).trans rfl;have hcz15_2 : w13.cell? ⟨gb394,2,none⟩ = some (.int .i64 a1_2):=(zCl BK394.out 2).trans rfl;have hfz15_0:=zFr BK394.out 0;have hfz15_1:=zFr BK394.out 1;have hfz15_2:=zFr BK394.out 2
  go_upto_if 16 with (first | ((with_reducible refine gate_callee (f:=51) rfl ?_);refine goesL_ (some 15) rfl rfl Try.func51 (by kernel_rfl) rfl #[.agg #[.slice A0_1 l0_1.length c0_1],.agg #[.slice A1_1 l1_1.length c1_1]] rfl (by (try simp only [List.map_toArray,List.map_cons,List.map_nil]);first | done | rfl | (simp only [List.length_drop,List.length_take];rfl)) ?_;(with_reducible refine (laws_eqArena.calls k _ _ l0_1 _ _ l1_1 t396 _ ?side1 ?side2 ?side3 ?side4 A5.out).mono ?_);(case side1=>repeat (first | exact (Kd.C_below HR0_1.out HB.out) | (with_reducible refine Kd.C_alloc ?_ _) | (with_reducible refine Kd.C_drewN ?_ _) | (with_reducible refine Kd.C_drew ?_)));(case side2=>exact HC0_1.out);(case side3=>repeat (first | exact (Kd.C_below HR1_1.out HB.out) | (with_reducible refine Kd.C_alloc ?_ _) | (with_reducible refine Kd.C_drewN ?_ _) | (with_reducible refine Kd.C_drew ?_)));(case side4=>exact HC1_1.out);rintro e w16 ⟨rfl,hb⟩;refine ⟨_,rfl,?_⟩;have n0_:=zMk (blk_below (g:=gb393) (o:=.cells #[.slice A0_0 l0_0.length c0_0,.slice A0_1 l0_1.length c0_1,.int .i64 a0_2] 36 (0,0)) (bs BK393) hb);have n1_:=zMk (blk_below (g:=gb394) (o:=.cells #[.slice A1_0 l1_0.length c1_0,.slice A1_1 l1_1.length c1_1,.int .i64 a1_2] 36 (0,0)) (bs BK394) hb);have n2_:=zMk (below_step (hs2 HB GE393 GE394) hb);clear BK393;clear BK394;clear HB;have BK393:=n0_;have BK394:=n1_;have HB:=n2_;clear n0_ n1_ n2_;(try clear hb);(try clear hb2);(try clear hk);(try clear hi)))
  (try simp only [Act.put,zS1,zS2,zS3])
  by_cases c6 : t396 = true
  ·subst c6;have H1 : (if a0_2 = a1_2 then (some true) else (some false)) = some r:=by rw [if_pos rfl] at H;exact H
   clear H;have H:=H1;clear H1
   by_cases c7 : a0_2 = a1_2
   ·rw [if_pos c7] at H;have c7b0 : (a0_2 == a1_2) = true:=beq_iff_eq.mpr c7;have c7b1 : (a0_2 != a1_2) = false:=bne_eq_false_iff_eq.mpr c7;clear c7;obtain rfl:=Option.some.inj H;have hcz17_0 : w16.cell? ⟨gb393,0,none⟩ = some (.slice A0_0 l0_0.length c0_0):=(zCl BK393.out 0).trans rfl;have hcz17_1 : w16.cell? ⟨gb393,1,none⟩ = some (.slice A0_1 l0_1.length c0_1):=(zCl BK393.out 1).trans rfl;have hcz17_2 : w16.cell? ⟨gb393,2,none⟩ = some (.int .i64 a0_2):=(zCl BK393.out 2).trans rfl;have hfz17_0:=zFr BK393.out 0;have hfz17_1:=zFr BK393.out 1;have hfz17_2:=zFr BK393.out 2;have hcz18_0 : w16.cell? ⟨gb394,0,none⟩ = some (.slice A1_0 l1_0.length c1_0):=(zCl BK394.out 0).trans rfl;have hcz18_1 : w16.cell? ⟨gb394,1,none⟩ = some (.slice A1_1 l1_1.length c1_1):=(zCl BK394.out 1).trans rfl;have hcz18_2 : w16.cell? ⟨gb394,2,none⟩ = some (.int .i64 a1_2):=(zCl BK394.out 2).trans rfl;have hfz18_0:=zFr BK394.out 0;have hfz18_1:=zFr BK394.out 1;have hfz18_2:=zFr BK394.out 2
    go_wp2
    go_ret
    exact ⟨by first | rfl | (simp [errW_none,errW_some] <;> rfl) | (simp [*,errW_none,errW_some] <;> rfl),hs2 HB GE393 GE394⟩
   rw [if_neg c7] at H;have c7b0 : (a0_2 == a1_2) = false:=beq_eq_false_iff_ne.mpr c7;have c7b1 : (a0_2 != a1_2) = true:=bne_iff_ne.mpr c7;obtain rfl:=Option.some.inj H;have hcz28_0 : w16.cell? ⟨gb393,0,none⟩ = some (.slice A0_0 l0_0.length c0_0):=(zCl BK393.out 0).trans rfl;have hcz28_1 : w16.cell? ⟨gb393,1,none⟩ = some (.slice A0_1 l0_1.length c0_1):=(zCl BK393.out 1).trans rfl;have hcz28_2 : w16.cell? ⟨gb393,2,none⟩ = some (.int .i64 a0_2):=(zCl BK393.out 2).trans rfl;have hfz28_0:=zFr BK393.out 0;have hfz28_1:=zFr BK393.out 1;have hfz28_2:=zFr BK393.out 2;have hcz29_0 : w16.cell? ⟨gb394,0,none⟩ = some (.slice A1_0 l1_0.length c1_0):=(zCl BK394.out 0).trans rfl;have hcz29_1 : w16.cell? ⟨gb394,1,none⟩ = some (.slice A1_1 l1_1.length c1_1):=(zCl BK394.out 1).trans rfl;have hcz29_2 : w16.cell? ⟨gb394,2,none⟩ = some (.int .i64 a1_2):=(zCl BK394.out 2).trans rfl;have hfz29_0:=zFr BK394.out 0;have hfz29_1:=zFr BK394.out 1;have hfz29_2:=zFr BK394.out 2
   go_wp2
   go_ret
   exact ⟨by first | rfl | (simp [errW_none,errW_some] <;> rfl) | (simp [*,errW_none,errW_some] <;> rfl),hs2 HB GE393 GE394⟩
  replace c6:=Bool.eq_false_iff.mpr c6;subst c6;have H1 : (some false) = some r:=by rw [if_neg (show ¬ (false = true) by decide)] at H;exact H
  clear H;have H:=H1;clear H1;obtain rfl:=Option.some.inj H
  go_wp2
  go_ret
  exact ⟨by first | rfl | (simp [errW_none,errW_some] <;> rfl) | (simp [*,errW_none,errW_some] <;> rfl),hs2 HB GE393 GE394⟩
 replace c4:=Bool.eq_false_iff.mpr c4;subst c4;have H1 : (some false) = some r:=by rw [if_neg (show ¬ (false = true) by decide)] at H;exact H
 clear H;have H:=H1;clear H1;obtain rfl:=Option.some.inj H
 go_wp2
 go_ret
 exact ⟨by first | rfl | (simp [errW_none,errW_some] <;> rfl) | (simp [*,errW_none,errW_some] <;> rfl),hs2 HB GE393 GE394⟩
def laws_heldIntS.l0 : Nat → List Int → Int → Int → Option (Int)
 | 0,_,_,_=>none
 | k + 1,x0,x1,x5=>if x5 < (x0.length : Int) then (if 0 ≤ x5 then (if (rd x0 x5) = x1 then (laws_heldIntS.l0 k x0 (wrap64 (x1 + 1)) (wrap64 (x5 + 1))) else (some (-1))) else (none)) else (some x1)
def laws_heldIntS.f (k : Nat) (l0 : List Int) (a1 : Int) : Option (Int):=laws_heldIntS.l0 k l0 a1 0
theorem laws_heldIntS.mono_l : ∀ k,(∀ y0 y1 y2,LeO (laws_heldIntS.l0 k y0 y1 y2) (laws_heldIntS.l0 (k + 1) y0 y1 y2))
 | 0=>fun _ _ _ r h=>by simp [laws_heldIntS.l0] at h
 | k + 1=>by
  have ih0:=laws_heldIntS.mono_l k;intro y0 y1 y2;unfold laws_heldIntS.l0
  repeat' first
  | (with_reducible exact ih0 _ _ _)
  | (with_reducible exact LeO.refl _)
  | (with_reducible exact LeO.none _)
  | (with_reducible refine LeO.ite ?_ ?_)
  | (with_reducible refine LeO.bind ?_ (fun _=>?_))
  | exact ih0 _ _ _
  | exact LeO.none _
  | refine LeO.ite ?_ ?_
  | refine LeO.bind ?_ (fun _=>?_)
theorem laws_heldIntS.mono : ∀ a0 a1 k,LeO (laws_heldIntS.f k a0 a1) (laws_heldIntS.f (k + 1) a0 a1):=by
 intro a0 a1 k;have ih0:=laws_heldIntS.mono_l k;unfold laws_heldIntS.f
 repeat' first
   | (with_reducible exact ih0 _ _ _)
   | (with_reducible exact LeO.refl _)
   | (with_reducible exact LeO.none _)
   | (with_reducible refine LeO.ite ?_ ?_)
   | (with_reducible refine LeO.bind ?_ (fun _=>?_))
   | exact ih0 _ _ _
   | exact LeO.none _
   | refine LeO.ite ?_ ?_
   | refine LeO.bind ?_ (fun _=>?_)
set_option maxHeartbeats 8000000 in
set_option maxRecDepth 100000 in
theorem laws_heldIntS.calls (k : Nat) (A0 : Option Addr) (c0 : Nat) (l0 : List Int) (a1 : Int) (r : Int) (w : World) (hr0 : Kd.C (Kd.int .i64) w A0 l0.length l0) (hc0 : l0.length ≤ c0) (h : laws_heldIntS.f k l0 a1 = some r) :
  Calls Try.prog 16 #[.slice A0 l0.length c0,.int .i64 a1] w fun e w'=>e = .returned (.int .i64 r) ∧ Drawn0 w w':=by
 have HR0:=zMk hr0;have HC0:=zMk hc0;clear hr0 hc0;have H : (laws_heldIntS.l0 k l0 a1 0) = some r:=h;clear h;have H':=zMk H;clear H
 go_enter Try.func16,Try.ntmps16
 go_wp2
 go_loopg [1,5] k (fun kq v1 v5 w'=>∃ (x1_1 : Int) (x5_1 : Int),v1 = .int .i64 x1_1 ∧ v5 = .int .i64 x5_1 ∧ Aside0 (laws_heldIntS.l0 kq l0 x1_1 x5_1 = some r) ∧ Aside0 (kq ≤ k) ∧ Drawn0 w w');case atStart=>exact ⟨(a1),(0),(by first | rfl | (simp;done) | (simp [*];done)),(by first | rfl | (simp;done) | (simp [*];done)),H',⟨Nat.le_refl _⟩,by repeat (first | exact Drawn0.refl _ | apply Drawn0.step)⟩
 case round =>
  clear H'
  try clear c1
  try clear p2
  obtain ⟨x1_1,x5_1,rfl,rfl,HA,HK1,⟨m1,rfl⟩⟩:=hrel;cases gk with
  | zero=>exact absurd HA.out (by simp [laws_heldIntS.l0])
  | succ k1 =>
   have H:=HA.out;clear HA;simp only [laws_heldIntS.l0] at H
   by_cases c3 : x5_1 < (l0.length : Int)
   ·rw [if_pos c3] at H;have c3b0 : decide (x5_1 < (l0.length : Int)) = true:=decide_eq_true c3;clear c3
    by_cases c4 : 0 ≤ x5_1
    ·rw [if_pos c4] at H;have c4b0 : decide (0 ≤ x5_1) = true:=decide_eq_true c4;clear c4
     by_cases c5 : (rd l0 x5_1) = x1_1
     ·rw [if_pos c5] at H;have c5b0 : ((rd l0 x5_1) == x1_1) = true:=beq_iff_eq.mpr c5;have c5b1 : ((rd l0 x5_1) != x1_1) = false:=bne_eq_false_iff_eq.mpr c5;clear c5;have H':=zMk H;clear H;have p406 : 0 ≤ (x5_1 : Int):=zDe (by first | (with_reducible assumption) | assumption);have q406 : x5_1 < (l0.length : Int):=zDe (by first | (with_reducible assumption) | assumption);obtain ⟨ad406,e406,hx406_0⟩:=Kd.at_int HR0.out x5_1 p406 q406;cases e406;replace p406:=eq_true p406;replace q406:=eq_true q406
      go_wp2
      go_roundg k1;case measure=>have:=HK1.out;omega
      case rel=>exact ⟨(wrap64 (x1_1 + 1)),(wrap64 (x5_1 + 1)),(by first | rfl | (simp;done) | (simp [*];done)),(by first | rfl | (simp;done) | (simp [*];done)),H',⟨by have:=HK1.out;omega⟩,by repeat (first | exact Drawn0.refl _ | apply Drawn0.step)⟩
     rw [if_neg c5] at H;have c5b0 : ((rd l0 x5_1) == x1_1) = false:=beq_eq_false_iff_ne.mpr c5;have c5b1 : ((rd l0 x5_1) != x1_1) = true:=bne_iff_ne.mpr c5;obtain rfl:=Option.some.inj H;have p406 : 0 ≤ (x5_1 : Int):=zDe (by first | (with_reducible assumption) | assumption);have q406 : x5_1 < (l0.length : Int):=zDe (by first | (with_reducible assumption) | assumption);obtain ⟨ad406,e406,hx406_0⟩:=Kd.at_int HR0.out x5_1 p406 q406;cases e406;replace p406:=eq_true p406;replace q406:=eq_true q406
     go_wp2
     go_ret
     exact ⟨by first | rfl | (simp;done) | (simp [*];done),by repeat (first | exact Drawn0.refl _ | apply Drawn0.step)⟩
    rw [if_neg c4] at H;exact absurd H (by simp)
   rw [if_neg c3] at H;have c3b0 : decide (x5_1 < (l0.length : Int)) = false:=decide_eq_false c3;clear c3;obtain rfl:=Option.some.inj H
   go_wp2
   go_ret
   exact ⟨by first | rfl | (simp;done) | (simp [*];done),by repeat (first | exact Drawn0.refl _ | apply Drawn0.step)⟩
def laws_szVolS.f (l0 : List (S121)) (a1 : Int) : Option (Int):=if (wrap64 (a1 - (l0.length : Int))) < 0 then (some (-1)) else (some (wrap64 (a1 - (l0.length : Int))))
set_option maxHeartbeats 8000000 in
set_option maxRecDepth 100000 in
theorem laws_szVolS.calls (A0 : Option Addr) (c0 : Nat) (l0 : List (S121)) (a1 : Int) (r : Int) (w : World) (hr0 : Kd.C k121 w A0 l0.length l0) (hc0 : l0.length ≤ c0) (h : laws_szVolS.f l0 a1 = some r) :
  Calls Try.prog 42 #[.slice A0 l0.length c0,.int .i64 a1] w fun e w'=>e = .returned (.int .i64 r) ∧ Drawn0 w w':=by
 have HR0:=zMk hr0;have HC0:=zMk hc0;clear hr0 hc0;have H : (if (wrap64 (a1 - (l0.length : Int))) < 0 then (some (-1)) else (some (wrap64 (a1 - (l0.length : Int))))) = some r:=h;clear h
 by_cases c3 : (wrap64 (a1 - (l0.length : Int))) < 0
 ·rw [if_pos c3] at H;have c3b0 : decide ((wrap64 (a1 - (l0.length : Int))) < 0) = true:=decide_eq_true c3;clear c3;obtain rfl:=Option.some.inj H
  go_enter Try.func42,Try.ntmps42
  go_wp2
  go_ret
  exact ⟨by first | rfl | (simp;done) | (simp [*];done),by repeat (first | exact Drawn0.refl _ | apply Drawn0.step)⟩
 rw [if_neg c3] at H;have c3b0 : decide ((wrap64 (a1 - (l0.length : Int))) < 0) = false:=decide_eq_false c3;clear c3;obtain rfl:=Option.some.inj H
 go_enter Try.func42,Try.ntmps42
 go_wp2
 go_ret
 exact ⟨by first | rfl | (simp;done) | (simp [*];done),by repeat (first | exact Drawn0.refl _ | apply Drawn0.step)⟩
def laws_szIntS.f (l0 : List Int) (a1 : Int) : Option (Int):=if (wrap64 (a1 - (l0.length : Int))) < 0 then (some (-1)) else (some (wrap64 (a1 - (l0.length : Int))))
set_option maxHeartbeats 8000000 in
set_option maxRecDepth 100000 in
theorem laws_szIntS.calls (A0 : Option Addr) (c0 : Nat) (l0 : List Int) (a1 : Int) (r : Int) (w : World) (hr0 : Kd.C (Kd.int .i64) w A0 l0.length l0) (hc0 : l0.length ≤ c0) (h : laws_szIntS.f l0 a1 = some r) :
  Calls Try.prog 118 #[.slice A0 l0.length c0,.int .i64 a1] w fun e w'=>e = .returned (.int .i64 r) ∧ Drawn0 w w':=by
 have HR0:=zMk hr0;have HC0:=zMk hc0;clear hr0 hc0;have H : (if (wrap64 (a1 - (l0.length : Int))) < 0 then (some (-1)) else (some (wrap64 (a1 - (l0.length : Int))))) = some r:=h;clear h
 by_cases c3 : (wrap64 (a1 - (l0.length : Int))) < 0
 ·rw [if_pos c3] at H;have c3b0 : decide ((wrap64 (a1 - (l0.length : Int))) < 0) = true:=decide_eq_true c3;clear c3;obtain rfl:=Option.some.inj H
  go_enter Try.func118,Try.ntmps118
  go_wp2
  go_ret
  exact ⟨by first | rfl | (simp;done) | (simp [*];done),by repeat (first | exact Drawn0.refl _ | apply Drawn0.step)⟩
 rw [if_neg c3] at H;have c3b0 : decide ((wrap64 (a1 - (l0.length : Int))) < 0) = false:=decide_eq_false c3;clear c3;obtain rfl:=Option.some.inj H
 go_enter Try.func118,Try.ntmps118
 go_wp2
 go_ret
 exact ⟨by first | rfl | (simp;done) | (simp [*];done),by repeat (first | exact Drawn0.refl _ | apply Drawn0.step)⟩
def laws_szKnot.f (a0_0 : Bool) (l0_1 : List Int) (a1 : Int) : Option (Int):=(laws_szIntS.f l0_1 a1).bind fun t102=>(if t102 < 0 then (some (-1)) else (some t102))
set_option maxHeartbeats 8000000 in
set_option maxRecDepth 100000 in
theorem laws_szKnot.calls (a0_0 : Bool) (A0_1 : Option Addr) (c0_1 : Nat) (l0_1 : List Int) (a1 : Int) (r : Int) (w : World) (hr0_1 : Kd.C (Kd.int .i64) w A0_1 l0_1.length l0_1) (hc0_1 : l0_1.length ≤ c0_1) (h : laws_szKnot.f a0_0 l0_1 a1 = some r) :
  Calls Try.prog 98 #[.agg #[.bool a0_0,.slice A0_1 l0_1.length c0_1],.int .i64 a1] w fun e w'=>e = .returned (.int .i64 r) ∧ Below w.heap.size w w':=by
 have hu144:=Try.underlying144;have HR0_1:=zMk hr0_1;have HC0_1:=zMk hc0_1;clear hr0_1 hc0_1;have HB:=zMk (Below.refl w.heap.size w);have H : ((laws_szIntS.f l0_1 a1).bind fun t102=>(if t102 < 0 then (some (-1)) else (some t102))) = some r:=h;clear h;replace H:=Option.bind_eq_some_iff.mp H;obtain ⟨t102,A30,H⟩:=H;replace H : (if t102 < 0 then (some (-1)) else (some t102)) = some r:=H;have A3:=zMk A30;clear A30
 go_enter Try.func98,Try.ntmps98
 go_upto_if 10 with (first | ((with_reducible refine gate_dst (N:=2) rfl ?_);refine box_event ?hg (N:=2) ?hd (cs:=#[.bool a0_0,.slice A0_1 l0_1.length c0_1]) (t:=144) ?hr ?_;(case hd=>rfl);(case hg=>rfl);(case hr=>first | (go_simp;done) | (go_simp;rfl));intro gb101 hg w5 hbox hb;have n0_:=zMk (below_step (hs HB) hb);have n1_:=zMk (hbox);have n2_:=zMk ((by rw [hg];exact (below_size (hs HB)) : w.heap.size ≤ gb101));have n3_:=zMk ((by rw [hg];exact (below_size (hs HB)) : w.heap.size ≤ gb101));clear HB;have HB:=n0_;have BK101:=n1_;have GW101:=n2_;have GE101:=n3_;clear n0_ n1_ n2_ n3_;clear hb hbox hg;have hcz6_0 : w5.cell? ⟨gb101,0,none⟩ = some (.bool a0_0):=(zCl BK101.out 0).trans rfl;have hcz6_1 : w5.cell? ⟨gb101,1,none⟩ = some (.slice A0_1 l0_1.length c0_1):=(zCl BK101.out 1).trans rfl;have hfz6_0:=zFr BK101.out 0;have hfz6_1:=zFr BK101.out 1) | ((with_reducible refine gate_callee (f:=118) rfl ?_);refine goesL_ (some 8) rfl rfl Try.func118 (by kernel_rfl) rfl #[.slice A0_1 l0_1.length c0_1,.int .i64 a1] rfl (by (try simp only [List.map_toArray,List.map_cons,List.map_nil]);first | done | rfl | (simp only [List.length_drop,List.length_take];rfl)) ?_;(with_reducible refine (laws_szIntS.calls _ _ l0_1 a1 t102 _ ?side1 ?side2 A3.out).mono ?_);(case side1=>repeat (first | exact (Kd.C_below HR0_1.out HB.out) | (with_reducible refine Kd.C_alloc ?_ _) | (with_reducible refine Kd.C_drewN ?_ _) | (with_reducible refine Kd.C_drew ?_)));(case side2=>exact HC0_1.out);rintro e w' ⟨rfl,⟨nd,rfl⟩⟩;refine ⟨_,rfl,?_⟩))
 (try simp only [Act.put,zS1,zS2,zS3])
 by_cases c4 : t102 < 0
 ·rw [if_pos c4] at H;have c4b0 : decide (t102 < 0) = true:=decide_eq_true c4;clear c4
  (first | rw [c4b0] | (simp only [i64_w,i32_w];rw [c4b0]) | skip)
  obtain rfl:=Option.some.inj H
  go_wp2
  go_ret
  exact ⟨by first | rfl | (simp [errW_none,errW_some] <;> rfl) | (simp [*,errW_none,errW_some] <;> rfl),hs1 HB GE101⟩
 rw [if_neg c4] at H;have c4b0 : decide (t102 < 0) = false:=decide_eq_false c4;clear c4
 (first | rw [c4b0] | (simp only [i64_w,i32_w];rw [c4b0]) | skip)
 obtain rfl:=Option.some.inj H
 go_wp2
 go_ret
 exact ⟨by first | rfl | (simp [errW_none,errW_some] <;> rfl) | (simp [*,errW_none,errW_some] <;> rfl),hs1 HB GE101⟩
def laws_szKnotS.l0 : Nat → List (S144) → Int → Int → Option (Int)
 | 0,_,_,_=>none
 | k + 1,x0,x1,x5=>if x5 < (x0.length : Int) then (if 0 ≤ x5 then ((laws_szKnot.f ((rd_T144 x0 x5).f0) ((rd_T144 x0 x5).f1) x1).bind fun t104=>(if t104 < 0 then (some (-1)) else (laws_szKnotS.l0 k x0 t104 (wrap64 (x5 + 1))))) else (none)) else (some x1)
def laws_szKnotS.f (k : Nat) (l0 : List (S144)) (a1 : Int) : Option (Int):=if (wrap64 (a1 - (l0.length : Int))) < 0 then (some (-1)) else (laws_szKnotS.l0 k l0 (wrap64 (a1 - (l0.length : Int))) 0)
theorem laws_szKnotS.mono_l : ∀ k,(∀ y0 y1 y2,LeO (laws_szKnotS.l0 k y0 y1 y2) (laws_szKnotS.l0 (k + 1) y0 y1 y2))
 | 0=>fun _ _ _ r h=>by simp [laws_szKnotS.l0] at h
 | k + 1=>by
  have ih0:=laws_szKnotS.mono_l k;intro y0 y1 y2;unfold laws_szKnotS.l0
  repeat' first
  | (with_reducible exact ih0 _ _ _)
  | (with_reducible exact LeO.refl _)
  | (with_reducible exact LeO.none _)
  | (with_reducible refine LeO.ite ?_ ?_)
  | (with_reducible refine LeO.bind ?_ (fun _=>?_))
  | exact ih0 _ _ _
  | exact LeO.none _
  | refine LeO.ite ?_ ?_
  | refine LeO.bind ?_ (fun _=>?_)
theorem laws_szKnotS.mono : ∀ a0 a1 k,LeO (laws_szKnotS.f k a0 a1) (laws_szKnotS.f (k + 1) a0 a1):=by
 intro a0 a1 k;have ih0:=laws_szKnotS.mono_l k;unfold laws_szKnotS.f
 repeat' first
   | (with_reducible exact ih0 _ _ _)
   | (with_reducible exact LeO.refl _)
   | (with_reducible exact LeO.none _)
   | (with_reducible refine LeO.ite ?_ ?_)
   | (with_reducible refine LeO.bind ?_ (fun _=>?_))
   | exact ih0 _ _ _
   | exact LeO.none _
   | refine LeO.ite ?_ ?_
   | refine LeO.bind ?_ (fun _=>?_)
set_option maxHeartbeats 8000000 in
set_option maxRecDepth 100000 in
theorem laws_szKnotS.calls (k : Nat) (A0 : Option Addr) (c0 : Nat) (l0 : List (S144)) (a1 : Int) (r : Int) (w : World) (hr0 : Kd.C k144 w A0 l0.length l0) (hc0 : l0.length ≤ c0) (h : laws_szKnotS.f k l0 a1 = some r) :
  Calls Try.prog 76 #[.slice A0 l0.length c0,.int .i64 a1] w fun e w'=>e = .returned (.int .i64 r) ∧ Below w.heap.size w w':=by
 have hu144:=Try.underlying144;have HR0:=zMk hr0;have HC0:=zMk hc0;clear hr0 hc0;have HB:=zMk (Below.refl w.heap.size w);have H : (if (wrap64 (a1 - (l0.length : Int))) < 0 then (some (-1)) else (laws_szKnotS.l0 k l0 (wrap64 (a1 - (l0.length : Int))) 0)) = some r:=h;clear h
 by_cases c3 : (wrap64 (a1 - (l0.length : Int))) < 0
 ·rw [if_pos c3] at H;have c3b0 : decide ((wrap64 (a1 - (l0.length : Int))) < 0) = true:=decide_eq_true c3;clear c3;obtain rfl:=Option.some.inj H
  go_enter Try.func76,Try.ntmps76
  go_wp2
  go_ret
  exact ⟨by first | rfl | (simp [errW_none,errW_some] <;> rfl) | (simp [*,errW_none,errW_some] <;> rfl),hs HB⟩
 rw [if_neg c3] at H;have c3b0 : decide ((wrap64 (a1 - (l0.length : Int))) < 0) = false:=decide_eq_false c3;clear c3;have H':=zMk H;clear H
 go_enter Try.func76,Try.ntmps76
 go_wp2
 go_loopg [1,5] k (fun kq v1 v5 w'=>∃ (x1_1 : Int) (x5_1 : Int),v1 = .int .i64 x1_1 ∧ v5 = .int .i64 x5_1 ∧ Aside0 (laws_szKnotS.l0 kq l0 x1_1 x5_1 = some r) ∧ Aside0 (kq ≤ k) ∧ Aside0 (Below w.heap.size w w'));case atStart=>exact ⟨(wrap64 (a1 - (l0.length : Int))),(0),(by first | rfl | (simp;done) | (simp [*];done)),(by first | rfl | (simp;done) | (simp [*];done)),H',⟨Nat.le_refl _⟩,⟨hs HB⟩⟩
 case round =>
  clear H'
  try clear p2
  try clear c3
  try clear c3b0
  obtain ⟨x1_1,x5_1,rfl,rfl,HA,HK1,HB⟩:=hrel;cases gk with
  | zero=>exact absurd HA.out (by simp [laws_szKnotS.l0])
  | succ k1 =>
   have H:=HA.out;clear HA;simp only [laws_szKnotS.l0] at H
   by_cases c4 : x5_1 < (l0.length : Int)
   ·rw [if_pos c4] at H;have c4b0 : decide (x5_1 < (l0.length : Int)) = true:=decide_eq_true c4;clear c4
    by_cases c5 : 0 ≤ x5_1
    ·rw [if_pos c5] at H;have c5b0 : decide (0 ≤ x5_1) = true:=decide_eq_true c5;clear c5;replace H:=Option.bind_eq_some_iff.mp H;obtain ⟨t104,A60,H⟩:=H;replace H : (if t104 < 0 then (some (-1)) else (laws_szKnotS.l0 k1 l0 t104 (wrap64 (x5_1 + 1)))) = some r:=H;have A6:=zMk A60;clear A60;have p103 : 0 ≤ (x5_1 : Int):=zDe (by first | (with_reducible assumption) | assumption);have q103 : x5_1 < (l0.length : Int):=zDe (by first | (with_reducible assumption) | assumption);obtain ⟨ad103,A103_1,c103_1,e103,hx103_0,hx103_1,hl103_1,hi103_1⟩:=at_T144 HR0.out x5_1 p103 q103;cases e103;replace hx103_0:=(HB.out.cell (zBl w _ hx103_0)).trans hx103_0;replace hx103_1:=(HB.out.cell (zBl w _ hx103_1)).trans hx103_1;have HR103_1:=zMk hi103_1;have HC103_1:=zMk hl103_1;clear hi103_1 hl103_1;replace p103:=eq_true p103;replace q103:=eq_true q103
     go_upto_if 25 with (first | ((with_reducible refine gate_callee (f:=98) rfl ?_);refine goesL_ (some 23) rfl rfl Try.func98 (by kernel_rfl) rfl #[.agg #[.bool ((rd_T144 l0 x5_1).f0),.slice A103_1 ((rd_T144 l0 x5_1).f1).length c103_1],.int .i64 x1_1] rfl (by (try simp only [List.map_toArray,List.map_cons,List.map_nil]);first | done | rfl | (simp only [List.length_drop,List.length_take];rfl)) ?_;(with_reducible refine (laws_szKnot.calls ((rd_T144 l0 x5_1).f0) _ _ ((rd_T144 l0 x5_1).f1) x1_1 t104 _ ?side1 ?side2 A6.out).mono ?_);(case side1=>repeat (first | exact (Kd.C_below HR103_1.out HB.out) | (with_reducible refine Kd.C_alloc ?_ _) | (with_reducible refine Kd.C_drewN ?_ _) | (with_reducible refine Kd.C_drew ?_)));(case side2=>exact HC103_1.out);rintro e w8 ⟨rfl,hb⟩;refine ⟨_,rfl,?_⟩;have n0_:=zMk (below_step (hs HB) hb);clear HB;have HB:=n0_;clear n0_;(try clear hb);(try clear hb2);(try clear hk);(try clear hi)))
     (try simp only [Act.put,zS1,zS2,zS3])
     by_cases c7 : t104 < 0
     ·rw [if_pos c7] at H;have c7b0 : decide (t104 < 0) = true:=decide_eq_true c7;clear c7
      (first | rw [c7b0] | (simp only [i64_w,i32_w];rw [c7b0]) | skip)
      obtain rfl:=Option.some.inj H
      go_wp2
      go_ret
      exact ⟨by first | rfl | (simp [errW_none,errW_some] <;> rfl) | (simp [*,errW_none,errW_some] <;> rfl),hs HB⟩
     rw [if_neg c7] at H;have c7b0 : decide (t104 < 0) = false:=decide_eq_false c7;clear c7
     (first | rw [c7b0] | (simp only [i64_w,i32_w];rw [c7b0]) | skip)
     have H':=zMk H;clear H
     go_wp2
     go_roundg k1;case measure=>have:=HK1.out;omega
     case rel=>exact ⟨(t104),(wrap64 (x5_1 + 1)),(by first | rfl | (simp;done) | (simp [*];done)),(by first | rfl | (simp;done) | (simp [*];done)),H',⟨by have:=HK1.out;omega⟩,⟨hs HB⟩⟩
    rw [if_neg c5] at H;exact absurd H (by simp)
   rw [if_neg c4] at H;have c4b0 : decide (x5_1 < (l0.length : Int)) = false:=decide_eq_false c4;clear c4;obtain rfl:=Option.some.inj H
   go_wp2
   go_ret
   exact ⟨by first | rfl | (simp [errW_none,errW_some] <;> rfl) | (simp [*,errW_none,errW_some] <;> rfl),hs HB⟩
def laws_szArena.f (k : Nat) (l0_0 : List (S144)) (a1 : Int) : Option (Int):=(laws_szKnotS.f k l0_0 a1).bind fun t106=>(if t106 < 0 then (some (-1)) else (some t106))
theorem laws_szArena.mono : ∀ a0 a1 k,LeO (laws_szArena.f k a0 a1) (laws_szArena.f (k + 1) a0 a1):=by
 intro a0 a1 k;unfold laws_szArena.f
 repeat' first
   | (with_reducible exact laws_szKnotS.mono _ _ _)
   | (with_reducible exact LeO.refl _)
   | (with_reducible exact LeO.none _)
   | (with_reducible refine LeO.ite ?_ ?_)
   | (with_reducible refine LeO.bind ?_ (fun _=>?_))
   | exact laws_szKnotS.mono _ _ _
   | exact LeO.none _
   | refine LeO.ite ?_ ?_
   | refine LeO.bind ?_ (fun _=>?_)
set_option maxHeartbeats 8000000 in
set_option maxRecDepth 100000 in
theorem laws_szArena.calls (k : Nat) (A0_0 : Option Addr) (c0_0 : Nat) (l0_0 : List (S144)) (a1 : Int) (r : Int) (w : World) (hr0_0 : Kd.C k144 w A0_0 l0_0.length l0_0) (hc0_0 : l0_0.length ≤ c0_0) (h : laws_szArena.f k l0_0 a1 = some r) :
  Calls Try.prog 43 #[.agg #[.slice A0_0 l0_0.length c0_0],.int .i64 a1] w fun e w'=>e = .returned (.int .i64 r) ∧ Below w.heap.size w w':=by
 have hu25:=Try.underlying25;have HR0_0:=zMk hr0_0;have HC0_0:=zMk hc0_0;clear hr0_0 hc0_0;have HB:=zMk (Below.refl w.heap.size w);have H : ((laws_szKnotS.f k l0_0 a1).bind fun t106=>(if t106 < 0 then (some (-1)) else (some t106))) = some r:=h;clear h;replace H:=Option.bind_eq_some_iff.mp H;obtain ⟨t106,A30,H⟩:=H;replace H : (if t106 < 0 then (some (-1)) else (some t106)) = some r:=H;have A3:=zMk A30;clear A30
 go_enter Try.func43,Try.ntmps43
 go_upto_if 10 with (first | ((with_reducible refine gate_dst (N:=2) rfl ?_);refine box_event ?hg (N:=2) ?hd (cs:=#[.slice A0_0 l0_0.length c0_0]) (t:=25) ?hr ?_;(case hd=>rfl);(case hg=>rfl);(case hr=>first | (go_simp;done) | (go_simp;rfl));intro gb105 hg w5 hbox hb;have n0_:=zMk (below_step (hs HB) hb);have n1_:=zMk (hbox);have n2_:=zMk ((by rw [hg];exact (below_size (hs HB)) : w.heap.size ≤ gb105));have n3_:=zMk ((by rw [hg];exact (below_size (hs HB)) : w.heap.size ≤ gb105));clear HB;have HB:=n0_;have BK105:=n1_;have GW105:=n2_;have GE105:=n3_;clear n0_ n1_ n2_ n3_;clear hb hbox hg;have hcz6_0 : w5.cell? ⟨gb105,0,none⟩ = some (.slice A0_0 l0_0.length c0_0):=(zCl BK105.out 0).trans rfl;have hfz6_0:=zFr BK105.out 0) | ((with_reducible refine gate_callee (f:=76) rfl ?_);refine goesL_ (some 8) rfl rfl Try.func76 (by kernel_rfl) rfl #[.slice A0_0 l0_0.length c0_0,.int .i64 a1] rfl (by (try simp only [List.map_toArray,List.map_cons,List.map_nil]);first | done | rfl | (simp only [List.length_drop,List.length_take];rfl)) ?_;(with_reducible refine (laws_szKnotS.calls k _ _ l0_0 a1 t106 _ ?side1 ?side2 A3.out).mono ?_);(case side1=>repeat (first | exact (Kd.C_below HR0_0.out HB.out) | (with_reducible refine Kd.C_alloc ?_ _) | (with_reducible refine Kd.C_drewN ?_ _) | (with_reducible refine Kd.C_drew ?_)));(case side2=>exact HC0_0.out);rintro e w7 ⟨rfl,hb⟩;refine ⟨_,rfl,?_⟩;have n0_:=zMk (blk_below (g:=gb105) (o:=.cells #[.slice A0_0 l0_0.length c0_0] 25 (0,0)) (bs BK105) hb);have n1_:=zMk (below_step (hs1 HB GE105) hb);clear BK105;clear HB;have BK105:=n0_;have HB:=n1_;clear n0_ n1_;(try clear hb);(try clear hb2);(try clear hk);(try clear hi)))
 (try simp only [Act.put,zS1,zS2,zS3])
 by_cases c4 : t106 < 0
 ·rw [if_pos c4] at H;have c4b0 : decide (t106 < 0) = true:=decide_eq_true c4;clear c4
  (first | rw [c4b0] | (simp only [i64_w,i32_w];rw [c4b0]) | skip)
  obtain rfl:=Option.some.inj H
  go_wp2
  go_ret
  exact ⟨by first | rfl | (simp [errW_none,errW_some] <;> rfl) | (simp [*,errW_none,errW_some] <;> rfl),hs1 HB GE105⟩
 rw [if_neg c4] at H;have c4b0 : decide (t106 < 0) = false:=decide_eq_false c4;clear c4
 (first | rw [c4b0] | (simp only [i64_w,i32_w];rw [c4b0]) | skip)
 obtain rfl:=Option.some.inj H
 go_wp2
 go_ret
 exact ⟨by first | rfl | (simp [errW_none,errW_some] <;> rfl) | (simp [*,errW_none,errW_some] <;> rfl),hs1 HB GE105⟩
def laws_szStore.f (k : Nat) (l0_0 : List (S121)) (l0_1 : List (S144)) (a0_2 : Int) (a1 : Int) : Option (Int):=(laws_szVolS.f l0_0 a1).bind fun t108=>(if t108 < 0 then (some (-1)) else ((laws_szArena.f k l0_1 t108).bind fun t109=>(if t109 < 0 then (some (-1)) else (some t109))))
theorem laws_szStore.mono : ∀ a0 a1 a2 a3 k,LeO (laws_szStore.f k a0 a1 a2 a3) (laws_szStore.f (k + 1) a0 a1 a2 a3):=by
 intro a0 a1 a2 a3 k;unfold laws_szStore.f
 repeat' first
   | (with_reducible exact laws_szArena.mono _ _ _)
   | (with_reducible exact LeO.refl _)
   | (with_reducible exact LeO.none _)
   | (with_reducible refine LeO.ite ?_ ?_)
   | (with_reducible refine LeO.bind ?_ (fun _=>?_))
   | exact laws_szArena.mono _ _ _
   | exact LeO.none _
   | refine LeO.ite ?_ ?_
   | refine LeO.bind ?_ (fun _=>?_)
set_option maxHeartbeats 8000000 in
set_option maxRecDepth 100000 in
theorem laws_szStore.calls (k : Nat) (A0_0 : Option Addr) (c0_0 : Nat) (l0_0 : List (S121)) (A0_1 : Option Addr) (c0_1 : Nat) (l0_1 : List (S144)) (a0_2 : Int) (a1 : Int) (r : Int) (w : World) (hr0_0 : Kd.C k121 w A0_0 l0_0.length l0_0) (hc0_0 : l0_0.length ≤ c0_0) (hr0_1 : Kd.C k144 w A0_1 l0_1.length l0_1) (hc0_1 : l0_1.length ≤ c0_1) (h : laws_szStore.f k l0_0 l0_1 a0_2 a1 = some r) :
  Calls Try.prog 8 #[.agg #[.slice A0_0 l0_0.length c0_0,.slice A0_1 l0_1.length c0_1,.int .i64 a0_2],.int .i64 a1] w fun e w'=>e = .returned (.int .i64 r) ∧ Below w.heap.size w w':=by
 have hu27:=Try.underlying27;have hu25:=Try.underlying25;have HR0_0:=zMk hr0_0;have HC0_0:=zMk hc0_0;clear hr0_0 hc0_0;have HR0_1:=zMk hr0_1;have HC0_1:=zMk hc0_1;clear hr0_1 hc0_1;have HB:=zMk (Below.refl w.heap.size w);have H : ((laws_szVolS.f l0_0 a1).bind fun t108=>(if t108 < 0 then (some (-1)) else ((laws_szArena.f k l0_1 t108).bind fun t109=>(if t109 < 0 then (some (-1)) else (some t109))))) = some r:=h;clear h;replace H:=Option.bind_eq_some_iff.mp H;obtain ⟨t108,A30,H⟩:=H;replace H : (if t108 < 0 then (some (-1)) else ((laws_szArena.f k l0_1 t108).bind fun t109=>(if t109 < 0 then (some (-1)) else (some t109)))) = some r:=H;have A3:=zMk A30;clear A30
 go_enter Try.func8,Try.ntmps8
 go_upto_if 10 with (first | ((with_reducible refine gate_dst (N:=2) rfl ?_);refine box_event ?hg (N:=2) ?hd (cs:=#[.slice A0_0 l0_0.length c0_0,.slice A0_1 l0_1.length c0_1,.int .i64 a0_2]) (t:=27) ?hr ?_;(case hd=>rfl);(case hg=>rfl);(case hr=>first | (go_simp;done) | (go_simp;rfl));intro gb107 hg w5 hbox hb;have n0_:=zMk (below_step (hs HB) hb);have n1_:=zMk (hbox);have n2_:=zMk ((by rw [hg];exact (below_size (hs HB)) : w.heap.size ≤ gb107));have n3_:=zMk ((by rw [hg];exact (below_size (hs HB)) : w.heap.size ≤ gb107));clear HB;have HB:=n0_;have BK107:=n1_;have GW107:=n2_;have GE107:=n3_;clear n0_ n1_ n2_ n3_;clear hb hbox hg;have hcz6_0 : w5.cell? ⟨gb107,0,none⟩ = some (.slice A0_0 l0_0.length c0_0):=(zCl BK107.out 0).trans rfl;have hcz6_1 : w5.cell? ⟨gb107,1,none⟩ = some (.slice A0_1 l0_1.length c0_1):=(zCl BK107.out 1).trans rfl;have hcz6_2 : w5.cell? ⟨gb107,2,none⟩ = some (.int .i64 a0_2):=(zCl BK107.out 2).trans rfl;have hfz6_0:=zFr BK107.out 0;have hfz6_1:=zFr BK107.out 1;have hfz6_2:=zFr BK107.out 2) | ((with_reducible refine gate_callee (f:=42) rfl ?_);refine goesL_ (some 8) rfl rfl Try.func42 (by kernel_rfl) rfl #[.slice A0_0 l0_0.length c0_0,.int .i64 a1] rfl (by (try simp only [List.map_toArray,List.map_cons,List.map_nil]);first | done | rfl | (simp only [List.length_drop,List.length_take];rfl)) ?_;(with_reducible refine (laws_szVolS.calls _ _ l0_0 a1 t108 _ ?side1 ?side2 A3.out).mono ?_);(case side1=>repeat (first | exact (Kd.C_below HR0_0.out HB.out) | (with_reducible refine Kd.C_alloc ?_ _) | (with_reducible refine Kd.C_drewN ?_ _) | (with_reducible refine Kd.C_drew ?_)));(case side2=>exact HC0_0.out);rintro e w' ⟨rfl,⟨nd,rfl⟩⟩;refine ⟨_,rfl,?_⟩))
 (try simp only [Act.put,zS1,zS2,zS3])
 by_cases c4 : t108 < 0
 ·rw [if_pos c4] at H;have c4b0 : decide (t108 < 0) = true:=decide_eq_true c4;clear c4
  (first | rw [c4b0] | (simp only [i64_w,i32_w];rw [c4b0]) | skip)
  obtain rfl:=Option.some.inj H
  go_wp2
  go_ret
  exact ⟨by first | rfl | (simp [errW_none,errW_some] <;> rfl) | (simp [*,errW_none,errW_some] <;> rfl),hs1 HB GE107⟩
 rw [if_neg c4] at H;have c4b0 : decide (t108 < 0) = false:=decide_eq_false c4;clear c4
 (first | rw [c4b0] | (simp only [i64_w,i32_w];rw [c4b0]) | skip)
 replace H:=Option.bind_eq_some_iff.mp H;obtain ⟨t109,A70,H⟩:=H;replace H : (if t109 < 0 then (some (-1)) else (some t109)) = some r:=H;have A7:=zMk A70;clear A70
 go_upto_if 16 with (first | ((with_reducible refine gate_callee (f:=43) rfl ?_);refine goesL_ (some 14) rfl rfl Try.func43 (by kernel_rfl) rfl #[.agg #[.slice A0_1 l0_1.length c0_1],.int .i64 t108] rfl (by (try simp only [List.map_toArray,List.map_cons,List.map_nil]);first | done | rfl | (simp only [List.length_drop,List.length_take];rfl)) ?_;(with_reducible refine (laws_szArena.calls k _ _ l0_1 t108 t109 _ ?side1 ?side2 A7.out).mono ?_);(case side1=>repeat (first | exact (Kd.C_below HR0_1.out (hs1 HB GE107)) | (with_reducible refine Kd.C_alloc ?_ _) | (with_reducible refine Kd.C_drewN ?_ _) | (with_reducible refine Kd.C_drew ?_)));(case side2=>exact HC0_1.out);rintro e w11 ⟨rfl,hb⟩;refine ⟨_,rfl,?_⟩;have n0_:=zMk (blk_below (g:=gb107) (o:=.cells #[.slice A0_0 l0_0.length c0_0,.slice A0_1 l0_1.length c0_1,.int .i64 a0_2] 27 (0,0)) (bs BK107) hb);have n1_:=zMk (below_step (hs1 HB GE107) hb);clear BK107;clear HB;have BK107:=n0_;have HB:=n1_;clear n0_ n1_;(try clear hb);(try clear hb2);(try clear hk);(try clear hi)))
 (try simp only [Act.put,zS1,zS2,zS3])
 by_cases c8 : t109 < 0
 ·rw [if_pos c8] at H;have c8b0 : decide (t109 < 0) = true:=decide_eq_true c8;clear c8
  (first | rw [c8b0] | (simp only [i64_w,i32_w];rw [c8b0]) | skip)
  obtain rfl:=Option.some.inj H
  go_wp2
  go_ret
  exact ⟨by first | rfl | (simp [errW_none,errW_some] <;> rfl) | (simp [*,errW_none,errW_some] <;> rfl),hs1 HB GE107⟩
 rw [if_neg c8] at H;have c8b0 : decide (t109 < 0) = false:=decide_eq_false c8;clear c8
 (first | rw [c8b0] | (simp only [i64_w,i32_w];rw [c8b0]) | skip)
 obtain rfl:=Option.some.inj H
 go_wp2
 go_ret
 exact ⟨by first | rfl | (simp [errW_none,errW_some] <;> rfl) | (simp [*,errW_none,errW_some] <;> rfl),hs1 HB GE107⟩
end Go.Proofs.Ytklkhnomnanpoaa.PK
