/- FnExactGather: functions of the translation as Lean functions with what their calls come to, plain lemmas on them, and, at the end, the row. Parts of one proof, merged by a program of this session; each part's own sentence stands at its head. -/
import Derived.Shelf.Sort.Plain
import Derived.Shelf.Slices.In.SortNone2
import Derived.Sort.OwnSortedInts
import Derived.Test.YtodokejcmbjpbaaMFnExactGatherb
set_option linter.unusedSimpArgs false
set_option linter.unusedVariables false
namespace Go.Proofs.Ytodokejcmbjpbaa.PK
open Go.RowKit Go.Proofs.YtodokejcmbjpbaaW.PrintWords Go.Proofs.YtodokejcmbjpbaaW.PrintLast Go.Proofs.YtodokejcmbjpbaaW.PrintMore
attribute [local go_sem] max2_int min2_int max_two min_two max_three min_three max_four min_four
def impl_gathered.l0 : Nat → List (S36) → Int → ByteArray → Int → Int → Int → Int → Int → Int → Int → ByteArray → Option (Int × Int × (List (S45)) × Bool)
 | 0,_,_,_,_,_,_,_,_,_,_,_=>none
 | k + 1,x0,x1,x8,x9,x10,x443000,x443001,x443002,x443003,x443004,x443005=>if x10 < x443004 then ((impl_metaOf.f k x0 x1 x10 x443004).bind fun bt443=>(if bt443.2.2.2.2.2.2 = true then (if x8.size + bt443.2.2.2.2.2.1.size ≤ 9223372036854775807 then (impl_gathered.l0 k x0 x1 (x8 ++ bt443.2.2.2.2.2.1) (mn x9 bt443.2.1) (wrap64 (x10 + 1)) x443000 x443001 x443002 x443003 x443004 x443005) else (none)) else (some (0,0,([] : List (S45)),false)))) else ((impl_ReadRecs.f k x8).bind fun bt451=>(some (x1,x9,bt451.1,bt451.2)))
def impl_gathered.f (k : Nat) (l0 : List (S36)) (a1 : Int) : Option (Int × Int × (List (S45)) × Bool):=(impl_metaOf.f k l0 a1 0 0).bind fun bt435=>(if bt435.2.2.2.2.2.2 = true then (impl_gathered.l0 k l0 a1 bt435.2.2.2.2.2.1 bt435.2.1 1 bt435.1 bt435.2.1 bt435.2.2.1 bt435.2.2.2.1 bt435.2.2.2.2.1 bt435.2.2.2.2.2.1) else (some (0,0,([] : List (S45)),false)))
theorem impl_gathered.mono_l : ∀ k,(∀ y0 y1 y2 y3 y4 y5 y6 y7 y8 y9 y10,LeO (impl_gathered.l0 k y0 y1 y2 y3 y4 y5 y6 y7 y8 y9 y10) (impl_gathered.l0 (k + 1) y0 y1 y2 y3 y4 y5 y6 y7 y8 y9 y10))
 | 0=>fun _ _ _ _ _ _ _ _ _ _ _ r h=>by simp [impl_gathered.l0] at h
 | k + 1=>by
  have ih0:=impl_gathered.mono_l k;intro y0 y1 y2 y3 y4 y5 y6 y7 y8 y9 y10;unfold impl_gathered.l0
  repeat' first
  | (with_reducible exact ih0 _ _ _ _ _ _ _ _ _ _ _)
  | (with_reducible exact impl_ReadRecs.mono _ _)
  | (with_reducible exact impl_metaOf.mono _ _ _ _ _)
  | (with_reducible exact LeO.refl _)
  | (with_reducible exact LeO.none _)
  | (with_reducible refine LeO.ite ?_ ?_)
  | (with_reducible refine LeO.bind ?_ (fun _=>?_))
  | exact ih0 _ _ _ _ _ _ _ _ _ _ _
  | exact impl_ReadRecs.mono _ _
  | exact impl_metaOf.mono _ _ _ _ _
  | exact LeO.none _
  | refine LeO.ite ?_ ?_
  | refine LeO.bind ?_ (fun _=>?_)
theorem impl_gathered.mono : ∀ a0 a1 k,LeO (impl_gathered.f k a0 a1) (impl_gathered.f (k + 1) a0 a1):=by
 intro a0 a1 k;have ih0:=impl_gathered.mono_l k;unfold impl_gathered.f
 repeat' first
   | (with_reducible exact ih0 _ _ _ _ _ _ _ _ _ _ _)
   | (with_reducible exact impl_ReadRecs.mono _ _)
   | (with_reducible exact impl_metaOf.mono _ _ _ _ _)
   | (with_reducible exact LeO.refl _)
   | (with_reducible exact LeO.none _)
   | (with_reducible refine LeO.ite ?_ ?_)
   | (with_reducible refine LeO.bind ?_ (fun _=>?_))
   | exact ih0 _ _ _ _ _ _ _ _ _ _ _
   | exact impl_ReadRecs.mono _ _
   | exact impl_metaOf.mono _ _ _ _ _
   | exact LeO.none _
   | refine LeO.ite ?_ ?_
   | refine LeO.bind ?_ (fun _=>?_)
set_option maxHeartbeats 8000000 in
set_option maxRecDepth 100000 in
theorem impl_gathered.calls (k : Nat) (A0 : Option Addr) (c0 : Nat) (l0 : List (S36)) (a1 : Int) (r1 : Int) (r2 : Int) (r3 : List (S45)) (r4 : Bool) (w : World) (hr0 : Kd.C k36 w A0 l0.length l0) (hc0 : l0.length ≤ c0) (h : impl_gathered.f k l0 a1 = some (r1,r2,r3,r4)) :
  Calls Try.prog 37 #[.slice A0 l0.length c0,.int .i64 a1] w fun e w'=>∃ v2_ : Value,e = .returned (.tuple #[.agg #[.int .i64 r1,.int .i64 r2,v2_],.bool r4]) ∧ Kd.R k45 45 w' w.heap.size (fun _=>True) v2_ r3 ∧ Below w.heap.size w w':=by
 have hu40:=Try.underlying40;have hu33:=Try.underlying33;have HR0:=zMk hr0;have HC0:=zMk hc0;clear hr0 hc0;have HB:=zMk (Below.refl w.heap.size w);have H : ((impl_metaOf.f k l0 a1 0 0).bind fun bt435=>(if bt435.2.2.2.2.2.2 = true then (impl_gathered.l0 k l0 a1 bt435.2.2.2.2.2.1 bt435.2.1 1 bt435.1 bt435.2.1 bt435.2.2.1 bt435.2.2.2.1 bt435.2.2.2.2.1 bt435.2.2.2.2.2.1) else (some (0,0,([] : List (S45)),false)))) = some (r1,r2,r3,r4):=h;clear h;replace H:=Option.bind_eq_some_iff.mp H;obtain ⟨⟨t435,t436,t437,t438,t439,t440,t441⟩,A30,H⟩:=H;replace H : (if t441 = true then (impl_gathered.l0 k l0 a1 t440 t436 1 t435 t436 t437 t438 t439 t440) else (some (0,0,([] : List (S45)),false))) = some (r1,r2,r3,r4):=H;have A3:=zMk A30;clear A30
 by_cases c4 : t441 = true
 ·subst c4;have H1 : (impl_gathered.l0 k l0 a1 t440 t436 1 t435 t436 t437 t438 t439 t440) = some (r1,r2,r3,r4):=by rw [if_pos rfl] at H;exact H
  clear H;have H:=H1;clear H1;have H':=zMk H;clear H
  go_enter Try.func37,Try.ntmps37
  go_wp2_with (first | ((with_reducible refine gate_dst (N:=4) rfl ?_);refine box_event ?hg (N:=4) ?hd (cs:=#[.int .i64 0,.int .i64 0,.slice none 0 0]) (t:=40) ?hr ?_;(case hd=>rfl);(case hg=>rfl);(case hr=>first | (go_simp;done) | (go_simp;rfl));intro gb434 hg w5 hbox hb;have n0_:=zMk (below_step (hs HB) hb);have n1_:=zMk (hbox);have n2_:=zMk ((by rw [hg];exact (below_size (hs HB)) : w.heap.size ≤ gb434));have n3_:=zMk ((by rw [hg];exact (below_size (hs HB)) : w.heap.size ≤ gb434));clear HB;have HB:=n0_;have BK434:=n1_;have GW434:=n2_;have GE434:=n3_;clear n0_ n1_ n2_ n3_;clear hb hbox hg) | (go_at_call 55;(with_reducible refine (impl_metaOf.calls k _ _ l0 a1 0 0 t435 t436 t437 t438 t439 t440 true _ ?side1 ?side2 A3.out).mono ?_);(case side1=>repeat (first | exact (Kd.C_below HR0.out HB.out) | (with_reducible refine Kd.C_alloc ?_ _) | (with_reducible refine Kd.C_drewN ?_ _) | (with_reducible refine Kd.C_drew ?_)));(case side2=>exact HC0.out);rintro e w6 ⟨rfl,hb⟩;have n0_:=zMk (blk_below (g:=gb434) (o:=.cells #[.int .i64 0,.int .i64 0,.slice none 0 0] 40 (0,0)) (bs BK434) hb);have n1_:=zMk (below_step (hs1 HB GE434) hb);clear BK434;clear HB;have BK434:=n0_;have HB:=n1_;clear n0_ n1_;(try clear hb);(try clear hb2);(try clear hk);(try clear hi)) | ((with_reducible refine gate_dst (N:=6) rfl ?_);refine box_event ?hg (N:=6) ?hd (cs:=#[.int .i64 0,.int .i64 0,.int .i64 0,.int .i64 0,.int .i64 0,.string (⟨#[]⟩ : ByteArray)]) (t:=33) ?hr ?_;(case hd=>rfl);(case hg=>rfl);(case hr=>first | (go_simp;done) | (go_simp;rfl));intro gb442 hg w7 hbox hb;have n0_:=zMk (blk_below (g:=gb434) (o:=.cells #[.int .i64 0,.int .i64 0,.slice none 0 0] 40 (0,0)) (bs BK434) hb);have n1_:=zMk (below_step (hs1 HB GE434) hb);have n2_:=zMk (hbox);have n3_:=zMk ((by rw [hg];exact (below_size (hs1 HB GE434)) : w.heap.size ≤ gb442));have n4_:=zMk ((by rw [hg];exact (below_size (hs1 HB GE434)) : w.heap.size ≤ gb442));have n5_:=zMk ((by rw [hg];exact Nat.ne_of_lt (blk_lt (g:=gb434) (o:=.cells #[.int .i64 0,.int .i64 0,.slice none 0 0] 40 (0,0)) (bs BK434)) : gb434 ≠ gb442));have n6_:=zMk ((by rw [hg];exact Nat.ne_of_gt (blk_lt (g:=gb434) (o:=.cells #[.int .i64 0,.int .i64 0,.slice none 0 0] 40 (0,0)) (bs BK434)) : gb442 ≠ gb434));clear BK434;clear HB;have BK434:=n0_;have HB:=n1_;have BK442:=n2_;have GW442:=n3_;have GE442:=n4_;have NB434_442:=n5_;have NB442_434:=n6_;clear n0_ n1_ n2_ n3_ n4_ n5_ n6_;clear hb hbox hg;have hnb8:=NB442_434.out;have hnc8:=NB434_442.out;have hcz9_0 : w7.cell? ⟨gb442,0,none⟩ = some (.int .i64 0):=(zCl BK442.out 0).trans rfl;have hcz9_1 : w7.cell? ⟨gb442,1,none⟩ = some (.int .i64 0):=(zCl BK442.out 1).trans rfl;have hcz9_2 : w7.cell? ⟨gb442,2,none⟩ = some (.int .i64 0):=(zCl BK442.out 2).trans rfl;have hcz9_3 : w7.cell? ⟨gb442,3,none⟩ = some (.int .i64 0):=(zCl BK442.out 3).trans rfl;have hcz9_4 : w7.cell? ⟨gb442,4,none⟩ = some (.int .i64 0):=(zCl BK442.out 4).trans rfl;have hcz9_5 : w7.cell? ⟨gb442,5,none⟩ = some (.string (⟨#[]⟩ : ByteArray)):=(zCl BK442.out 5).trans rfl;have hfz9_0:=zFr BK442.out 0;have hfz9_1:=zFr BK442.out 1;have hfz9_2:=zFr BK442.out 2;have hfz9_3:=zFr BK442.out 3;have hfz9_4:=zFr BK442.out 4;have hfz9_5:=zFr BK442.out 5))
  repeat (go_quiet (first | ((with_reducible refine gate_dst (N:=4) rfl ?_);refine box_event ?hg (N:=4) ?hd (cs:=#[.int .i64 0,.int .i64 0,.slice none 0 0]) (t:=40) ?hr ?_;(case hd=>rfl);(case hg=>rfl);(case hr=>first | (go_simp;done) | (go_simp;rfl));intro gb434 hg w5 hbox hb;have n0_:=zMk (below_step (hs HB) hb);have n1_:=zMk (hbox);have n2_:=zMk ((by rw [hg];exact (below_size (hs HB)) : w.heap.size ≤ gb434));have n3_:=zMk ((by rw [hg];exact (below_size (hs HB)) : w.heap.size ≤ gb434));clear HB;have HB:=n0_;have BK434:=n1_;have GW434:=n2_;have GE434:=n3_;clear n0_ n1_ n2_ n3_;clear hb hbox hg) | (go_at_call 55;(with_reducible refine (impl_metaOf.calls k _ _ l0 a1 0 0 t435 t436 t437 t438 t439 t440 true _ ?side1 ?side2 A3.out).mono ?_);(case side1=>repeat (first | exact (Kd.C_below HR0.out HB.out) | (with_reducible refine Kd.C_alloc ?_ _) | (with_reducible refine Kd.C_drewN ?_ _) | (with_reducible refine Kd.C_drew ?_)));(case side2=>exact HC0.out);rintro e w6 ⟨rfl,hb⟩;have n0_:=zMk (blk_below (g:=gb434) (o:=.cells #[.int .i64 0,.int .i64 0,.slice none 0 0] 40 (0,0)) (bs BK434) hb);have n1_:=zMk (below_step (hs1 HB GE434) hb);clear BK434;clear HB;have BK434:=n0_;have HB:=n1_;clear n0_ n1_;(try clear hb);(try clear hb2);(try clear hk);(try clear hi)) | ((with_reducible refine gate_dst (N:=6) rfl ?_);refine box_event ?hg (N:=6) ?hd (cs:=#[.int .i64 0,.int .i64 0,.int .i64 0,.int .i64 0,.int .i64 0,.string (⟨#[]⟩ : ByteArray)]) (t:=33) ?hr ?_;(case hd=>rfl);(case hg=>rfl);(case hr=>first | (go_simp;done) | (go_simp;rfl));intro gb442 hg w7 hbox hb;have n0_:=zMk (blk_below (g:=gb434) (o:=.cells #[.int .i64 0,.int .i64 0,.slice none 0 0] 40 (0,0)) (bs BK434) hb);have n1_:=zMk (below_step (hs1 HB GE434) hb);have n2_:=zMk (hbox);have n3_:=zMk ((by rw [hg];exact (below_size (hs1 HB GE434)) : w.heap.size ≤ gb442));have n4_:=zMk ((by rw [hg];exact (below_size (hs1 HB GE434)) : w.heap.size ≤ gb442));have n5_:=zMk ((by rw [hg];exact Nat.ne_of_lt (blk_lt (g:=gb434) (o:=.cells #[.int .i64 0,.int .i64 0,.slice none 0 0] 40 (0,0)) (bs BK434)) : gb434 ≠ gb442));have n6_:=zMk ((by rw [hg];exact Nat.ne_of_gt (blk_lt (g:=gb434) (o:=.cells #[.int .i64 0,.int .i64 0,.slice none 0 0] 40 (0,0)) (bs BK434)) : gb442 ≠ gb434));clear BK434;clear HB;have BK434:=n0_;have HB:=n1_;have BK442:=n2_;have GW442:=n3_;have GE442:=n4_;have NB434_442:=n5_;have NB442_434:=n6_;clear n0_ n1_ n2_ n3_ n4_ n5_ n6_;clear hb hbox hg;have hnb8:=NB442_434.out;have hnc8:=NB434_442.out;have hcz9_0 : w7.cell? ⟨gb442,0,none⟩ = some (.int .i64 0):=(zCl BK442.out 0).trans rfl;have hcz9_1 : w7.cell? ⟨gb442,1,none⟩ = some (.int .i64 0):=(zCl BK442.out 1).trans rfl;have hcz9_2 : w7.cell? ⟨gb442,2,none⟩ = some (.int .i64 0):=(zCl BK442.out 2).trans rfl;have hcz9_3 : w7.cell? ⟨gb442,3,none⟩ = some (.int .i64 0):=(zCl BK442.out 3).trans rfl;have hcz9_4 : w7.cell? ⟨gb442,4,none⟩ = some (.int .i64 0):=(zCl BK442.out 4).trans rfl;have hcz9_5 : w7.cell? ⟨gb442,5,none⟩ = some (.string (⟨#[]⟩ : ByteArray)):=(zCl BK442.out 5).trans rfl;have hfz9_0:=zFr BK442.out 0;have hfz9_1:=zFr BK442.out 1;have hfz9_2:=zFr BK442.out 2;have hfz9_3:=zFr BK442.out 3;have hfz9_4:=zFr BK442.out 4;have hfz9_5:=zFr BK442.out 5));try go_wp2_with (first | ((with_reducible refine gate_dst (N:=4) rfl ?_);refine box_event ?hg (N:=4) ?hd (cs:=#[.int .i64 0,.int .i64 0,.slice none 0 0]) (t:=40) ?hr ?_;(case hd=>rfl);(case hg=>rfl);(case hr=>first | (go_simp;done) | (go_simp;rfl));intro gb434 hg w5 hbox hb;have n0_:=zMk (below_step (hs HB) hb);have n1_:=zMk (hbox);have n2_:=zMk ((by rw [hg];exact (below_size (hs HB)) : w.heap.size ≤ gb434));have n3_:=zMk ((by rw [hg];exact (below_size (hs HB)) : w.heap.size ≤ gb434));clear HB;have HB:=n0_;have BK434:=n1_;have GW434:=n2_;have GE434:=n3_;clear n0_ n1_ n2_ n3_;clear hb hbox hg) | (go_at_call 55;(with_reducible refine (impl_metaOf.calls k _ _ l0 a1 0 0 t435 t436 t437 t438 t439 t440 true _ ?side1 ?side2 A3.out).mono ?_);(case side1=>repeat (first | exact (Kd.C_below HR0.out HB.out) | (with_reducible refine Kd.C_alloc ?_ _) | (with_reducible refine Kd.C_drewN ?_ _) | (with_reducible refine Kd.C_drew ?_)));(case side2=>exact HC0.out);rintro e w6 ⟨rfl,hb⟩;have n0_:=zMk (blk_below (g:=gb434) (o:=.cells #[.int .i64 0,.int .i64 0,.slice none 0 0] 40 (0,0)) (bs BK434) hb);have n1_:=zMk (below_step (hs1 HB GE434) hb);clear BK434;clear HB;have BK434:=n0_;have HB:=n1_;clear n0_ n1_;(try clear hb);(try clear hb2);(try clear hk);(try clear hi)) | ((with_reducible refine gate_dst (N:=6) rfl ?_);refine box_event ?hg (N:=6) ?hd (cs:=#[.int .i64 0,.int .i64 0,.int .i64 0,.int .i64 0,.int .i64 0,.string (⟨#[]⟩ : ByteArray)]) (t:=33) ?hr ?_;(case hd=>rfl);(case hg=>rfl);(case hr=>first | (go_simp;done) | (go_simp;rfl));intro gb442 hg w7 hbox hb;have n0_:=zMk (blk_below (g:=gb434) (o:=.cells #[.int .i64 0,.int .i64 0,.slice none 0 0] 40 (0,0)) (bs BK434) hb);have n1_:=zMk (below_step (hs1 HB GE434) hb);have n2_:=zMk (hbox);have n3_:=zMk ((by rw [hg];exact (below_size (hs1 HB GE434)) : w.heap.size ≤ gb442));have n4_:=zMk ((by rw [hg];exact (below_size (hs1 HB GE434)) : w.heap.size ≤ gb442));have n5_:=zMk ((by rw [hg];exact Nat.ne_of_lt (blk_lt (g:=gb434) (o:=.cells #[.int .i64 0,.int .i64 0,.slice none 0 0] 40 (0,0)) (bs BK434)) : gb434 ≠ gb442));have n6_:=zMk ((by rw [hg];exact Nat.ne_of_gt (blk_lt (g:=gb434) (o:=.cells #[.int .i64 0,.int .i64 0,.slice none 0 0] 40 (0,0)) (bs BK434)) : gb442 ≠ gb434));clear BK434;clear HB;have BK434:=n0_;have HB:=n1_;have BK442:=n2_;have GW442:=n3_;have GE442:=n4_;have NB434_442:=n5_;have NB442_434:=n6_;clear n0_ n1_ n2_ n3_ n4_ n5_ n6_;clear hb hbox hg;have hnb8:=NB442_434.out;have hnc8:=NB434_442.out;have hcz9_0 : w7.cell? ⟨gb442,0,none⟩ = some (.int .i64 0):=(zCl BK442.out 0).trans rfl;have hcz9_1 : w7.cell? ⟨gb442,1,none⟩ = some (.int .i64 0):=(zCl BK442.out 1).trans rfl;have hcz9_2 : w7.cell? ⟨gb442,2,none⟩ = some (.int .i64 0):=(zCl BK442.out 2).trans rfl;have hcz9_3 : w7.cell? ⟨gb442,3,none⟩ = some (.int .i64 0):=(zCl BK442.out 3).trans rfl;have hcz9_4 : w7.cell? ⟨gb442,4,none⟩ = some (.int .i64 0):=(zCl BK442.out 4).trans rfl;have hcz9_5 : w7.cell? ⟨gb442,5,none⟩ = some (.string (⟨#[]⟩ : ByteArray)):=(zCl BK442.out 5).trans rfl;have hfz9_0:=zFr BK442.out 0;have hfz9_1:=zFr BK442.out 1;have hfz9_2:=zFr BK442.out 2;have hfz9_3:=zFr BK442.out 3;have hfz9_4:=zFr BK442.out 4;have hfz9_5:=zFr BK442.out 5)))
  go_loopg [8,9,10] k (fun kq v8 v9 v10 w'=>∃ (x8_1 : ByteArray) (x9_1 : Int) (x10_1 : Int) (x435000_1 : Int) (x435001_1 : Int),v8 = .string x8_1 ∧ v9 = .int .i64 x9_1 ∧ v10 = .int .i64 x10_1 ∧ Aside0 (impl_gathered.l0 kq l0 a1 x8_1 x9_1 x10_1 t435 t436 t437 t438 t439 t440 = some (r1,r2,r3,r4)) ∧ Aside0 (kq ≤ k) ∧ Aside0 (w'.heap[gb434]? = some (.cells #[.int .i64 x435000_1,.int .i64 x435001_1,(.slice none 0 0)] 40 (0,0))) ∧ Aside0 (w'.heap[gb442]? = some (.cells #[.int .i64 t435,.int .i64 t436,.int .i64 t437,.int .i64 t438,.int .i64 t439,.string t440] 33 (0,0))) ∧ Aside0 (Below w.heap.size w w'));case atStart=>exact ⟨(t440),(t436),(1),(0),(0),(by first | rfl | (simp;done) | (simp [*];done)),(by first | rfl | (simp;done) | (simp [*];done)),(by first | rfl | (simp;done) | (simp [*];done)),H',⟨Nat.le_refl _⟩,⟨by (with_reducible repeat (first | refine blk_drewN ?_ _ | refine blk_drew ?_ | refine blk_alloc ?_ _));refine blk_far ?_ NB434_442.out _;(with_reducible repeat (first | refine blk_drewN ?_ _ | refine blk_drew ?_ | refine blk_alloc ?_ _));refine blk_far ?_ NB434_442.out _;(with_reducible repeat (first | refine blk_drewN ?_ _ | refine blk_drew ?_ | refine blk_alloc ?_ _));refine blk_far ?_ NB434_442.out _;(with_reducible repeat (first | refine blk_drewN ?_ _ | refine blk_drew ?_ | refine blk_alloc ?_ _));refine blk_far ?_ NB434_442.out _;(with_reducible repeat (first | refine blk_drewN ?_ _ | refine blk_drew ?_ | refine blk_alloc ?_ _));refine blk_far ?_ NB434_442.out _;(with_reducible repeat (first | refine blk_drewN ?_ _ | refine blk_drew ?_ | refine blk_alloc ?_ _));refine blk_far ?_ NB434_442.out _;(with_reducible repeat (first | refine blk_drewN ?_ _ | refine blk_drew ?_ | refine blk_alloc ?_ _));exact BK434.out⟩,⟨by (with_reducible repeat (first | refine blk_drewN ?_ _ | refine blk_drew ?_ | refine blk_alloc ?_ _));refine blk_put (cs:=#[.int .i64 t435,.int .i64 t436,.int .i64 t437,.int .i64 t438,.int .i64 t439,.string (⟨#[]⟩ : ByteArray)]) ?_ 5 _ rfl;(with_reducible repeat (first | refine blk_drewN ?_ _ | refine blk_drew ?_ | refine blk_alloc ?_ _));refine blk_put (cs:=#[.int .i64 t435,.int .i64 t436,.int .i64 t437,.int .i64 t438,.int .i64 0,.string (⟨#[]⟩ : ByteArray)]) ?_ 4 _ rfl;(with_reducible repeat (first | refine blk_drewN ?_ _ | refine blk_drew ?_ | refine blk_alloc ?_ _));refine blk_put (cs:=#[.int .i64 t435,.int .i64 t436,.int .i64 t437,.int .i64 0,.int .i64 0,.string (⟨#[]⟩ : ByteArray)]) ?_ 3 _ rfl;(with_reducible repeat (first | refine blk_drewN ?_ _ | refine blk_drew ?_ | refine blk_alloc ?_ _));refine blk_put (cs:=#[.int .i64 t435,.int .i64 t436,.int .i64 0,.int .i64 0,.int .i64 0,.string (⟨#[]⟩ : ByteArray)]) ?_ 2 _ rfl;(with_reducible repeat (first | refine blk_drewN ?_ _ | refine blk_drew ?_ | refine blk_alloc ?_ _));refine blk_put (cs:=#[.int .i64 t435,.int .i64 0,.int .i64 0,.int .i64 0,.int .i64 0,.string (⟨#[]⟩ : ByteArray)]) ?_ 1 _ rfl;(with_reducible repeat (first | refine blk_drewN ?_ _ | refine blk_drew ?_ | refine blk_alloc ?_ _));refine blk_put (cs:=#[.int .i64 0,.int .i64 0,.int .i64 0,.int .i64 0,.int .i64 0,.string (⟨#[]⟩ : ByteArray)]) ?_ 0 _ rfl;(with_reducible repeat (first | refine blk_drewN ?_ _ | refine blk_drew ?_ | refine blk_alloc ?_ _));exact BK442.out⟩,⟨hs2 HB GE434 GE442⟩⟩
  case round =>
   clear H'
   try clear p2
   try clear c3
   try clear c4
   try clear c8
   try clear hcz9_0
   try clear hcz9_1
   try clear hcz9_2
   try clear hcz9_3
   try clear hcz9_4
   try clear hcz9_5
   try clear hfz9_0
   try clear hfz9_1
   try clear hfz9_2
   try clear hfz9_3
   try clear hfz9_4
   try clear hfz9_5
   obtain ⟨x8_1,x9_1,x10_1,x435000_1,x435001_1,rfl,rfl,rfl,HA,HK1,BK434,BK442,HB⟩:=hrel;cases gk with
   | zero=>exact absurd HA.out (by simp [impl_gathered.l0])
   | succ k1 =>
    have H:=HA.out;clear HA;simp only [impl_gathered.l0] at H
    by_cases c10 : x10_1 < t439
    ·rw [if_pos c10] at H;have c10b0 : decide (x10_1 < t439) = true:=decide_eq_true c10;clear c10;replace H:=Option.bind_eq_some_iff.mp H;obtain ⟨⟨t443,t444,t445,t446,t447,t448,t449⟩,A110,H⟩:=H;replace H : (if t449 = true then (if x8_1.size + t448.size ≤ 9223372036854775807 then (impl_gathered.l0 k1 l0 a1 (x8_1 ++ t448) (mn x9_1 t444) (wrap64 (x10_1 + 1)) t435 t436 t437 t438 t439 t440) else (none)) else (some (0,0,([] : List (S45)),false))) = some (r1,r2,r3,r4):=H;have A11:=zMk A110;clear A110
     by_cases c12 : t449 = true
     ·subst c12;have H1 : (if x8_1.size + t448.size ≤ 9223372036854775807 then (impl_gathered.l0 k1 l0 a1 (x8_1 ++ t448) (mn x9_1 t444) (wrap64 (x10_1 + 1)) t435 t436 t437 t438 t439 t440) else (none)) = some (r1,r2,r3,r4):=by rw [if_pos rfl] at H;exact H
      clear H;have H:=H1;clear H1
      by_cases c13 : x8_1.size + t448.size ≤ 9223372036854775807
      ·rw [if_pos c13] at H;have c13b0:=eq_true c13;have c13b1 : decide (x8_1.size + t448.size ≤ 9223372036854775807) = true:=decide_eq_true c13
       try have c13b2 : (9223372036854775807 < x8_1.size + t448.size) = False:=eq_false (Nat.not_lt.2 c13)
       obtain ⟨ji14,hji14⟩ : ∃ j_ : Int,(mn x9_1 t444) = j_:=⟨_,rfl⟩;replace H : (impl_gathered.l0 k1 l0 a1 (x8_1 ++ t448) ji14 (wrap64 (x10_1 + 1)) t435 t436 t437 t438 t439 t440) = some (r1,r2,r3,r4):=by first | (rw [hji14] at H;exact H) | (simp only [hji14] at H ⊢;exact H)
       (try rw [hji14] at A11)
       have hji14_ : (if t444 < x9_1 then t444 else x9_1) = ji14:=hji14;have H':=zMk H;clear H;have hnb15:=NB442_434.out;have hnc15:=NB434_442.out;have hcz16_0 : wr.cell? ⟨gb442,0,none⟩ = some (.int .i64 t435):=(zCl BK442.out 0).trans rfl;have hcz16_1 : wr.cell? ⟨gb442,1,none⟩ = some (.int .i64 t436):=(zCl BK442.out 1).trans rfl;have hcz16_2 : wr.cell? ⟨gb442,2,none⟩ = some (.int .i64 t437):=(zCl BK442.out 2).trans rfl;have hcz16_3 : wr.cell? ⟨gb442,3,none⟩ = some (.int .i64 t438):=(zCl BK442.out 3).trans rfl;have hcz16_4 : wr.cell? ⟨gb442,4,none⟩ = some (.int .i64 t439):=(zCl BK442.out 4).trans rfl;have hcz16_5 : wr.cell? ⟨gb442,5,none⟩ = some (.string t440):=(zCl BK442.out 5).trans rfl;have hfz16_0:=zFr BK442.out 0;have hfz16_1:=zFr BK442.out 1;have hfz16_2:=zFr BK442.out 2;have hfz16_3:=zFr BK442.out 3;have hfz16_4:=zFr BK442.out 4;have hfz16_5:=zFr BK442.out 5;go_wp2_with (first | (go_at_call 55;(with_reducible refine (impl_metaOf.calls k1 _ _ l0 a1 x10_1 t439 t443 t444 t445 t446 t447 t448 true _ ?side1 ?side2 A11.out).mono ?_);(case side1=>repeat (first | exact (Kd.C_below HR0.out HB.out) | (with_reducible refine Kd.C_alloc ?_ _) | (with_reducible refine Kd.C_drewN ?_ _) | (with_reducible refine Kd.C_drew ?_)));(case side2=>exact HC0.out);rintro e w17 ⟨rfl,hb⟩;have n0_:=zMk (blk_below (g:=gb434) (o:=.cells #[.int .i64 x435000_1,.int .i64 x435001_1,.slice none 0 0] 40 (0,0)) (bs BK434) hb);have n1_:=zMk (blk_below (g:=gb442) (o:=.cells #[.int .i64 t435,.int .i64 t436,.int .i64 t437,.int .i64 t438,.int .i64 t439,.string t440] 33 (0,0)) (bs BK442) hb);have n2_:=zMk (below_step (hs2 HB GE434 GE442) hb);clear BK434;clear BK442;clear HB;have BK434:=n0_;have BK442:=n1_;have HB:=n2_;clear n0_ n1_ n2_;(try clear hb);(try clear hb2);(try clear hk);(try clear hi)) | ((with_reducible refine gate_dst (N:=11) rfl ?_);refine box_event ?hg (N:=11) ?hd (cs:=#[.int .i64 0,.int .i64 0,.int .i64 0,.int .i64 0,.int .i64 0,.string (⟨#[]⟩ : ByteArray)]) (t:=33) ?hr ?_;(case hd=>rfl);(case hg=>rfl);(case hr=>first | (go_simp;done) | (go_simp;rfl));intro gb450 hg w18 hbox hb;have n0_:=zMk (blk_below (g:=gb434) (o:=.cells #[.int .i64 x435000_1,.int .i64 x435001_1,.slice none 0 0] 40 (0,0)) (bs BK434) hb);have n1_:=zMk (blk_below (g:=gb442) (o:=.cells #[.int .i64 t435,.int .i64 t436,.int .i64 t437,.int .i64 t438,.int .i64 t439,.string t440] 33 (0,0)) (bs BK442) hb);have n2_:=zMk (below_step (hs2 HB GE434 GE442) hb);have n3_:=zMk (hbox);have n4_:=zMk ((by rw [hg];exact (below_size (hs2 HB GE434 GE442)) : w.heap.size ≤ gb450));have n5_:=zMk ((by rw [hg];exact (below_size (hs2 HB GE434 GE442)) : w.heap.size ≤ gb450));have n6_:=zMk ((by rw [hg];exact Nat.ne_of_lt (blk_lt (g:=gb434) (o:=.cells #[.int .i64 x435000_1,.int .i64 x435001_1,.slice none 0 0] 40 (0,0)) (bs BK434)) : gb434 ≠ gb450));have n7_:=zMk ((by rw [hg];exact Nat.ne_of_gt (blk_lt (g:=gb434) (o:=.cells #[.int .i64 x435000_1,.int .i64 x435001_1,.slice none 0 0] 40 (0,0)) (bs BK434)) : gb450 ≠ gb434));have n8_:=zMk ((by rw [hg];exact Nat.ne_of_lt (blk_lt (g:=gb442) (o:=.cells #[.int .i64 t435,.int .i64 t436,.int .i64 t437,.int .i64 t438,.int .i64 t439,.string t440] 33 (0,0)) (bs BK442)) : gb442 ≠ gb450));have n9_:=zMk ((by rw [hg];exact Nat.ne_of_gt (blk_lt (g:=gb442) (o:=.cells #[.int .i64 t435,.int .i64 t436,.int .i64 t437,.int .i64 t438,.int .i64 t439,.string t440] 33 (0,0)) (bs BK442)) : gb450 ≠ gb442));clear BK434;clear BK442;clear HB;have BK434:=n0_;have BK442:=n1_;have HB:=n2_;have BK450:=n3_;have GW450:=n4_;have GE450:=n5_;have NB434_450:=n6_;have NB450_434:=n7_;have NB442_450:=n8_;have NB450_442:=n9_;clear n0_ n1_ n2_ n3_ n4_ n5_ n6_ n7_ n8_ n9_;clear hb hbox hg;have hnb19:=NB450_434.out;have hnc19:=NB434_450.out;have hnb20:=NB450_442.out;have hnc20:=NB442_450.out;have hcz21_0 : w18.cell? ⟨gb450,0,none⟩ = some (.int .i64 0):=(zCl BK450.out 0).trans rfl;have hcz21_1 : w18.cell? ⟨gb450,1,none⟩ = some (.int .i64 0):=(zCl BK450.out 1).trans rfl;have hcz21_2 : w18.cell? ⟨gb450,2,none⟩ = some (.int .i64 0):=(zCl BK450.out 2).trans rfl;have hcz21_3 : w18.cell? ⟨gb450,3,none⟩ = some (.int .i64 0):=(zCl BK450.out 3).trans rfl;have hcz21_4 : w18.cell? ⟨gb450,4,none⟩ = some (.int .i64 0):=(zCl BK450.out 4).trans rfl;have hcz21_5 : w18.cell? ⟨gb450,5,none⟩ = some (.string (⟨#[]⟩ : ByteArray)):=(zCl BK450.out 5).trans rfl;have hfz21_0:=zFr BK450.out 0;have hfz21_1:=zFr BK450.out 1;have hfz21_2:=zFr BK450.out 2;have hfz21_3:=zFr BK450.out 3;have hfz21_4:=zFr BK450.out 4;have hfz21_5:=zFr BK450.out 5))
       repeat (go_quiet (first | (go_at_call 55;(with_reducible refine (impl_metaOf.calls k1 _ _ l0 a1 x10_1 t439 t443 t444 t445 t446 t447 t448 true _ ?side1 ?side2 A11.out).mono ?_);(case side1=>repeat (first | exact (Kd.C_below HR0.out HB.out) | (with_reducible refine Kd.C_alloc ?_ _) | (with_reducible refine Kd.C_drewN ?_ _) | (with_reducible refine Kd.C_drew ?_)));(case side2=>exact HC0.out);rintro e w17 ⟨rfl,hb⟩;have n0_:=zMk (blk_below (g:=gb434) (o:=.cells #[.int .i64 x435000_1,.int .i64 x435001_1,.slice none 0 0] 40 (0,0)) (bs BK434) hb);have n1_:=zMk (blk_below (g:=gb442) (o:=.cells #[.int .i64 t435,.int .i64 t436,.int .i64 t437,.int .i64 t438,.int .i64 t439,.string t440] 33 (0,0)) (bs BK442) hb);have n2_:=zMk (below_step (hs2 HB GE434 GE442) hb);clear BK434;clear BK442;clear HB;have BK434:=n0_;have BK442:=n1_;have HB:=n2_;clear n0_ n1_ n2_;(try clear hb);(try clear hb2);(try clear hk);(try clear hi)) | ((with_reducible refine gate_dst (N:=11) rfl ?_);refine box_event ?hg (N:=11) ?hd (cs:=#[.int .i64 0,.int .i64 0,.int .i64 0,.int .i64 0,.int .i64 0,.string (⟨#[]⟩ : ByteArray)]) (t:=33) ?hr ?_;(case hd=>rfl);(case hg=>rfl);(case hr=>first | (go_simp;done) | (go_simp;rfl));intro gb450 hg w18 hbox hb;have n0_:=zMk (blk_below (g:=gb434) (o:=.cells #[.int .i64 x435000_1,.int .i64 x435001_1,.slice none 0 0] 40 (0,0)) (bs BK434) hb);have n1_:=zMk (blk_below (g:=gb442) (o:=.cells #[.int .i64 t435,.int .i64 t436,.int .i64 t437,.int .i64 t438,.int .i64 t439,.string t440] 33 (0,0)) (bs BK442) hb);have n2_:=zMk (below_step (hs2 HB GE434 GE442) hb);have n3_:=zMk (hbox);have n4_:=zMk ((by rw [hg];exact (below_size (hs2 HB GE434 GE442)) : w.heap.size ≤ gb450));have n5_:=zMk ((by rw [hg];exact (below_size (hs2 HB GE434 GE442)) : w.heap.size ≤ gb450));have n6_:=zMk ((by rw [hg];exact Nat.ne_of_lt (blk_lt (g:=gb434) (o:=.cells #[.int .i64 x435000_1,.int .i64 x435001_1,.slice none 0 0] 40 (0,0)) (bs BK434)) : gb434 ≠ gb450));have n7_:=zMk ((by rw [hg];exact Nat.ne_of_gt (blk_lt (g:=gb434) (o:=.cells #[.int .i64 x435000_1,.int .i64 x435001_1,.slice none 0 0] 40 (0,0)) (bs BK434)) : gb450 ≠ gb434));have n8_:=zMk ((by rw [hg];exact Nat.ne_of_lt (blk_lt (g:=gb442) (o:=.cells #[.int .i64 t435,.int .i64 t436,.int .i64 t437,.int .i64 t438,.int .i64 t439,.string t440] 33 (0,0)) (bs BK442)) : gb442 ≠ gb450));have n9_:=zMk ((by rw [hg];exact Nat.ne_of_gt (blk_lt (g:=gb442) (o:=.cells #[.int .i64 t435,.int .i64 t436,.int .i64 t437,.int .i64 t438,.int .i64 t439,.string t440] 33 (0,0)) (bs BK442)) : gb450 ≠ gb442));clear BK434;clear BK442;clear HB;have BK434:=n0_;have BK442:=n1_;have HB:=n2_;have BK450:=n3_;have GW450:=n4_;have GE450:=n5_;have NB434_450:=n6_;have NB450_434:=n7_;have NB442_450:=n8_;have NB450_442:=n9_;clear n0_ n1_ n2_ n3_ n4_ n5_ n6_ n7_ n8_ n9_;clear hb hbox hg;have hnb19:=NB450_434.out;have hnc19:=NB434_450.out;have hnb20:=NB450_442.out;have hnc20:=NB442_450.out;have hcz21_0 : w18.cell? ⟨gb450,0,none⟩ = some (.int .i64 0):=(zCl BK450.out 0).trans rfl;have hcz21_1 : w18.cell? ⟨gb450,1,none⟩ = some (.int .i64 0):=(zCl BK450.out 1).trans rfl;have hcz21_2 : w18.cell? ⟨gb450,2,none⟩ = some (.int .i64 0):=(zCl BK450.out 2).trans rfl;have hcz21_3 : w18.cell? ⟨gb450,3,none⟩ = some (.int .i64 0):=(zCl BK450.out 3).trans rfl;have hcz21_4 : w18.cell? ⟨gb450,4,none⟩ = some (.int .i64 0):=(zCl BK450.out 4).trans rfl;have hcz21_5 : w18.cell? ⟨gb450,5,none⟩ = some (.string (⟨#[]⟩ : ByteArray)):=(zCl BK450.out 5).trans rfl;have hfz21_0:=zFr BK450.out 0;have hfz21_1:=zFr BK450.out 1;have hfz21_2:=zFr BK450.out 2;have hfz21_3:=zFr BK450.out 3;have hfz21_4:=zFr BK450.out 4;have hfz21_5:=zFr BK450.out 5));try go_wp2_with (first | (go_at_call 55;(with_reducible refine (impl_metaOf.calls k1 _ _ l0 a1 x10_1 t439 t443 t444 t445 t446 t447 t448 true _ ?side1 ?side2 A11.out).mono ?_);(case side1=>repeat (first | exact (Kd.C_below HR0.out HB.out) | (with_reducible refine Kd.C_alloc ?_ _) | (with_reducible refine Kd.C_drewN ?_ _) | (with_reducible refine Kd.C_drew ?_)));(case side2=>exact HC0.out);rintro e w17 ⟨rfl,hb⟩;have n0_:=zMk (blk_below (g:=gb434) (o:=.cells #[.int .i64 x435000_1,.int .i64 x435001_1,.slice none 0 0] 40 (0,0)) (bs BK434) hb);have n1_:=zMk (blk_below (g:=gb442) (o:=.cells #[.int .i64 t435,.int .i64 t436,.int .i64 t437,.int .i64 t438,.int .i64 t439,.string t440] 33 (0,0)) (bs BK442) hb);have n2_:=zMk (below_step (hs2 HB GE434 GE442) hb);clear BK434;clear BK442;clear HB;have BK434:=n0_;have BK442:=n1_;have HB:=n2_;clear n0_ n1_ n2_;(try clear hb);(try clear hb2);(try clear hk);(try clear hi)) | ((with_reducible refine gate_dst (N:=11) rfl ?_);refine box_event ?hg (N:=11) ?hd (cs:=#[.int .i64 0,.int .i64 0,.int .i64 0,.int .i64 0,.int .i64 0,.string (⟨#[]⟩ : ByteArray)]) (t:=33) ?hr ?_;(case hd=>rfl);(case hg=>rfl);(case hr=>first | (go_simp;done) | (go_simp;rfl));intro gb450 hg w18 hbox hb;have n0_:=zMk (blk_below (g:=gb434) (o:=.cells #[.int .i64 x435000_1,.int .i64 x435001_1,.slice none 0 0] 40 (0,0)) (bs BK434) hb);have n1_:=zMk (blk_below (g:=gb442) (o:=.cells #[.int .i64 t435,.int .i64 t436,.int .i64 t437,.int .i64 t438,.int .i64 t439,.string t440] 33 (0,0)) (bs BK442) hb);have n2_:=zMk (below_step (hs2 HB GE434 GE442) hb);have n3_:=zMk (hbox);have n4_:=zMk ((by rw [hg];exact (below_size (hs2 HB GE434 GE442)) : w.heap.size ≤ gb450));have n5_:=zMk ((by rw [hg];exact (below_size (hs2 HB GE434 GE442)) : w.heap.size ≤ gb450));have n6_:=zMk ((by rw [hg];exact Nat.ne_of_lt (blk_lt (g:=gb434) (o:=.cells #[.int .i64 x435000_1,.int .i64 x435001_1,.slice none 0 0] 40 (0,0)) (bs BK434)) : gb434 ≠ gb450));have n7_:=zMk ((by rw [hg];exact Nat.ne_of_gt (blk_lt (g:=gb434) (o:=.cells #[.int .i64 x435000_1,.int .i64 x435001_1,.slice none 0 0] 40 (0,0)) (bs BK434)) : gb450 ≠ gb434));have n8_:=zMk ((by rw [hg];exact Nat.ne_of_lt (blk_lt (g:=gb442) (o:=.cells #[.int .i64 t435,.int .i64 t436,.int .i64 t437,.int .i64 t438,.int .i64 t439,.string t440] 33 (0,0)) (bs BK442)) : gb442 ≠ gb450));have n9_:=zMk ((by rw [hg];exact Nat.ne_of_gt (blk_lt (g:=gb442) (o:=.cells #[.int .i64 t435,.int .i64 t436,.int .i64 t437,.int .i64 t438,.int .i64 t439,.string t440] 33 (0,0)) (bs BK442)) : gb450 ≠ gb442));clear BK434;clear BK442;clear HB;have BK434:=n0_;have BK442:=n1_;have HB:=n2_;have BK450:=n3_;have GW450:=n4_;have GE450:=n5_;have NB434_450:=n6_;have NB450_434:=n7_;have NB442_450:=n8_;have NB450_442:=n9_;clear n0_ n1_ n2_ n3_ n4_ n5_ n6_ n7_ n8_ n9_;clear hb hbox hg;have hnb19:=NB450_434.out;have hnc19:=NB434_450.out;have hnb20:=NB450_442.out;have hnc20:=NB442_450.out;have hcz21_0 : w18.cell? ⟨gb450,0,none⟩ = some (.int .i64 0):=(zCl BK450.out 0).trans rfl;have hcz21_1 : w18.cell? ⟨gb450,1,none⟩ = some (.int .i64 0):=(zCl BK450.out 1).trans rfl;have hcz21_2 : w18.cell? ⟨gb450,2,none⟩ = some (.int .i64 0):=(zCl BK450.out 2).trans rfl;have hcz21_3 : w18.cell? ⟨gb450,3,none⟩ = some (.int .i64 0):=(zCl BK450.out 3).trans rfl;have hcz21_4 : w18.cell? ⟨gb450,4,none⟩ = some (.int .i64 0):=(zCl BK450.out 4).trans rfl;have hcz21_5 : w18.cell? ⟨gb450,5,none⟩ = some (.string (⟨#[]⟩ : ByteArray)):=(zCl BK450.out 5).trans rfl;have hfz21_0:=zFr BK450.out 0;have hfz21_1:=zFr BK450.out 1;have hfz21_2:=zFr BK450.out 2;have hfz21_3:=zFr BK450.out 3;have hfz21_4:=zFr BK450.out 4;have hfz21_5:=zFr BK450.out 5)))
       go_roundg k1;case measure=>have:=HK1.out;omega
       case rel=>exact ⟨(x8_1 ++ t448),(ji14),(wrap64 (x10_1 + 1)),(x435000_1),(x435001_1),(by first | rfl | (simp;done) | (simp [*];done)),(by first | rfl | (simp;done) | (simp only [← hji14] <;> (first | rfl | simp)) | (simp [*];done)),(by first | rfl | (simp;done) | (simp [*];done)),H',⟨by have:=HK1.out;omega⟩,⟨by (with_reducible repeat (first | refine blk_drewN ?_ _ | refine blk_drew ?_ | refine blk_alloc ?_ _));refine blk_far ?_ NB434_450.out _;(with_reducible repeat (first | refine blk_drewN ?_ _ | refine blk_drew ?_ | refine blk_alloc ?_ _));refine blk_far ?_ NB434_450.out _;(with_reducible repeat (first | refine blk_drewN ?_ _ | refine blk_drew ?_ | refine blk_alloc ?_ _));refine blk_far ?_ NB434_450.out _;(with_reducible repeat (first | refine blk_drewN ?_ _ | refine blk_drew ?_ | refine blk_alloc ?_ _));refine blk_far ?_ NB434_450.out _;(with_reducible repeat (first | refine blk_drewN ?_ _ | refine blk_drew ?_ | refine blk_alloc ?_ _));refine blk_far ?_ NB434_450.out _;(with_reducible repeat (first | refine blk_drewN ?_ _ | refine blk_drew ?_ | refine blk_alloc ?_ _));refine blk_far ?_ NB434_450.out _;(with_reducible repeat (first | refine blk_drewN ?_ _ | refine blk_drew ?_ | refine blk_alloc ?_ _));exact BK434.out⟩,⟨by (with_reducible repeat (first | refine blk_drewN ?_ _ | refine blk_drew ?_ | refine blk_alloc ?_ _));refine blk_far ?_ NB442_450.out _;(with_reducible repeat (first | refine blk_drewN ?_ _ | refine blk_drew ?_ | refine blk_alloc ?_ _));refine blk_far ?_ NB442_450.out _;(with_reducible repeat (first | refine blk_drewN ?_ _ | refine blk_drew ?_ | refine blk_alloc ?_ _));refine blk_far ?_ NB442_450.out _;(with_reducible repeat (first | refine blk_drewN ?_ _ | refine blk_drew ?_ | refine blk_alloc ?_ _));refine blk_far ?_ NB442_450.out _;(with_reducible repeat (first | refine blk_drewN ?_ _ | refine blk_drew ?_ | refine blk_alloc ?_ _));refine blk_far ?_ NB442_450.out _;(with_reducible repeat (first | refine blk_drewN ?_ _ | refine blk_drew ?_ | refine blk_alloc ?_ _));refine blk_far ?_ NB442_450.out _;(with_reducible repeat (first | refine blk_drewN ?_ _ | refine blk_drew ?_ | refine blk_alloc ?_ _));exact BK442.out⟩,⟨hs3 HB GE434 GE442 GE450⟩⟩
      rw [if_neg c13] at H;exact absurd H (by simp)
     replace c12:=Bool.eq_false_iff.mpr c12;subst c12;have H1 : (some (0,0,([] : List (S45)),false)) = some (r1,r2,r3,r4):=by rw [if_neg (show ¬ (false = true) by decide)] at H;exact H
     clear H;have H:=H1;clear H1;simp only [Option.some.injEq,Prod.mk.injEq] at H;obtain ⟨rfl,rfl,rfl,rfl⟩:=H;have hnb22:=NB442_434.out;have hnc22:=NB434_442.out;have hcz23_0 : wr.cell? ⟨gb442,0,none⟩ = some (.int .i64 t435):=(zCl BK442.out 0).trans rfl;have hcz23_1 : wr.cell? ⟨gb442,1,none⟩ = some (.int .i64 t436):=(zCl BK442.out 1).trans rfl;have hcz23_2 : wr.cell? ⟨gb442,2,none⟩ = some (.int .i64 t437):=(zCl BK442.out 2).trans rfl;have hcz23_3 : wr.cell? ⟨gb442,3,none⟩ = some (.int .i64 t438):=(zCl BK442.out 3).trans rfl;have hcz23_4 : wr.cell? ⟨gb442,4,none⟩ = some (.int .i64 t439):=(zCl BK442.out 4).trans rfl;have hcz23_5 : wr.cell? ⟨gb442,5,none⟩ = some (.string t440):=(zCl BK442.out 5).trans rfl;have hfz23_0:=zFr BK442.out 0;have hfz23_1:=zFr BK442.out 1;have hfz23_2:=zFr BK442.out 2;have hfz23_3:=zFr BK442.out 3;have hfz23_4:=zFr BK442.out 4;have hfz23_5:=zFr BK442.out 5;go_wp2_with (first | (go_at_call 55;(with_reducible refine (impl_metaOf.calls k1 _ _ l0 a1 x10_1 t439 t443 t444 t445 t446 t447 t448 false _ ?side1 ?side2 A11.out).mono ?_);(case side1=>repeat (first | exact (Kd.C_below HR0.out HB.out) | (with_reducible refine Kd.C_alloc ?_ _) | (with_reducible refine Kd.C_drewN ?_ _) | (with_reducible refine Kd.C_drew ?_)));(case side2=>exact HC0.out);rintro e w24 ⟨rfl,hb⟩;have n0_:=zMk (blk_below (g:=gb434) (o:=.cells #[.int .i64 x435000_1,.int .i64 x435001_1,.slice none 0 0] 40 (0,0)) (bs BK434) hb);have n1_:=zMk (blk_below (g:=gb442) (o:=.cells #[.int .i64 t435,.int .i64 t436,.int .i64 t437,.int .i64 t438,.int .i64 t439,.string t440] 33 (0,0)) (bs BK442) hb);have n2_:=zMk (below_step (hs2 HB GE434 GE442) hb);clear BK434;clear BK442;clear HB;have BK434:=n0_;have BK442:=n1_;have HB:=n2_;clear n0_ n1_ n2_;(try clear hb);(try clear hb2);(try clear hk);(try clear hi)) | ((with_reducible refine gate_dst (N:=11) rfl ?_);refine box_event ?hg (N:=11) ?hd (cs:=#[.int .i64 0,.int .i64 0,.int .i64 0,.int .i64 0,.int .i64 0,.string (⟨#[]⟩ : ByteArray)]) (t:=33) ?hr ?_;(case hd=>rfl);(case hg=>rfl);(case hr=>first | (go_simp;done) | (go_simp;rfl));intro gb450 hg w25 hbox hb;have n0_:=zMk (blk_below (g:=gb434) (o:=.cells #[.int .i64 x435000_1,.int .i64 x435001_1,.slice none 0 0] 40 (0,0)) (bs BK434) hb);have n1_:=zMk (blk_below (g:=gb442) (o:=.cells #[.int .i64 t435,.int .i64 t436,.int .i64 t437,.int .i64 t438,.int .i64 t439,.string t440] 33 (0,0)) (bs BK442) hb);have n2_:=zMk (below_step (hs2 HB GE434 GE442) hb);have n3_:=zMk (hbox);have n4_:=zMk ((by rw [hg];exact (below_size (hs2 HB GE434 GE442)) : w.heap.size ≤ gb450));have n5_:=zMk ((by rw [hg];exact (below_size (hs2 HB GE434 GE442)) : w.heap.size ≤ gb450));have n6_:=zMk ((by rw [hg];exact Nat.ne_of_lt (blk_lt (g:=gb434) (o:=.cells #[.int .i64 x435000_1,.int .i64 x435001_1,.slice none 0 0] 40 (0,0)) (bs BK434)) : gb434 ≠ gb450));have n7_:=zMk ((by rw [hg];exact Nat.ne_of_gt (blk_lt (g:=gb434) (o:=.cells #[.int .i64 x435000_1,.int .i64 x435001_1,.slice none 0 0] 40 (0,0)) (bs BK434)) : gb450 ≠ gb434));have n8_:=zMk ((by rw [hg];exact Nat.ne_of_lt (blk_lt (g:=gb442) (o:=.cells #[.int .i64 t435,.int .i64 t436,.int .i64 t437,.int .i64 t438,.int .i64 t439,.string t440] 33 (0,0)) (bs BK442)) : gb442 ≠ gb450));have n9_:=zMk ((by rw [hg];exact Nat.ne_of_gt (blk_lt (g:=gb442) (o:=.cells #[.int .i64 t435,.int .i64 t436,.int .i64 t437,.int .i64 t438,.int .i64 t439,.string t440] 33 (0,0)) (bs BK442)) : gb450 ≠ gb442));clear BK434;clear BK442;clear HB;have BK434:=n0_;have BK442:=n1_;have HB:=n2_;have BK450:=n3_;have GW450:=n4_;have GE450:=n5_;have NB434_450:=n6_;have NB450_434:=n7_;have NB442_450:=n8_;have NB450_442:=n9_;clear n0_ n1_ n2_ n3_ n4_ n5_ n6_ n7_ n8_ n9_;clear hb hbox hg;have hnb26:=NB450_434.out;have hnc26:=NB434_450.out;have hnb27:=NB450_442.out;have hnc27:=NB442_450.out;have hcz28_0 : w25.cell? ⟨gb450,0,none⟩ = some (.int .i64 0):=(zCl BK450.out 0).trans rfl;have hcz28_1 : w25.cell? ⟨gb450,1,none⟩ = some (.int .i64 0):=(zCl BK450.out 1).trans rfl;have hcz28_2 : w25.cell? ⟨gb450,2,none⟩ = some (.int .i64 0):=(zCl BK450.out 2).trans rfl;have hcz28_3 : w25.cell? ⟨gb450,3,none⟩ = some (.int .i64 0):=(zCl BK450.out 3).trans rfl;have hcz28_4 : w25.cell? ⟨gb450,4,none⟩ = some (.int .i64 0):=(zCl BK450.out 4).trans rfl;have hcz28_5 : w25.cell? ⟨gb450,5,none⟩ = some (.string (⟨#[]⟩ : ByteArray)):=(zCl BK450.out 5).trans rfl;have hfz28_0:=zFr BK450.out 0;have hfz28_1:=zFr BK450.out 1;have hfz28_2:=zFr BK450.out 2;have hfz28_3:=zFr BK450.out 3;have hfz28_4:=zFr BK450.out 4;have hfz28_5:=zFr BK450.out 5;have hcz29_0 : w25.cell? ⟨gb434,0,none⟩ = some (.int .i64 x435000_1):=(zCl BK434.out 0).trans rfl;have hcz29_1 : w25.cell? ⟨gb434,1,none⟩ = some (.int .i64 x435001_1):=(zCl BK434.out 1).trans rfl;have hcz29_2 : w25.cell? ⟨gb434,2,none⟩ = some (.slice none 0 0):=(zCl BK434.out 2).trans rfl;have hfz29_0:=zFr BK434.out 0;have hfz29_1:=zFr BK434.out 1;have hfz29_2:=zFr BK434.out 2))
     repeat (go_quiet (first | (go_at_call 55;(with_reducible refine (impl_metaOf.calls k1 _ _ l0 a1 x10_1 t439 t443 t444 t445 t446 t447 t448 false _ ?side1 ?side2 A11.out).mono ?_);(case side1=>repeat (first | exact (Kd.C_below HR0.out HB.out) | (with_reducible refine Kd.C_alloc ?_ _) | (with_reducible refine Kd.C_drewN ?_ _) | (with_reducible refine Kd.C_drew ?_)));(case side2=>exact HC0.out);rintro e w24 ⟨rfl,hb⟩;have n0_:=zMk (blk_below (g:=gb434) (o:=.cells #[.int .i64 x435000_1,.int .i64 x435001_1,.slice none 0 0] 40 (0,0)) (bs BK434) hb);have n1_:=zMk (blk_below (g:=gb442) (o:=.cells #[.int .i64 t435,.int .i64 t436,.int .i64 t437,.int .i64 t438,.int .i64 t439,.string t440] 33 (0,0)) (bs BK442) hb);have n2_:=zMk (below_step (hs2 HB GE434 GE442) hb);clear BK434;clear BK442;clear HB;have BK434:=n0_;have BK442:=n1_;have HB:=n2_;clear n0_ n1_ n2_;(try clear hb);(try clear hb2);(try clear hk);(try clear hi)) | ((with_reducible refine gate_dst (N:=11) rfl ?_);refine box_event ?hg (N:=11) ?hd (cs:=#[.int .i64 0,.int .i64 0,.int .i64 0,.int .i64 0,.int .i64 0,.string (⟨#[]⟩ : ByteArray)]) (t:=33) ?hr ?_;(case hd=>rfl);(case hg=>rfl);(case hr=>first | (go_simp;done) | (go_simp;rfl));intro gb450 hg w25 hbox hb;have n0_:=zMk (blk_below (g:=gb434) (o:=.cells #[.int .i64 x435000_1,.int .i64 x435001_1,.slice none 0 0] 40 (0,0)) (bs BK434) hb);have n1_:=zMk (blk_below (g:=gb442) (o:=.cells #[.int .i64 t435,.int .i64 t436,.int .i64 t437,.int .i64 t438,.int .i64 t439,.string t440] 33 (0,0)) (bs BK442) hb);have n2_:=zMk (below_step (hs2 HB GE434 GE442) hb);have n3_:=zMk (hbox);have n4_:=zMk ((by rw [hg];exact (below_size (hs2 HB GE434 GE442)) : w.heap.size ≤ gb450));have n5_:=zMk ((by rw [hg];exact (below_size (hs2 HB GE434 GE442)) : w.heap.size ≤ gb450));have n6_:=zMk ((by rw [hg];exact Nat.ne_of_lt (blk_lt (g:=gb434) (o:=.cells #[.int .i64 x435000_1,.int .i64 x435001_1,.slice none 0 0] 40 (0,0)) (bs BK434)) : gb434 ≠ gb450));have n7_:=zMk ((by rw [hg];exact Nat.ne_of_gt (blk_lt (g:=gb434) (o:=.cells #[.int .i64 x435000_1,.int .i64 x435001_1,.slice none 0 0] 40 (0,0)) (bs BK434)) : gb450 ≠ gb434));have n8_:=zMk ((by rw [hg];exact Nat.ne_of_lt (blk_lt (g:=gb442) (o:=.cells #[.int .i64 t435,.int .i64 t436,.int .i64 t437,.int .i64 t438,.int .i64 t439,.string t440] 33 (0,0)) (bs BK442)) : gb442 ≠ gb450));have n9_:=zMk ((by rw [hg];exact Nat.ne_of_gt (blk_lt (g:=gb442) (o:=.cells #[.int .i64 t435,.int .i64 t436,.int .i64 t437,.int .i64 t438,.int .i64 t439,.string t440] 33 (0,0)) (bs BK442)) : gb450 ≠ gb442));clear BK434;clear BK442;clear HB;have BK434:=n0_;have BK442:=n1_;have HB:=n2_;have BK450:=n3_;have GW450:=n4_;have GE450:=n5_;have NB434_450:=n6_;have NB450_434:=n7_;have NB442_450:=n8_;have NB450_442:=n9_;clear n0_ n1_ n2_ n3_ n4_ n5_ n6_ n7_ n8_ n9_;clear hb hbox hg;have hnb26:=NB450_434.out;have hnc26:=NB434_450.out;have hnb27:=NB450_442.out;have hnc27:=NB442_450.out;have hcz28_0 : w25.cell? ⟨gb450,0,none⟩ = some (.int .i64 0):=(zCl BK450.out 0).trans rfl;have hcz28_1 : w25.cell? ⟨gb450,1,none⟩ = some (.int .i64 0):=(zCl BK450.out 1).trans rfl;have hcz28_2 : w25.cell? ⟨gb450,2,none⟩ = some (.int .i64 0):=(zCl BK450.out 2).trans rfl;have hcz28_3 : w25.cell? ⟨gb450,3,none⟩ = some (.int .i64 0):=(zCl BK450.out 3).trans rfl;have hcz28_4 : w25.cell? ⟨gb450,4,none⟩ = some (.int .i64 0):=(zCl BK450.out 4).trans rfl;have hcz28_5 : w25.cell? ⟨gb450,5,none⟩ = some (.string (⟨#[]⟩ : ByteArray)):=(zCl BK450.out 5).trans rfl;have hfz28_0:=zFr BK450.out 0;have hfz28_1:=zFr BK450.out 1;have hfz28_2:=zFr BK450.out 2;have hfz28_3:=zFr BK450.out 3;have hfz28_4:=zFr BK450.out 4;have hfz28_5:=zFr BK450.out 5;have hcz29_0 : w25.cell? ⟨gb434,0,none⟩ = some (.int .i64 x435000_1):=(zCl BK434.out 0).trans rfl;have hcz29_1 : w25.cell? ⟨gb434,1,none⟩ = some (.int .i64 x435001_1):=(zCl BK434.out 1).trans rfl;have hcz29_2 : w25.cell? ⟨gb434,2,none⟩ = some (.slice none 0 0):=(zCl BK434.out 2).trans rfl;have hfz29_0:=zFr BK434.out 0;have hfz29_1:=zFr BK434.out 1;have hfz29_2:=zFr BK434.out 2));try go_wp2_with (first | (go_at_call 55;(with_reducible refine (impl_metaOf.calls k1 _ _ l0 a1 x10_1 t439 t443 t444 t445 t446 t447 t448 false _ ?side1 ?side2 A11.out).mono ?_);(case side1=>repeat (first | exact (Kd.C_below HR0.out HB.out) | (with_reducible refine Kd.C_alloc ?_ _) | (with_reducible refine Kd.C_drewN ?_ _) | (with_reducible refine Kd.C_drew ?_)));(case side2=>exact HC0.out);rintro e w24 ⟨rfl,hb⟩;have n0_:=zMk (blk_below (g:=gb434) (o:=.cells #[.int .i64 x435000_1,.int .i64 x435001_1,.slice none 0 0] 40 (0,0)) (bs BK434) hb);have n1_:=zMk (blk_below (g:=gb442) (o:=.cells #[.int .i64 t435,.int .i64 t436,.int .i64 t437,.int .i64 t438,.int .i64 t439,.string t440] 33 (0,0)) (bs BK442) hb);have n2_:=zMk (below_step (hs2 HB GE434 GE442) hb);clear BK434;clear BK442;clear HB;have BK434:=n0_;have BK442:=n1_;have HB:=n2_;clear n0_ n1_ n2_;(try clear hb);(try clear hb2);(try clear hk);(try clear hi)) | ((with_reducible refine gate_dst (N:=11) rfl ?_);refine box_event ?hg (N:=11) ?hd (cs:=#[.int .i64 0,.int .i64 0,.int .i64 0,.int .i64 0,.int .i64 0,.string (⟨#[]⟩ : ByteArray)]) (t:=33) ?hr ?_;(case hd=>rfl);(case hg=>rfl);(case hr=>first | (go_simp;done) | (go_simp;rfl));intro gb450 hg w25 hbox hb;have n0_:=zMk (blk_below (g:=gb434) (o:=.cells #[.int .i64 x435000_1,.int .i64 x435001_1,.slice none 0 0] 40 (0,0)) (bs BK434) hb);have n1_:=zMk (blk_below (g:=gb442) (o:=.cells #[.int .i64 t435,.int .i64 t436,.int .i64 t437,.int .i64 t438,.int .i64 t439,.string t440] 33 (0,0)) (bs BK442) hb);have n2_:=zMk (below_step (hs2 HB GE434 GE442) hb);have n3_:=zMk (hbox);have n4_:=zMk ((by rw [hg];exact (below_size (hs2 HB GE434 GE442)) : w.heap.size ≤ gb450));have n5_:=zMk ((by rw [hg];exact (below_size (hs2 HB GE434 GE442)) : w.heap.size ≤ gb450));have n6_:=zMk ((by rw [hg];exact Nat.ne_of_lt (blk_lt (g:=gb434) (o:=.cells #[.int .i64 x435000_1,.int .i64 x435001_1,.slice none 0 0] 40 (0,0)) (bs BK434)) : gb434 ≠ gb450));have n7_:=zMk ((by rw [hg];exact Nat.ne_of_gt (blk_lt (g:=gb434) (o:=.cells #[.int .i64 x435000_1,.int .i64 x435001_1,.slice none 0 0] 40 (0,0)) (bs BK434)) : gb450 ≠ gb434));have n8_:=zMk ((by rw [hg];exact Nat.ne_of_lt (blk_lt (g:=gb442) (o:=.cells #[.int .i64 t435,.int .i64 t436,.int .i64 t437,.int .i64 t438,.int .i64 t439,.string t440] 33 (0,0)) (bs BK442)) : gb442 ≠ gb450));have n9_:=zMk ((by rw [hg];exact Nat.ne_of_gt (blk_lt (g:=gb442) (o:=.cells #[.int .i64 t435,.int .i64 t436,.int .i64 t437,.int .i64 t438,.int .i64 t439,.string t440] 33 (0,0)) (bs BK442)) : gb450 ≠ gb442));clear BK434;clear BK442;clear HB;have BK434:=n0_;have BK442:=n1_;have HB:=n2_;have BK450:=n3_;have GW450:=n4_;have GE450:=n5_;have NB434_450:=n6_;have NB450_434:=n7_;have NB442_450:=n8_;have NB450_442:=n9_;clear n0_ n1_ n2_ n3_ n4_ n5_ n6_ n7_ n8_ n9_;clear hb hbox hg;have hnb26:=NB450_434.out;have hnc26:=NB434_450.out;have hnb27:=NB450_442.out;have hnc27:=NB442_450.out;have hcz28_0 : w25.cell? ⟨gb450,0,none⟩ = some (.int .i64 0):=(zCl BK450.out 0).trans rfl;have hcz28_1 : w25.cell? ⟨gb450,1,none⟩ = some (.int .i64 0):=(zCl BK450.out 1).trans rfl;have hcz28_2 : w25.cell? ⟨gb450,2,none⟩ = some (.int .i64 0):=(zCl BK450.out 2).trans rfl;have hcz28_3 : w25.cell? ⟨gb450,3,none⟩ = some (.int .i64 0):=(zCl BK450.out 3).trans rfl;have hcz28_4 : w25.cell? ⟨gb450,4,none⟩ = some (.int .i64 0):=(zCl BK450.out 4).trans rfl;have hcz28_5 : w25.cell? ⟨gb450,5,none⟩ = some (.string (⟨#[]⟩ : ByteArray)):=(zCl BK450.out 5).trans rfl;have hfz28_0:=zFr BK450.out 0;have hfz28_1:=zFr BK450.out 1;have hfz28_2:=zFr BK450.out 2;have hfz28_3:=zFr BK450.out 3;have hfz28_4:=zFr BK450.out 4;have hfz28_5:=zFr BK450.out 5;have hcz29_0 : w25.cell? ⟨gb434,0,none⟩ = some (.int .i64 x435000_1):=(zCl BK434.out 0).trans rfl;have hcz29_1 : w25.cell? ⟨gb434,1,none⟩ = some (.int .i64 x435001_1):=(zCl BK434.out 1).trans rfl;have hcz29_2 : w25.cell? ⟨gb434,2,none⟩ = some (.slice none 0 0):=(zCl BK434.out 2).trans rfl;have hfz29_0:=zFr BK434.out 0;have hfz29_1:=zFr BK434.out 1;have hfz29_2:=zFr BK434.out 2)))
     refine bodyPost_ret (results_ct rfl _ _ gb434 40 #[.int .i64 0,.int .i64 0,.slice none 0 0] (0,0) _ rfl (by (with_reducible repeat (first | refine blk_drewN ?_ _ | refine blk_drew ?_ | refine blk_alloc ?_ _));refine blk_put (cs:=#[.int .i64 0,.int .i64 0,.slice none 0 0]) ?_ 2 _ rfl;(with_reducible repeat (first | refine blk_drewN ?_ _ | refine blk_drew ?_ | refine blk_alloc ?_ _));refine blk_put (cs:=#[.int .i64 0,.int .i64 x435001_1,.slice none 0 0]) ?_ 1 _ rfl;(with_reducible repeat (first | refine blk_drewN ?_ _ | refine blk_drew ?_ | refine blk_alloc ?_ _));refine blk_put (cs:=#[.int .i64 x435000_1,.int .i64 x435001_1,.slice none 0 0]) ?_ 0 _ rfl;(with_reducible repeat (first | refine blk_drewN ?_ _ | refine blk_drew ?_ | refine blk_alloc ?_ _));refine blk_far ?_ NB434_450.out _;(with_reducible repeat (first | refine blk_drewN ?_ _ | refine blk_drew ?_ | refine blk_alloc ?_ _));refine blk_far ?_ NB434_450.out _;(with_reducible repeat (first | refine blk_drewN ?_ _ | refine blk_drew ?_ | refine blk_alloc ?_ _));refine blk_far ?_ NB434_450.out _;(with_reducible repeat (first | refine blk_drewN ?_ _ | refine blk_drew ?_ | refine blk_alloc ?_ _));refine blk_far ?_ NB434_450.out _;(with_reducible repeat (first | refine blk_drewN ?_ _ | refine blk_drew ?_ | refine blk_alloc ?_ _));refine blk_far ?_ NB434_450.out _;(with_reducible repeat (first | refine blk_drewN ?_ _ | refine blk_drew ?_ | refine blk_alloc ?_ _));refine blk_far ?_ NB434_450.out _;(with_reducible repeat (first | refine blk_drewN ?_ _ | refine blk_drew ?_ | refine blk_alloc ?_ _));exact BK434.out) Try.underlying40 rfl (by kernel_rfl)) rfl ?_;exact ⟨_,by first | rfl | (simp [errW_none,errW_some] <;> rfl) | (simp [*,errW_none,errW_some] <;> rfl),by first | exact Kd.R_nil _ _ _ _ _ | exact Kd.N_nil _ _ _ _ _ | exact Kd.V_nil _ _ _ _ _ | exact Kd.Q_nil _ _ _ _ _ | exact Kd.S_nil _ _ _ _ _,hs3 HB GE434 GE442 GE450⟩
    rw [if_neg c10] at H;have c10b0 : decide (x10_1 < t439) = false:=decide_eq_false c10;clear c10;replace H:=Option.bind_eq_some_iff.mp H;obtain ⟨⟨t451,t452⟩,A300,H⟩:=H;replace H : (some (a1,x9_1,t451,t452)) = some (r1,r2,r3,r4):=H;have A30:=zMk A300;clear A300;simp only [Option.some.injEq,Prod.mk.injEq] at H;obtain ⟨rfl,rfl,rfl,rfl⟩:=H;have hnb31:=NB442_434.out;have hnc31:=NB434_442.out;have hcz32_0 : wr.cell? ⟨gb442,0,none⟩ = some (.int .i64 t435):=(zCl BK442.out 0).trans rfl;have hcz32_1 : wr.cell? ⟨gb442,1,none⟩ = some (.int .i64 t436):=(zCl BK442.out 1).trans rfl;have hcz32_2 : wr.cell? ⟨gb442,2,none⟩ = some (.int .i64 t437):=(zCl BK442.out 2).trans rfl;have hcz32_3 : wr.cell? ⟨gb442,3,none⟩ = some (.int .i64 t438):=(zCl BK442.out 3).trans rfl;have hcz32_4 : wr.cell? ⟨gb442,4,none⟩ = some (.int .i64 t439):=(zCl BK442.out 4).trans rfl;have hcz32_5 : wr.cell? ⟨gb442,5,none⟩ = some (.string t440):=(zCl BK442.out 5).trans rfl;have hfz32_0:=zFr BK442.out 0;have hfz32_1:=zFr BK442.out 1;have hfz32_2:=zFr BK442.out 2;have hfz32_3:=zFr BK442.out 3;have hfz32_4:=zFr BK442.out 4;have hfz32_5:=zFr BK442.out 5;go_wp2_with (first | (go_at_call 56;(with_reducible refine (impl_ReadRecs.calls k1 x8_1 t451 t452 _ A30.out).mono ?_);rintro e w33 ⟨v453,rfl,ho0,hb⟩;have n0_:=zMk (Kd.R_lower ho0 (below_size (hs2 HB GE434 GE442)));have n1_:=zMk (blk_below (g:=gb434) (o:=.cells #[.int .i64 x435000_1,.int .i64 x435001_1,.slice none 0 0] 40 (0,0)) (bs BK434) hb);have n2_:=zMk (blk_below (g:=gb442) (o:=.cells #[.int .i64 t435,.int .i64 t436,.int .i64 t437,.int .i64 t438,.int .i64 t439,.string t440] 33 (0,0)) (bs BK442) hb);have n3_:=zMk (below_step (hs2 HB GE434 GE442) hb);clear BK434;clear BK442;clear HB;have HO454:=n0_;have BK434:=n1_;have BK442:=n2_;have HB:=n3_;clear n0_ n1_ n2_ n3_;(try clear hb);(try clear hb2);(try clear hk);(try clear hi);(try clear ho0);obtain ⟨Ao34,co34,eo34⟩:=Kd.R_slice HO454.out;subst eo34;have hcz35_0 : w33.cell? ⟨gb434,0,none⟩ = some (.int .i64 x435000_1):=(zCl BK434.out 0).trans rfl;have hcz35_1 : w33.cell? ⟨gb434,1,none⟩ = some (.int .i64 x435001_1):=(zCl BK434.out 1).trans rfl;have hcz35_2 : w33.cell? ⟨gb434,2,none⟩ = some (.slice none 0 0):=(zCl BK434.out 2).trans rfl;have hfz35_0:=zFr BK434.out 0;have hfz35_1:=zFr BK434.out 1;have hfz35_2:=zFr BK434.out 2))
    repeat (go_quiet (first | (go_at_call 56;(with_reducible refine (impl_ReadRecs.calls k1 x8_1 t451 t452 _ A30.out).mono ?_);rintro e w33 ⟨v453,rfl,ho0,hb⟩;have n0_:=zMk (Kd.R_lower ho0 (below_size (hs2 HB GE434 GE442)));have n1_:=zMk (blk_below (g:=gb434) (o:=.cells #[.int .i64 x435000_1,.int .i64 x435001_1,.slice none 0 0] 40 (0,0)) (bs BK434) hb);have n2_:=zMk (blk_below (g:=gb442) (o:=.cells #[.int .i64 t435,.int .i64 t436,.int .i64 t437,.int .i64 t438,.int .i64 t439,.string t440] 33 (0,0)) (bs BK442) hb);have n3_:=zMk (below_step (hs2 HB GE434 GE442) hb);clear BK434;clear BK442;clear HB;have HO454:=n0_;have BK434:=n1_;have BK442:=n2_;have HB:=n3_;clear n0_ n1_ n2_ n3_;(try clear hb);(try clear hb2);(try clear hk);(try clear hi);(try clear ho0);obtain ⟨Ao34,co34,eo34⟩:=Kd.R_slice HO454.out;subst eo34;have hcz35_0 : w33.cell? ⟨gb434,0,none⟩ = some (.int .i64 x435000_1):=(zCl BK434.out 0).trans rfl;have hcz35_1 : w33.cell? ⟨gb434,1,none⟩ = some (.int .i64 x435001_1):=(zCl BK434.out 1).trans rfl;have hcz35_2 : w33.cell? ⟨gb434,2,none⟩ = some (.slice none 0 0):=(zCl BK434.out 2).trans rfl;have hfz35_0:=zFr BK434.out 0;have hfz35_1:=zFr BK434.out 1;have hfz35_2:=zFr BK434.out 2));try go_wp2_with (first | (go_at_call 56;(with_reducible refine (impl_ReadRecs.calls k1 x8_1 t451 t452 _ A30.out).mono ?_);rintro e w33 ⟨v453,rfl,ho0,hb⟩;have n0_:=zMk (Kd.R_lower ho0 (below_size (hs2 HB GE434 GE442)));have n1_:=zMk (blk_below (g:=gb434) (o:=.cells #[.int .i64 x435000_1,.int .i64 x435001_1,.slice none 0 0] 40 (0,0)) (bs BK434) hb);have n2_:=zMk (blk_below (g:=gb442) (o:=.cells #[.int .i64 t435,.int .i64 t436,.int .i64 t437,.int .i64 t438,.int .i64 t439,.string t440] 33 (0,0)) (bs BK442) hb);have n3_:=zMk (below_step (hs2 HB GE434 GE442) hb);clear BK434;clear BK442;clear HB;have HO454:=n0_;have BK434:=n1_;have BK442:=n2_;have HB:=n3_;clear n0_ n1_ n2_ n3_;(try clear hb);(try clear hb2);(try clear hk);(try clear hi);(try clear ho0);obtain ⟨Ao34,co34,eo34⟩:=Kd.R_slice HO454.out;subst eo34;have hcz35_0 : w33.cell? ⟨gb434,0,none⟩ = some (.int .i64 x435000_1):=(zCl BK434.out 0).trans rfl;have hcz35_1 : w33.cell? ⟨gb434,1,none⟩ = some (.int .i64 x435001_1):=(zCl BK434.out 1).trans rfl;have hcz35_2 : w33.cell? ⟨gb434,2,none⟩ = some (.slice none 0 0):=(zCl BK434.out 2).trans rfl;have hfz35_0:=zFr BK434.out 0;have hfz35_1:=zFr BK434.out 1;have hfz35_2:=zFr BK434.out 2)))
    refine bodyPost_ret (results_ct rfl _ _ gb434 40 #[.int .i64 a1,.int .i64 x9_1,.slice Ao34 t451.length co34] (0,0) _ rfl (by (with_reducible repeat (first | refine blk_drewN ?_ _ | refine blk_drew ?_ | refine blk_alloc ?_ _));refine blk_put (cs:=#[.int .i64 a1,.int .i64 x9_1,.slice none 0 0]) ?_ 2 _ rfl;(with_reducible repeat (first | refine blk_drewN ?_ _ | refine blk_drew ?_ | refine blk_alloc ?_ _));refine blk_put (cs:=#[.int .i64 a1,.int .i64 x435001_1,.slice none 0 0]) ?_ 1 _ rfl;(with_reducible repeat (first | refine blk_drewN ?_ _ | refine blk_drew ?_ | refine blk_alloc ?_ _));refine blk_put (cs:=#[.int .i64 x435000_1,.int .i64 x435001_1,.slice none 0 0]) ?_ 0 _ rfl;(with_reducible repeat (first | refine blk_drewN ?_ _ | refine blk_drew ?_ | refine blk_alloc ?_ _));exact BK434.out) Try.underlying40 rfl (by kernel_rfl)) rfl ?_;exact ⟨_,by first | rfl | (simp [errW_none,errW_some] <;> rfl) | (simp [*,errW_none,errW_some] <;> rfl),by (with_reducible repeat (first | apply Kd.R_alloc | apply Kd.R_drewN | apply Kd.R_drew));exact Kd.R_mono (Kd.R_far (p:=⟨gb434,2,none⟩) (Kd.R_far (p:=⟨gb434,1,none⟩) (Kd.R_far (p:=⟨gb434,0,none⟩) (Kd.R_types HO454.out BK434.out (by decide)) (fun _ hk=>hk.2) (.int .i64 a1)) (fun _ hk=>hk.2) (.int .i64 x9_1)) (fun _ hk=>hk.2) (.slice Ao34 t451.length co34)) (fun _ hk=>trivial),hs2 HB GE434 GE442⟩
 replace c4:=Bool.eq_false_iff.mpr c4;subst c4;have H1 : (some (0,0,([] : List (S45)),false)) = some (r1,r2,r3,r4):=by rw [if_neg (show ¬ (false = true) by decide)] at H;exact H
 clear H;have H:=H1;clear H1;simp only [Option.some.injEq,Prod.mk.injEq] at H;obtain ⟨rfl,rfl,rfl,rfl⟩:=H
 go_enter Try.func37,Try.ntmps37
 go_wp2_with (first | ((with_reducible refine gate_dst (N:=4) rfl ?_);refine box_event ?hg (N:=4) ?hd (cs:=#[.int .i64 0,.int .i64 0,.slice none 0 0]) (t:=40) ?hr ?_;(case hd=>rfl);(case hg=>rfl);(case hr=>first | (go_simp;done) | (go_simp;rfl));intro gb434 hg w36 hbox hb;have n0_:=zMk (below_step (hs HB) hb);have n1_:=zMk (hbox);have n2_:=zMk ((by rw [hg];exact (below_size (hs HB)) : w.heap.size ≤ gb434));have n3_:=zMk ((by rw [hg];exact (below_size (hs HB)) : w.heap.size ≤ gb434));clear HB;have HB:=n0_;have BK434:=n1_;have GW434:=n2_;have GE434:=n3_;clear n0_ n1_ n2_ n3_;clear hb hbox hg) | (go_at_call 55;(with_reducible refine (impl_metaOf.calls k _ _ l0 a1 0 0 t435 t436 t437 t438 t439 t440 false _ ?side1 ?side2 A3.out).mono ?_);(case side1=>repeat (first | exact (Kd.C_below HR0.out HB.out) | (with_reducible refine Kd.C_alloc ?_ _) | (with_reducible refine Kd.C_drewN ?_ _) | (with_reducible refine Kd.C_drew ?_)));(case side2=>exact HC0.out);rintro e w37 ⟨rfl,hb⟩;have n0_:=zMk (blk_below (g:=gb434) (o:=.cells #[.int .i64 0,.int .i64 0,.slice none 0 0] 40 (0,0)) (bs BK434) hb);have n1_:=zMk (below_step (hs1 HB GE434) hb);clear BK434;clear HB;have BK434:=n0_;have HB:=n1_;clear n0_ n1_;(try clear hb);(try clear hb2);(try clear hk);(try clear hi)) | ((with_reducible refine gate_dst (N:=6) rfl ?_);refine box_event ?hg (N:=6) ?hd (cs:=#[.int .i64 0,.int .i64 0,.int .i64 0,.int .i64 0,.int .i64 0,.string (⟨#[]⟩ : ByteArray)]) (t:=33) ?hr ?_;(case hd=>rfl);(case hg=>rfl);(case hr=>first | (go_simp;done) | (go_simp;rfl));intro gb442 hg w38 hbox hb;have n0_:=zMk (blk_below (g:=gb434) (o:=.cells #[.int .i64 0,.int .i64 0,.slice none 0 0] 40 (0,0)) (bs BK434) hb);have n1_:=zMk (below_step (hs1 HB GE434) hb);have n2_:=zMk (hbox);have n3_:=zMk ((by rw [hg];exact (below_size (hs1 HB GE434)) : w.heap.size ≤ gb442));have n4_:=zMk ((by rw [hg];exact (below_size (hs1 HB GE434)) : w.heap.size ≤ gb442));have n5_:=zMk ((by rw [hg];exact Nat.ne_of_lt (blk_lt (g:=gb434) (o:=.cells #[.int .i64 0,.int .i64 0,.slice none 0 0] 40 (0,0)) (bs BK434)) : gb434 ≠ gb442));have n6_:=zMk ((by rw [hg];exact Nat.ne_of_gt (blk_lt (g:=gb434) (o:=.cells #[.int .i64 0,.int .i64 0,.slice none 0 0] 40 (0,0)) (bs BK434)) : gb442 ≠ gb434));clear BK434;clear HB;have BK434:=n0_;have HB:=n1_;have BK442:=n2_;have GW442:=n3_;have GE442:=n4_;have NB434_442:=n5_;have NB442_434:=n6_;clear n0_ n1_ n2_ n3_ n4_ n5_ n6_;clear hb hbox hg;have hnb39:=NB442_434.out;have hnc39:=NB434_442.out;have hcz40_0 : w38.cell? ⟨gb442,0,none⟩ = some (.int .i64 0):=(zCl BK442.out 0).trans rfl;have hcz40_1 : w38.cell? ⟨gb442,1,none⟩ = some (.int .i64 0):=(zCl BK442.out 1).trans rfl;have hcz40_2 : w38.cell? ⟨gb442,2,none⟩ = some (.int .i64 0):=(zCl BK442.out 2).trans rfl;have hcz40_3 : w38.cell? ⟨gb442,3,none⟩ = some (.int .i64 0):=(zCl BK442.out 3).trans rfl;have hcz40_4 : w38.cell? ⟨gb442,4,none⟩ = some (.int .i64 0):=(zCl BK442.out 4).trans rfl;have hcz40_5 : w38.cell? ⟨gb442,5,none⟩ = some (.string (⟨#[]⟩ : ByteArray)):=(zCl BK442.out 5).trans rfl;have hfz40_0:=zFr BK442.out 0;have hfz40_1:=zFr BK442.out 1;have hfz40_2:=zFr BK442.out 2;have hfz40_3:=zFr BK442.out 3;have hfz40_4:=zFr BK442.out 4;have hfz40_5:=zFr BK442.out 5;have hcz41_0 : w38.cell? ⟨gb434,0,none⟩ = some (.int .i64 0):=(zCl BK434.out 0).trans rfl;have hcz41_1 : w38.cell? ⟨gb434,1,none⟩ = some (.int .i64 0):=(zCl BK434.out 1).trans rfl;have hcz41_2 : w38.cell? ⟨gb434,2,none⟩ = some (.slice none 0 0):=(zCl BK434.out 2).trans rfl;have hfz41_0:=zFr BK434.out 0;have hfz41_1:=zFr BK434.out 1;have hfz41_2:=zFr BK434.out 2))
 repeat (go_quiet (first | ((with_reducible refine gate_dst (N:=4) rfl ?_);refine box_event ?hg (N:=4) ?hd (cs:=#[.int .i64 0,.int .i64 0,.slice none 0 0]) (t:=40) ?hr ?_;(case hd=>rfl);(case hg=>rfl);(case hr=>first | (go_simp;done) | (go_simp;rfl));intro gb434 hg w36 hbox hb;have n0_:=zMk (below_step (hs HB) hb);have n1_:=zMk (hbox);have n2_:=zMk ((by rw [hg];exact (below_size (hs HB)) : w.heap.size ≤ gb434));have n3_:=zMk ((by rw [hg];exact (below_size (hs HB)) : w.heap.size ≤ gb434));clear HB;have HB:=n0_;have BK434:=n1_;have GW434:=n2_;have GE434:=n3_;clear n0_ n1_ n2_ n3_;clear hb hbox hg) | (go_at_call 55;(with_reducible refine (impl_metaOf.calls k _ _ l0 a1 0 0 t435 t436 t437 t438 t439 t440 false _ ?side1 ?side2 A3.out).mono ?_);(case side1=>repeat (first | exact (Kd.C_below HR0.out HB.out) | (with_reducible refine Kd.C_alloc ?_ _) | (with_reducible refine Kd.C_drewN ?_ _) | (with_reducible refine Kd.C_drew ?_)));(case side2=>exact HC0.out);rintro e w37 ⟨rfl,hb⟩;have n0_:=zMk (blk_below (g:=gb434) (o:=.cells #[.int .i64 0,.int .i64 0,.slice none 0 0] 40 (0,0)) (bs BK434) hb);have n1_:=zMk (below_step (hs1 HB GE434) hb);clear BK434;clear HB;have BK434:=n0_;have HB:=n1_;clear n0_ n1_;(try clear hb);(try clear hb2);(try clear hk);(try clear hi)) | ((with_reducible refine gate_dst (N:=6) rfl ?_);refine box_event ?hg (N:=6) ?hd (cs:=#[.int .i64 0,.int .i64 0,.int .i64 0,.int .i64 0,.int .i64 0,.string (⟨#[]⟩ : ByteArray)]) (t:=33) ?hr ?_;(case hd=>rfl);(case hg=>rfl);(case hr=>first | (go_simp;done) | (go_simp;rfl));intro gb442 hg w38 hbox hb;have n0_:=zMk (blk_below (g:=gb434) (o:=.cells #[.int .i64 0,.int .i64 0,.slice none 0 0] 40 (0,0)) (bs BK434) hb);have n1_:=zMk (below_step (hs1 HB GE434) hb);have n2_:=zMk (hbox);have n3_:=zMk ((by rw [hg];exact (below_size (hs1 HB GE434)) : w.heap.size ≤ gb442));have n4_:=zMk ((by rw [hg];exact (below_size (hs1 HB GE434)) : w.heap.size ≤ gb442));have n5_:=zMk ((by rw [hg];exact Nat.ne_of_lt (blk_lt (g:=gb434) (o:=.cells #[.int .i64 0,.int .i64 0,.slice none 0 0] 40 (0,0)) (bs BK434)) : gb434 ≠ gb442));have n6_:=zMk ((by rw [hg];exact Nat.ne_of_gt (blk_lt (g:=gb434) (o:=.cells #[.int .i64 0,.int .i64 0,.slice none 0 0] 40 (0,0)) (bs BK434)) : gb442 ≠ gb434));clear BK434;clear HB;have BK434:=n0_;have HB:=n1_;have BK442:=n2_;have GW442:=n3_;have GE442:=n4_;have NB434_442:=n5_;have NB442_434:=n6_;clear n0_ n1_ n2_ n3_ n4_ n5_ n6_;clear hb hbox hg;have hnb39:=NB442_434.out;have hnc39:=NB434_442.out;have hcz40_0 : w38.cell? ⟨gb442,0,none⟩ = some (.int .i64 0):=(zCl BK442.out 0).trans rfl;have hcz40_1 : w38.cell? ⟨gb442,1,none⟩ = some (.int .i64 0):=(zCl BK442.out 1).trans rfl;have hcz40_2 : w38.cell? ⟨gb442,2,none⟩ = some (.int .i64 0):=(zCl BK442.out 2).trans rfl;have hcz40_3 : w38.cell? ⟨gb442,3,none⟩ = some (.int .i64 0):=(zCl BK442.out 3).trans rfl;have hcz40_4 : w38.cell? ⟨gb442,4,none⟩ = some (.int .i64 0):=(zCl BK442.out 4).trans rfl;have hcz40_5 : w38.cell? ⟨gb442,5,none⟩ = some (.string (⟨#[]⟩ : ByteArray)):=(zCl BK442.out 5).trans rfl;have hfz40_0:=zFr BK442.out 0;have hfz40_1:=zFr BK442.out 1;have hfz40_2:=zFr BK442.out 2;have hfz40_3:=zFr BK442.out 3;have hfz40_4:=zFr BK442.out 4;have hfz40_5:=zFr BK442.out 5;have hcz41_0 : w38.cell? ⟨gb434,0,none⟩ = some (.int .i64 0):=(zCl BK434.out 0).trans rfl;have hcz41_1 : w38.cell? ⟨gb434,1,none⟩ = some (.int .i64 0):=(zCl BK434.out 1).trans rfl;have hcz41_2 : w38.cell? ⟨gb434,2,none⟩ = some (.slice none 0 0):=(zCl BK434.out 2).trans rfl;have hfz41_0:=zFr BK434.out 0;have hfz41_1:=zFr BK434.out 1;have hfz41_2:=zFr BK434.out 2));try go_wp2_with (first | ((with_reducible refine gate_dst (N:=4) rfl ?_);refine box_event ?hg (N:=4) ?hd (cs:=#[.int .i64 0,.int .i64 0,.slice none 0 0]) (t:=40) ?hr ?_;(case hd=>rfl);(case hg=>rfl);(case hr=>first | (go_simp;done) | (go_simp;rfl));intro gb434 hg w36 hbox hb;have n0_:=zMk (below_step (hs HB) hb);have n1_:=zMk (hbox);have n2_:=zMk ((by rw [hg];exact (below_size (hs HB)) : w.heap.size ≤ gb434));have n3_:=zMk ((by rw [hg];exact (below_size (hs HB)) : w.heap.size ≤ gb434));clear HB;have HB:=n0_;have BK434:=n1_;have GW434:=n2_;have GE434:=n3_;clear n0_ n1_ n2_ n3_;clear hb hbox hg) | (go_at_call 55;(with_reducible refine (impl_metaOf.calls k _ _ l0 a1 0 0 t435 t436 t437 t438 t439 t440 false _ ?side1 ?side2 A3.out).mono ?_);(case side1=>repeat (first | exact (Kd.C_below HR0.out HB.out) | (with_reducible refine Kd.C_alloc ?_ _) | (with_reducible refine Kd.C_drewN ?_ _) | (with_reducible refine Kd.C_drew ?_)));(case side2=>exact HC0.out);rintro e w37 ⟨rfl,hb⟩;have n0_:=zMk (blk_below (g:=gb434) (o:=.cells #[.int .i64 0,.int .i64 0,.slice none 0 0] 40 (0,0)) (bs BK434) hb);have n1_:=zMk (below_step (hs1 HB GE434) hb);clear BK434;clear HB;have BK434:=n0_;have HB:=n1_;clear n0_ n1_;(try clear hb);(try clear hb2);(try clear hk);(try clear hi)) | ((with_reducible refine gate_dst (N:=6) rfl ?_);refine box_event ?hg (N:=6) ?hd (cs:=#[.int .i64 0,.int .i64 0,.int .i64 0,.int .i64 0,.int .i64 0,.string (⟨#[]⟩ : ByteArray)]) (t:=33) ?hr ?_;(case hd=>rfl);(case hg=>rfl);(case hr=>first | (go_simp;done) | (go_simp;rfl));intro gb442 hg w38 hbox hb;have n0_:=zMk (blk_below (g:=gb434) (o:=.cells #[.int .i64 0,.int .i64 0,.slice none 0 0] 40 (0,0)) (bs BK434) hb);have n1_:=zMk (below_step (hs1 HB GE434) hb);have n2_:=zMk (hbox);have n3_:=zMk ((by rw [hg];exact (below_size (hs1 HB GE434)) : w.heap.size ≤ gb442));have n4_:=zMk ((by rw [hg];exact (below_size (hs1 HB GE434)) : w.heap.size ≤ gb442));have n5_:=zMk ((by rw [hg];exact Nat.ne_of_lt (blk_lt (g:=gb434) (o:=.cells #[.int .i64 0,.int .i64 0,.slice none 0 0] 40 (0,0)) (bs BK434)) : gb434 ≠ gb442));have n6_:=zMk ((by rw [hg];exact Nat.ne_of_gt (blk_lt (g:=gb434) (o:=.cells #[.int .i64 0,.int .i64 0,.slice none 0 0] 40 (0,0)) (bs BK434)) : gb442 ≠ gb434));clear BK434;clear HB;have BK434:=n0_;have HB:=n1_;have BK442:=n2_;have GW442:=n3_;have GE442:=n4_;have NB434_442:=n5_;have NB442_434:=n6_;clear n0_ n1_ n2_ n3_ n4_ n5_ n6_;clear hb hbox hg;have hnb39:=NB442_434.out;have hnc39:=NB434_442.out;have hcz40_0 : w38.cell? ⟨gb442,0,none⟩ = some (.int .i64 0):=(zCl BK442.out 0).trans rfl;have hcz40_1 : w38.cell? ⟨gb442,1,none⟩ = some (.int .i64 0):=(zCl BK442.out 1).trans rfl;have hcz40_2 : w38.cell? ⟨gb442,2,none⟩ = some (.int .i64 0):=(zCl BK442.out 2).trans rfl;have hcz40_3 : w38.cell? ⟨gb442,3,none⟩ = some (.int .i64 0):=(zCl BK442.out 3).trans rfl;have hcz40_4 : w38.cell? ⟨gb442,4,none⟩ = some (.int .i64 0):=(zCl BK442.out 4).trans rfl;have hcz40_5 : w38.cell? ⟨gb442,5,none⟩ = some (.string (⟨#[]⟩ : ByteArray)):=(zCl BK442.out 5).trans rfl;have hfz40_0:=zFr BK442.out 0;have hfz40_1:=zFr BK442.out 1;have hfz40_2:=zFr BK442.out 2;have hfz40_3:=zFr BK442.out 3;have hfz40_4:=zFr BK442.out 4;have hfz40_5:=zFr BK442.out 5;have hcz41_0 : w38.cell? ⟨gb434,0,none⟩ = some (.int .i64 0):=(zCl BK434.out 0).trans rfl;have hcz41_1 : w38.cell? ⟨gb434,1,none⟩ = some (.int .i64 0):=(zCl BK434.out 1).trans rfl;have hcz41_2 : w38.cell? ⟨gb434,2,none⟩ = some (.slice none 0 0):=(zCl BK434.out 2).trans rfl;have hfz41_0:=zFr BK434.out 0;have hfz41_1:=zFr BK434.out 1;have hfz41_2:=zFr BK434.out 2)))
 refine bodyPost_ret (results_ct rfl _ _ gb434 40 #[.int .i64 0,.int .i64 0,.slice none 0 0] (0,0) _ rfl (by (with_reducible repeat (first | refine blk_drewN ?_ _ | refine blk_drew ?_ | refine blk_alloc ?_ _));refine blk_put (cs:=#[.int .i64 0,.int .i64 0,.slice none 0 0]) ?_ 2 _ rfl;(with_reducible repeat (first | refine blk_drewN ?_ _ | refine blk_drew ?_ | refine blk_alloc ?_ _));refine blk_put (cs:=#[.int .i64 0,.int .i64 0,.slice none 0 0]) ?_ 1 _ rfl;(with_reducible repeat (first | refine blk_drewN ?_ _ | refine blk_drew ?_ | refine blk_alloc ?_ _));refine blk_put (cs:=#[.int .i64 0,.int .i64 0,.slice none 0 0]) ?_ 0 _ rfl;(with_reducible repeat (first | refine blk_drewN ?_ _ | refine blk_drew ?_ | refine blk_alloc ?_ _));refine blk_far ?_ NB434_442.out _;(with_reducible repeat (first | refine blk_drewN ?_ _ | refine blk_drew ?_ | refine blk_alloc ?_ _));refine blk_far ?_ NB434_442.out _;(with_reducible repeat (first | refine blk_drewN ?_ _ | refine blk_drew ?_ | refine blk_alloc ?_ _));refine blk_far ?_ NB434_442.out _;(with_reducible repeat (first | refine blk_drewN ?_ _ | refine blk_drew ?_ | refine blk_alloc ?_ _));refine blk_far ?_ NB434_442.out _;(with_reducible repeat (first | refine blk_drewN ?_ _ | refine blk_drew ?_ | refine blk_alloc ?_ _));refine blk_far ?_ NB434_442.out _;(with_reducible repeat (first | refine blk_drewN ?_ _ | refine blk_drew ?_ | refine blk_alloc ?_ _));refine blk_far ?_ NB434_442.out _;(with_reducible repeat (first | refine blk_drewN ?_ _ | refine blk_drew ?_ | refine blk_alloc ?_ _));exact BK434.out) Try.underlying40 rfl (by kernel_rfl)) rfl ?_;exact ⟨_,by first | rfl | (simp [errW_none,errW_some] <;> rfl) | (simp [*,errW_none,errW_some] <;> rfl),by first | exact Kd.R_nil _ _ _ _ _ | exact Kd.N_nil _ _ _ _ _ | exact Kd.V_nil _ _ _ _ _ | exact Kd.Q_nil _ _ _ _ _ | exact Kd.S_nil _ _ _ _ _,hs2 HB GE434 GE442⟩
end Go.Proofs.Ytodokejcmbjpbaa.PK

namespace Go.Proofs.Ytodokejcmbjpbaa.PK
open Go.Shelf Go.RowKit Go.Proofs.YtodokejcmbjpbaaW.PrintWords
def lays191_ren : Go.Shelf.Ren:=⟨fun | 191=>36 | 189=>54 | 125=>65 | 257=>64 | 128=>78 | 129=>79 | 294=>69 | 295=>70 | 296=>71 | 297=>72 | 298=>73 | 299=>74 | 216=>75 | 300=>76 | 301=>77 | 328=>81 | 329=>82 | 330=>83 | 331=>84 | 332=>85 | 215=>86 | 343=>87 | n=>n,fun | 28=>26 | 0=>0 | 3=>3 | 46=>82 | 51=>112 | 53=>114 | 4=>4 | 183=>104 | 182=>103 | 131=>109 | 5=>5 | 9=>9 | 218=>115 | 222=>119 | 228=>122 | 229=>123 | n=>n,fun n=>n⟩
theorem lays191 : Lays.n191 Try.prog lays191_ren where
 mixed:=by kernel_rfl
 f125:=Try.func65.trans (congrArg some (by kernel_rfl))
 f128:=Try.func78.trans (congrArg some (by kernel_rfl))
 f129:=Try.func79.trans (congrArg some (by kernel_rfl))
 f189:=Try.func54.trans (congrArg some (by kernel_rfl))
 f191:=Try.func36.trans (congrArg some (by kernel_rfl))
 f215:=Try.func86.trans (congrArg some (by kernel_rfl))
 f216:=Try.func75.trans (congrArg some (by kernel_rfl))
 f257:=Try.func64.trans (congrArg some (by kernel_rfl))
 f294:=Try.func69.trans (congrArg some (by kernel_rfl))
 f295:=Try.func70.trans (congrArg some (by kernel_rfl))
 f296:=Try.func71.trans (congrArg some (by kernel_rfl))
 f297:=Try.func72.trans (congrArg some (by kernel_rfl))
 f298:=Try.func73.trans (congrArg some (by kernel_rfl))
 f299:=Try.func74.trans (congrArg some (by kernel_rfl))
 f300:=Try.func76.trans (congrArg some (by kernel_rfl))
 f301:=Try.func77.trans (congrArg some (by kernel_rfl))
 f328:=Try.func81.trans (congrArg some (by kernel_rfl))
 f329:=Try.func82.trans (congrArg some (by kernel_rfl))
 f330:=Try.func83.trans (congrArg some (by kernel_rfl))
 f331:=Try.func84.trans (congrArg some (by kernel_rfl))
 f332:=Try.func85.trans (congrArg some (by kernel_rfl))
 f343:=Try.func87.trans (congrArg some (by kernel_rfl))
 t0:=Try.underlying0
 a0:=Try.isAgg0
 z0:=Try.sizeOf0
 v0:=Try.zeroValue0
 t3:=Try.underlying3
 a3:=Try.isAgg3
 z3:=Try.sizeOf3
 v3:=Try.zeroValue3
 t4:=Try.underlying4
 a4:=Try.isAgg4
 z4:=Try.sizeOf4
 v4:=Try.zeroValue4
 t5:=Try.underlying5
 a5:=Try.isAgg5
 z5:=Try.sizeOf5
 v5:=Try.zeroValue5
 t9:=Try.underlying9
 a9:=Try.isAgg9
 z9:=Try.sizeOf9
 v9:=Try.zeroValue9
 t28:=Try.underlying26
 a28:=Try.isAgg26
 z28:=Try.sizeOf26
 v28:=Try.zeroValue26
 t46:=Try.underlying82
 a46:=Try.isAgg82
 z46:=Try.sizeOf82
 v46:=Try.zeroValue82
 t51:=Try.underlying112
 a51:=Try.isAgg112
 z51:=Try.sizeOf112
 v51:=Try.zeroValue112
 t53:=Try.underlying114
 a53:=Try.isAgg114
 z53:=Try.sizeOf114
 v53:=Try.zeroValue114
 t131:=Try.underlying109
 a131:=Try.isAgg109
 z131:=Try.sizeOf109
 v131:=Try.zeroValue109
 t182:=Try.underlying103
 a182:=Try.isAgg103
 z182:=Try.sizeOf103
 v182:=Try.zeroValue103
 t183:=Try.underlying104
 a183:=Try.isAgg104
 z183:=Try.sizeOf104
 v183:=Try.zeroValue104
 t218:=Try.underlying115
 a218:=Try.isAgg115
 z218:=Try.sizeOf115
 v218:=Try.zeroValue115
 t222:=Try.underlying119
 a222:=Try.isAgg119
 z222:=Try.sizeOf119
 v222:=Try.zeroValue119
 t228:=Try.underlying122
 a228:=Try.isAgg122
 z228:=Try.sizeOf122
 v228:=Try.zeroValue122
 t229:=Try.underlying123
 a229:=Try.isAgg123
 z229:=Try.sizeOf123
 v229:=Try.zeroValue123
def sort_Ints.f (_ : Nat) (l0 : List Int) : Option (List Int):=if l0.length < 4611686018427387904 then some (l0.mergeSort fun x y=>decide (x ≤ y)) else none
theorem sort_Ints.mono : ∀ a0 k,LeO (sort_Ints.f k a0) (sort_Ints.f (k + 1) a0):=fun _ _=>LeO.refl _
theorem reps_ints : ∀ {l : List Int} {cs : List Value},Reps (fun x c=>c = [Value.int .i64 x]) 1 l cs → cs = l.map (Value.int .i64):=by
 intro l cs h;obtain ⟨h1,h2⟩:=h;apply List.ext_getElem
 ·simp;omega
 intro j g1 g2;have g3 : j < l.length:=by simpa using g2
 have h3:=h2 j l[j] (List.getElem?_eq_getElem g3);rw [Nat.mul_one,List.take_one,List.head?_drop,List.getElem?_eq_getElem g1] at h3;have h4 : [cs[j]] = [Value.int .i64 l[j]]:=h3;rw [List.getElem_map];exact List.head_eq_of_cons_eq h4
theorem ints_reps (l : List Int) : Reps (fun x c=>c = [Value.int .i64 x]) 1 l (l.map (Value.int .i64)):=by
 refine ⟨by simp,fun j p hp=>?_⟩;rw [Nat.mul_one,List.take_one,List.head?_drop,List.getElem?_map,hp];rfl
theorem sort_Ints.calls (k : Nat) (P0_ : Nat → Prop) (u0_ : Value) (l0 : List Int) (r1 : List Int) (w0 w : World) (hB : Below w0.heap.size w0 w) (ho0 : Kd.R (Kd.int .i64) 3 w w0.heap.size P0_ u0_ l0) (h : sort_Ints.f k l0 = some r1) :
  Calls Try.prog 36 #[u0_] w fun e w'=>e = .returned (.tuple #[]) ∧ Kd.R (Kd.int .i64) 3 w' w0.heap.size (fun k_=>(P0_ k_ ∨ w.heap.size ≤ k_)) u0_ r1 ∧ Below w0.heap.size w0 w' ∧ Kept w w' (fun k_=>P0_ k_):=by
 unfold sort_Ints.f at h
 by_cases hlt : l0.length < 4611686018427387904
 case neg=>rw [if_neg hlt] at h;cases h
 rw [if_pos hlt] at h;obtain rfl:=Option.some.inj h;obtain ⟨hP,inner,ho,hr⟩:=ho0;obtain rfl:=reps_ints hr;rcases ho.2 with ⟨rfl,hl⟩ | ⟨g,cap,cur,rfl,hg,hb,h1,h2,h3,ht⟩
 ·obtain rfl : l0 = []:=List.length_eq_zero_iff.1 hl;refine (Any.sort_Ints_none lays191 none 0 w).mono fun e w' ⟨he,hw⟩=>?_;subst hw;exact ⟨he,by rw [show ([] : List Int).mergeSort (fun x y=>decide (x ≤ y)) = [] by simp];exact Kd.R_nil _ _ _ _ _,hB,Kept.refl _ _⟩
 have hH : Go.Sort.Holds (Value.int .i64) w g 0 l0.toArray:=holds_of_blockI hb (by have ht' : cur.toList.take (l0.length * 1) = l0.map (Value.int .i64):=ht;rw [Nat.mul_one] at ht';exact ht');have hlen : (l0.mergeSort fun x y=>decide (x ≤ y)).length = l0.length:=List.length_mergeSort l0;refine (Any.sort_Ints lays191 g 0 cap l0 w hH (blk_lt hb) hlt).mono fun e w' ⟨he,n,os,hw⟩=>?_;subst hw;have hgr:=grownBy_sortedI (w:=w) (g:=g) (n:=n) (os:=os) (l0.mergeSort fun x y=>decide (x ≤ y)).toArray;refine ⟨he,⟨fun k hk=>.inl (hP k hk),(l0.mergeSort fun x y=>decide (x ≤ y)).map (Value.int .i64),?_,ints_reps _⟩,?_,?_⟩
 ·have:=ownsRow_sortedI (n:=n) (os:=os) hlen hg hb h1 h2 h3;rw [hlen];exact this
 ·exact ⟨hgr.1.trans hB.os,hgr.2.trans hB.tape,hgr.3.trans hB.output,Nat.le_trans hB.size hgr.size,fun k hk=>(hgr.block k (Nat.lt_of_lt_of_le hk hB.size) (by intro e2;injection e2 with e2;omega)).trans (hB.block k hk)⟩
 exact Kept.of_grown hgr (Kept.refl _ _) fun k hk=>.inl (hP k hk)
end Go.Proofs.Ytodokejcmbjpbaa.PK

namespace Go.Proofs.Ytodokejcmbjpbaa.PK
open Go.RowKit Go.Proofs.YtodokejcmbjpbaaW.PrintWords Go.Proofs.YtodokejcmbjpbaaW.PrintLast Go.Proofs.YtodokejcmbjpbaaW.PrintMore
attribute [local go_sem] max2_int min2_int max_two min_two max_three min_three max_four min_four
mutual
def impl_Gather.l0 : Nat → List (S36) → List Int → List (S36) → Int → Int → Option ((List (S40)))
 | 0,_,_,_,_,_=>none
 | k + 1,x0,x3,x11,x12,x13=>if x13 < x12 then (if 0 ≤ x13 then (if x13 < (x11.length : Int) then (if ((rd_T36 x11 x13).f2.f0) = 2 then ((impl_hasInt.f k x3 ((rd_T36 x11 x13).f2.f2)).bind fun t457=>(if t457 = true then (impl_Gather.l0 k x0 x3 x11 x12 (wrap64 (x13 + 1))) else (if x3.length < 17592186044416 then (impl_Gather.l0 k x0 (x3 ++ [(rd_T36 x11 x13).f2.f2]) x11 x12 (wrap64 (x13 + 1))) else (none)))) else (impl_Gather.l0 k x0 x3 x11 x12 (wrap64 (x13 + 1)))) else (none)) else (none)) else ((sort_Ints.f k x3).bind fun t461=>(impl_Gather.l1 k x0 ([] : List (S40)) t461 (x3.length : Int) 0))
def impl_Gather.l1 : Nat → List (S36) → List (S40) → List Int → Int → Int → Option ((List (S40)))
 | 0,_,_,_,_,_=>none
 | k + 1,x0,x6,x38,x39,x40=>if x40 < x39 then (if 0 ≤ x40 then (if x40 < (x38.length : Int) then ((impl_gathered.f k x0 (rd x38 x40)).bind fun bt463=>(if bt463.2.2.2 = true then (if x6.length < 3518437208883 then (impl_Gather.l1 k x0 (x6 ++ [(⟨bt463.1,bt463.2.1,bt463.2.2.1⟩ : S40)]) x38 x39 (wrap64 (x40 + 1))) else (none)) else (impl_Gather.l1 k x0 x6 x38 x39 (wrap64 (x40 + 1))))) else (none)) else (none)) else (some x6)
end
def impl_Gather.f (k : Nat) (l0 : List (S36)) : Option ((List (S40))):=impl_Gather.l0 k l0 ([] : List Int) l0 (l0.length : Int) 0
theorem impl_Gather.mono_l : ∀ k,(∀ y0 y1 y2 y3 y4,LeO (impl_Gather.l0 k y0 y1 y2 y3 y4) (impl_Gather.l0 (k + 1) y0 y1 y2 y3 y4)) ∧ (∀ y0 y1 y2 y3 y4,LeO (impl_Gather.l1 k y0 y1 y2 y3 y4) (impl_Gather.l1 (k + 1) y0 y1 y2 y3 y4))
 | 0=>⟨fun _ _ _ _ _ r h=>by simp [impl_Gather.l0] at h,fun _ _ _ _ _ r h=>by simp [impl_Gather.l1] at h⟩
 | k + 1=>by
  obtain ⟨ih0,ih1⟩:=impl_Gather.mono_l k;refine ⟨?_,?_⟩
  ·intro y0 y1 y2 y3 y4;unfold impl_Gather.l0
   repeat' first
   | (with_reducible exact ih0 _ _ _ _ _)
   | (with_reducible exact ih1 _ _ _ _ _)
   | (with_reducible exact impl_gathered.mono _ _ _)
   | (with_reducible exact impl_hasInt.mono _ _ _)
   | (with_reducible exact sort_Ints.mono _ _)
   | (with_reducible exact LeO.refl _)
   | (with_reducible exact LeO.none _)
   | (with_reducible refine LeO.ite ?_ ?_)
   | (with_reducible refine LeO.bind ?_ (fun _=>?_))
   | exact ih0 _ _ _ _ _
   | exact ih1 _ _ _ _ _
   | exact impl_gathered.mono _ _ _
   | exact impl_hasInt.mono _ _ _
   | exact sort_Ints.mono _ _
   | exact LeO.none _
   | refine LeO.ite ?_ ?_
   | refine LeO.bind ?_ (fun _=>?_)
  intro y0 y1 y2 y3 y4;unfold impl_Gather.l1
  repeat' first
  | (with_reducible exact ih0 _ _ _ _ _)
  | (with_reducible exact ih1 _ _ _ _ _)
  | (with_reducible exact impl_gathered.mono _ _ _)
  | (with_reducible exact impl_hasInt.mono _ _ _)
  | (with_reducible exact sort_Ints.mono _ _)
  | (with_reducible exact LeO.refl _)
  | (with_reducible exact LeO.none _)
  | (with_reducible refine LeO.ite ?_ ?_)
  | (with_reducible refine LeO.bind ?_ (fun _=>?_))
  | exact ih0 _ _ _ _ _
  | exact ih1 _ _ _ _ _
  | exact impl_gathered.mono _ _ _
  | exact impl_hasInt.mono _ _ _
  | exact sort_Ints.mono _ _
  | exact LeO.none _
  | refine LeO.ite ?_ ?_
  | refine LeO.bind ?_ (fun _=>?_)
theorem impl_Gather.mono : ∀ a0 k,LeO (impl_Gather.f k a0) (impl_Gather.f (k + 1) a0):=by
 intro a0 k;obtain ⟨ih0,ih1⟩:=impl_Gather.mono_l k;unfold impl_Gather.f
 repeat' first
   | (with_reducible exact ih0 _ _ _ _ _)
   | (with_reducible exact ih1 _ _ _ _ _)
   | (with_reducible exact impl_gathered.mono _ _ _)
   | (with_reducible exact impl_hasInt.mono _ _ _)
   | (with_reducible exact sort_Ints.mono _ _)
   | (with_reducible exact LeO.refl _)
   | (with_reducible exact LeO.none _)
   | (with_reducible refine LeO.ite ?_ ?_)
   | (with_reducible refine LeO.bind ?_ (fun _=>?_))
   | exact ih0 _ _ _ _ _
   | exact ih1 _ _ _ _ _
   | exact impl_gathered.mono _ _ _
   | exact impl_hasInt.mono _ _ _
   | exact sort_Ints.mono _ _
   | exact LeO.none _
   | refine LeO.ite ?_ ?_
   | refine LeO.bind ?_ (fun _=>?_)
set_option maxHeartbeats 8000000 in
set_option maxRecDepth 100000 in
theorem impl_Gather.calls (k : Nat) (A0 : Option Addr) (c0 : Nat) (l0 : List (S36)) (r : List (S40)) (w : World) (hr0 : Kd.C k36 w A0 l0.length l0) (hc0 : l0.length ≤ c0) (h : impl_Gather.f k l0 = some r) :
  Calls Try.prog 13 #[.slice A0 l0.length c0] w fun e w'=>∃ v0_ : Value,e = .returned (v0_) ∧ Kd.S k40 40 w' w.heap.size (fun _=>True) v0_ r ∧ Below w.heap.size w w':=by
 have hu36:=Try.underlying36;have hu40:=Try.underlying40;have HR0:=zMk hr0;have HC0:=zMk hc0;clear hr0 hc0;have HB:=zMk (Below.refl w.heap.size w);have H : (impl_Gather.l0 k l0 ([] : List Int) l0 (l0.length : Int) 0) = some r:=h;clear h;have H':=zMk H;clear H
 go_enter Try.func13,Try.ntmps13
 go_wp2
 go_loopg [3,13] k (fun kq v3 v13 w'=>∃ (x3_1 : List Int) (x13_1 : Int),v13 = .int .i64 x13_1 ∧ Aside0 (impl_Gather.l0 kq l0 x3_1 l0 (l0.length : Int) x13_1 = some r) ∧ Aside0 (kq ≤ k) ∧ Aside0 (Kd.R (Kd.int .i64) 3 w' w.heap.size (fun _=>True) v3 x3_1) ∧ Aside0 (Below w.heap.size w w'));case atStart=>exact ⟨(([] : List Int)),(0),(by first | rfl | (simp;done) | (simp [*];done)),H',⟨Nat.le_refl _⟩,⟨by first | exact Kd.R_nil _ _ _ _ _ | exact Kd.N_nil _ _ _ _ _ | exact Kd.V_nil _ _ _ _ _ | exact Kd.Q_nil _ _ _ _ _ | exact Kd.S_nil _ _ _ _ _⟩,⟨hs HB⟩⟩
 case round =>
  clear H'
  try clear c1
  obtain ⟨x3_1,x13_1,rfl,HA,HK1,HO_3,HB⟩:=hrel;cases gk with
  | zero=>exact absurd HA.out (by simp [impl_Gather.l0])
  | succ k1 =>
   have H:=HA.out;clear HA;simp only [impl_Gather.l0] at H
   by_cases c2 : x13_1 < (l0.length : Int)
   ·rw [if_pos c2] at H;have c2b0 : decide (x13_1 < (l0.length : Int)) = true:=decide_eq_true c2;clear c2
    by_cases c3 : 0 ≤ x13_1
    ·rw [if_pos c3] at H;have c3b0 : decide (0 ≤ x13_1) = true:=decide_eq_true c3;clear c3
     by_cases c4 : x13_1 < (l0.length : Int)
     ·rw [if_pos c4] at H;have c4b0 : decide (x13_1 < (l0.length : Int)) = true:=decide_eq_true c4;clear c4
      by_cases c5 : ((rd_T36 l0 x13_1).f2.f0) = 2
      ·rw [if_pos c5] at H;have c5b0 : (((rd_T36 l0 x13_1).f2.f0) == 2) = true:=beq_iff_eq.mpr c5;have c5b1 : (((rd_T36 l0 x13_1).f2.f0) != 2) = false:=bne_eq_false_iff_eq.mpr c5;clear c5;replace H:=Option.bind_eq_some_iff.mp H;obtain ⟨t457,A60,H⟩:=H;replace H : (if t457 = true then (impl_Gather.l0 k1 l0 x3_1 l0 (l0.length : Int) (wrap64 (x13_1 + 1))) else (if x3_1.length < 17592186044416 then (impl_Gather.l0 k1 l0 (x3_1 ++ [(rd_T36 l0 x13_1).f2.f2]) l0 (l0.length : Int) (wrap64 (x13_1 + 1))) else (none))) = some r:=H;have A6:=zMk A60;clear A60
       by_cases c7 : t457 = true
       ·subst c7;have H1 : (impl_Gather.l0 k1 l0 x3_1 l0 (l0.length : Int) (wrap64 (x13_1 + 1))) = some r:=by rw [if_pos rfl] at H;exact H
        clear H;have H:=H1;clear H1;have H':=zMk H;clear H;have p455 : 0 ≤ (x13_1 : Int):=zDe (by first | (with_reducible assumption) | assumption);have q455 : x13_1 < (l0.length : Int):=zDe (by first | (with_reducible assumption) | assumption);obtain ⟨ad455,e455,hx455_0,hx455_1,hx455_2,hx455_3,hx455_4,hx455_5,hx455_6,hx455_7⟩:=at_T36 HR0.out x13_1 p455 q455;cases e455;replace hx455_0:=(HB.out.cell (zBl w _ hx455_0)).trans hx455_0;replace hx455_1:=(HB.out.cell (zBl w _ hx455_1)).trans hx455_1;replace hx455_2:=(HB.out.cell (zBl w _ hx455_2)).trans hx455_2;replace hx455_3:=(HB.out.cell (zBl w _ hx455_3)).trans hx455_3;replace hx455_4:=(HB.out.cell (zBl w _ hx455_4)).trans hx455_4;replace hx455_5:=(HB.out.cell (zBl w _ hx455_5)).trans hx455_5;replace hx455_6:=(HB.out.cell (zBl w _ hx455_6)).trans hx455_6;replace hx455_7:=(HB.out.cell (zBl w _ hx455_7)).trans hx455_7;replace p455:=eq_true p455;replace q455:=eq_true q455;go_wp2_with (first | ((with_reducible refine gate_dst (N:=5) rfl ?_);refine box_event ?hg (N:=5) ?hd (cs:=#[.int .i64 0,.int .i64 0,.int .i64 0,.int .i64 0,.int .i64 0,.int .i64 0,.int .i64 0,.string (⟨#[]⟩ : ByteArray)]) (t:=36) ?hr ?_;(case hd=>rfl);(case hg=>rfl);(case hr=>first | (go_simp;done) | (go_simp;rfl));intro gb456 hg w8 hbox hb;have n0_:=zMk (Kd.R_below (rs HO_3) hb);have n1_:=zMk (below_step (hs HB) hb);have n2_:=zMk (hbox);have n3_:=zMk ((by rw [hg];exact (below_size (hs HB)) : w.heap.size ≤ gb456));have n4_:=zMk ((by rw [hg];exact (below_size (hs HB)) : w.heap.size ≤ gb456));clear HO_3;clear HB;have HO_3:=n0_;have HB:=n1_;have BK456:=n2_;have GW456:=n3_;have GE456:=n4_;clear n0_ n1_ n2_ n3_ n4_;clear hb hbox hg;have hcz9_0 : w8.cell? ⟨gb456,0,none⟩ = some (.int .i64 0):=(zCl BK456.out 0).trans rfl;have hcz9_1 : w8.cell? ⟨gb456,1,none⟩ = some (.int .i64 0):=(zCl BK456.out 1).trans rfl;have hcz9_2 : w8.cell? ⟨gb456,2,none⟩ = some (.int .i64 0):=(zCl BK456.out 2).trans rfl;have hcz9_3 : w8.cell? ⟨gb456,3,none⟩ = some (.int .i64 0):=(zCl BK456.out 3).trans rfl;have hcz9_4 : w8.cell? ⟨gb456,4,none⟩ = some (.int .i64 0):=(zCl BK456.out 4).trans rfl;have hcz9_5 : w8.cell? ⟨gb456,5,none⟩ = some (.int .i64 0):=(zCl BK456.out 5).trans rfl;have hcz9_6 : w8.cell? ⟨gb456,6,none⟩ = some (.int .i64 0):=(zCl BK456.out 6).trans rfl;have hcz9_7 : w8.cell? ⟨gb456,7,none⟩ = some (.string (⟨#[]⟩ : ByteArray)):=(zCl BK456.out 7).trans rfl;have hfz9_0:=zFr BK456.out 0;have hfz9_1:=zFr BK456.out 1;have hfz9_2:=zFr BK456.out 2;have hfz9_3:=zFr BK456.out 3;have hfz9_4:=zFr BK456.out 4;have hfz9_5:=zFr BK456.out 5;have hfz9_6:=zFr BK456.out 6;have hfz9_7:=zFr BK456.out 7;obtain ⟨Ao10,co10,eo10⟩:=Kd.R_slice HO_3.out;subst eo10) | (go_at_call 35;(with_reducible refine (impl_hasInt.calls k1 _ _ x3_1 ((rd_T36 l0 x13_1).f2.f2) true _ ?side1 ?side2 A6.out).mono ?_);(case side1=>refine (Kd.R_reads' (e:=3) (base:=w.heap.size) (ok:=fun k_=>True) (n:=x3_1.length) (c:=co10) ?_).2.2;exact (by (with_reducible repeat (first | apply Kd.R_alloc | apply Kd.R_drewN | apply Kd.R_drew));exact (Kd.R_mono (Kd.R_far (p:=⟨gb456,7,none⟩) (Kd.R_far (p:=⟨gb456,6,none⟩) (Kd.R_far (p:=⟨gb456,5,none⟩) (Kd.R_far (p:=⟨gb456,4,none⟩) (Kd.R_far (p:=⟨gb456,3,none⟩) (Kd.R_far (p:=⟨gb456,2,none⟩) (Kd.R_far (p:=⟨gb456,1,none⟩) (Kd.R_far (p:=⟨gb456,0,none⟩) (Kd.R_types HO_3.out BK456.out (by decide)) (fun _ hk=>hk.2) (.int .i64 ((rd_T36 l0 x13_1).f0))) (fun _ hk=>hk.2) (.int .i64 ((rd_T36 l0 x13_1).f1))) (fun _ hk=>hk.2) (.int .i64 ((rd_T36 l0 x13_1).f2.f0))) (fun _ hk=>hk.2) (.int .i64 ((rd_T36 l0 x13_1).f2.f1))) (fun _ hk=>hk.2) (.int .i64 ((rd_T36 l0 x13_1).f2.f2))) (fun _ hk=>hk.2) (.int .i64 ((rd_T36 l0 x13_1).f2.f3))) (fun _ hk=>hk.2) (.int .i64 ((rd_T36 l0 x13_1).f2.f4))) (fun _ hk=>hk.2) (.string ((rd_T36 l0 x13_1).f2.f5))) (fun _ h_=>h_.1))));(case side2=>exact (Kd.R_reads' HO_3.out).2.1);rintro e w' ⟨rfl,⟨nd,rfl⟩⟩));go_roundg k1;case measure=>have:=HK1.out;omega
        case rel=>exact ⟨(x3_1),(wrap64 (x13_1 + 1)),(by first | rfl | (simp;done) | (simp [*];done)),H',⟨by have:=HK1.out;omega⟩,⟨by (with_reducible repeat (first | apply Kd.R_alloc | apply Kd.R_drewN | apply Kd.R_drew));exact Kd.R_mono (Kd.R_far (p:=⟨gb456,7,none⟩) (Kd.R_far (p:=⟨gb456,6,none⟩) (Kd.R_far (p:=⟨gb456,5,none⟩) (Kd.R_far (p:=⟨gb456,4,none⟩) (Kd.R_far (p:=⟨gb456,3,none⟩) (Kd.R_far (p:=⟨gb456,2,none⟩) (Kd.R_far (p:=⟨gb456,1,none⟩) (Kd.R_far (p:=⟨gb456,0,none⟩) (Kd.R_types HO_3.out BK456.out (by decide)) (fun _ hk=>hk.2) (.int .i64 ((rd_T36 l0 x13_1).f0))) (fun _ hk=>hk.2) (.int .i64 ((rd_T36 l0 x13_1).f1))) (fun _ hk=>hk.2) (.int .i64 ((rd_T36 l0 x13_1).f2.f0))) (fun _ hk=>hk.2) (.int .i64 ((rd_T36 l0 x13_1).f2.f1))) (fun _ hk=>hk.2) (.int .i64 ((rd_T36 l0 x13_1).f2.f2))) (fun _ hk=>hk.2) (.int .i64 ((rd_T36 l0 x13_1).f2.f3))) (fun _ hk=>hk.2) (.int .i64 ((rd_T36 l0 x13_1).f2.f4))) (fun _ hk=>hk.2) (.string ((rd_T36 l0 x13_1).f2.f5))) (fun _ hk=>trivial)⟩,⟨hs1 HB GE456⟩⟩
       replace c7:=Bool.eq_false_iff.mpr c7;subst c7;have H1 : (if x3_1.length < 17592186044416 then (impl_Gather.l0 k1 l0 (x3_1 ++ [(rd_T36 l0 x13_1).f2.f2]) l0 (l0.length : Int) (wrap64 (x13_1 + 1))) else (none)) = some r:=by rw [if_neg (show ¬ (false = true) by decide)] at H;exact H
       clear H;have H:=H1;clear H1
       by_cases c11 : x3_1.length < 17592186044416
       ·rw [if_pos c11] at H;have LMc11:=zMk c11;clear c11;obtain ⟨y458,hy458⟩ : ∃ y_ : List Int,y_ = (x3_1 ++ [(rd_T36 l0 x13_1).f2.f2]):=⟨_,rfl⟩;replace H : (impl_Gather.l0 k1 l0 y458 l0 (l0.length : Int) (wrap64 (x13_1 + 1))) = some r:=by first | (rw [hy458];with_reducible exact H) | (have H2_:=(Option.bind_some _ _).symm.trans H;rw [hy458];with_reducible exact H2_) | (have H2_:=(Option.bind_some _ _).symm.trans H;with_reducible exact H2_) | with_reducible exact H | (rw [hy458];exact H) | exact H
        have Ny458:=zMk hy458;clear hy458;have H':=zMk H;clear H;have p455 : 0 ≤ (x13_1 : Int):=zDe (by first | (with_reducible assumption) | assumption);have q455 : x13_1 < (l0.length : Int):=zDe (by first | (with_reducible assumption) | assumption);obtain ⟨ad455,e455,hx455_0,hx455_1,hx455_2,hx455_3,hx455_4,hx455_5,hx455_6,hx455_7⟩:=at_T36 HR0.out x13_1 p455 q455;cases e455;replace hx455_0:=(HB.out.cell (zBl w _ hx455_0)).trans hx455_0;replace hx455_1:=(HB.out.cell (zBl w _ hx455_1)).trans hx455_1;replace hx455_2:=(HB.out.cell (zBl w _ hx455_2)).trans hx455_2;replace hx455_3:=(HB.out.cell (zBl w _ hx455_3)).trans hx455_3;replace hx455_4:=(HB.out.cell (zBl w _ hx455_4)).trans hx455_4;replace hx455_5:=(HB.out.cell (zBl w _ hx455_5)).trans hx455_5;replace hx455_6:=(HB.out.cell (zBl w _ hx455_6)).trans hx455_6;replace hx455_7:=(HB.out.cell (zBl w _ hx455_7)).trans hx455_7;replace p455:=eq_true p455;replace q455:=eq_true q455;go_wp2_with (first | ((with_reducible refine gate_dst (N:=5) rfl ?_);refine box_event ?hg (N:=5) ?hd (cs:=#[.int .i64 0,.int .i64 0,.int .i64 0,.int .i64 0,.int .i64 0,.int .i64 0,.int .i64 0,.string (⟨#[]⟩ : ByteArray)]) (t:=36) ?hr ?_;(case hd=>rfl);(case hg=>rfl);(case hr=>first | (go_simp;done) | (go_simp;rfl));intro gb456 hg w12 hbox hb;have n0_:=zMk (Kd.R_below (rs HO_3) hb);have n1_:=zMk (below_step (hs HB) hb);have n2_:=zMk (hbox);have n3_:=zMk ((by rw [hg];exact (below_size (hs HB)) : w.heap.size ≤ gb456));have n4_:=zMk ((by rw [hg];exact (below_size (hs HB)) : w.heap.size ≤ gb456));clear HO_3;clear HB;have HO_3:=n0_;have HB:=n1_;have BK456:=n2_;have GW456:=n3_;have GE456:=n4_;clear n0_ n1_ n2_ n3_ n4_;clear hb hbox hg;have hcz13_0 : w12.cell? ⟨gb456,0,none⟩ = some (.int .i64 0):=(zCl BK456.out 0).trans rfl;have hcz13_1 : w12.cell? ⟨gb456,1,none⟩ = some (.int .i64 0):=(zCl BK456.out 1).trans rfl;have hcz13_2 : w12.cell? ⟨gb456,2,none⟩ = some (.int .i64 0):=(zCl BK456.out 2).trans rfl;have hcz13_3 : w12.cell? ⟨gb456,3,none⟩ = some (.int .i64 0):=(zCl BK456.out 3).trans rfl;have hcz13_4 : w12.cell? ⟨gb456,4,none⟩ = some (.int .i64 0):=(zCl BK456.out 4).trans rfl;have hcz13_5 : w12.cell? ⟨gb456,5,none⟩ = some (.int .i64 0):=(zCl BK456.out 5).trans rfl;have hcz13_6 : w12.cell? ⟨gb456,6,none⟩ = some (.int .i64 0):=(zCl BK456.out 6).trans rfl;have hcz13_7 : w12.cell? ⟨gb456,7,none⟩ = some (.string (⟨#[]⟩ : ByteArray)):=(zCl BK456.out 7).trans rfl;have hfz13_0:=zFr BK456.out 0;have hfz13_1:=zFr BK456.out 1;have hfz13_2:=zFr BK456.out 2;have hfz13_3:=zFr BK456.out 3;have hfz13_4:=zFr BK456.out 4;have hfz13_5:=zFr BK456.out 5;have hfz13_6:=zFr BK456.out 6;have hfz13_7:=zFr BK456.out 7;obtain ⟨Ao14,co14,eo14⟩:=Kd.R_slice HO_3.out;subst eo14) | (go_at_call 35;(with_reducible refine (impl_hasInt.calls k1 _ _ x3_1 ((rd_T36 l0 x13_1).f2.f2) false _ ?side1 ?side2 A6.out).mono ?_);(case side1=>refine (Kd.R_reads' (e:=3) (base:=w.heap.size) (ok:=fun k_=>True) (n:=x3_1.length) (c:=co14) ?_).2.2;exact (by (with_reducible repeat (first | apply Kd.R_alloc | apply Kd.R_drewN | apply Kd.R_drew));exact (Kd.R_mono (Kd.R_far (p:=⟨gb456,7,none⟩) (Kd.R_far (p:=⟨gb456,6,none⟩) (Kd.R_far (p:=⟨gb456,5,none⟩) (Kd.R_far (p:=⟨gb456,4,none⟩) (Kd.R_far (p:=⟨gb456,3,none⟩) (Kd.R_far (p:=⟨gb456,2,none⟩) (Kd.R_far (p:=⟨gb456,1,none⟩) (Kd.R_far (p:=⟨gb456,0,none⟩) (Kd.R_types HO_3.out BK456.out (by decide)) (fun _ hk=>hk.2) (.int .i64 ((rd_T36 l0 x13_1).f0))) (fun _ hk=>hk.2) (.int .i64 ((rd_T36 l0 x13_1).f1))) (fun _ hk=>hk.2) (.int .i64 ((rd_T36 l0 x13_1).f2.f0))) (fun _ hk=>hk.2) (.int .i64 ((rd_T36 l0 x13_1).f2.f1))) (fun _ hk=>hk.2) (.int .i64 ((rd_T36 l0 x13_1).f2.f2))) (fun _ hk=>hk.2) (.int .i64 ((rd_T36 l0 x13_1).f2.f3))) (fun _ hk=>hk.2) (.int .i64 ((rd_T36 l0 x13_1).f2.f4))) (fun _ hk=>hk.2) (.string ((rd_T36 l0 x13_1).f2.f5))) (fun _ h_=>h_.1))));(case side2=>exact (Kd.R_reads' HO_3.out).2.1);rintro e w' ⟨rfl,⟨nd,rfl⟩⟩) | ((with_reducible refine gate_builtin (b:=.append) (xs:=#[.tmp 29,.tmp 33]) rfl ?_);at_builtin;refine Kd.R_append (Kd.int .i64) (w0:=w) w.heap.size rfl (.tmp 29) (.tmp 33) 26 3 (.int .i64 0) 8 rfl Try.underlying26 info3 rfl (by decide) (by omega) (.slice Ao14 x3_1.length co14) x3_1 ((rd_T36 l0 x13_1).f2.f2) [.int .i64 ((rd_T36 l0 x13_1).f2.f2)] (fun _=>True) (fun _=>False) rfl (by first | (go_simp;done) | (go_simp;rfl)) ?aP (fun _ hk=>hk.elim) ?aF ?aO ?aB ?aS ?aL ?_;(case aP=>exact rfl);(case aB=>exact (hs1 HB GE456));(case aF=>exact (fun _ _=>trivial));(case aO=>exact (by (with_reducible repeat (first | apply Kd.R_alloc | apply Kd.R_drewN | apply Kd.R_drew));exact Kd.R_mono (Kd.R_far (p:=⟨gb456,7,none⟩) (Kd.R_far (p:=⟨gb456,6,none⟩) (Kd.R_far (p:=⟨gb456,5,none⟩) (Kd.R_far (p:=⟨gb456,4,none⟩) (Kd.R_far (p:=⟨gb456,3,none⟩) (Kd.R_far (p:=⟨gb456,2,none⟩) (Kd.R_far (p:=⟨gb456,1,none⟩) (Kd.R_far (p:=⟨gb456,0,none⟩) (Kd.R_types HO_3.out BK456.out (by decide)) (fun _ hk=>hk.2) (.int .i64 ((rd_T36 l0 x13_1).f0))) (fun _ hk=>hk.2) (.int .i64 ((rd_T36 l0 x13_1).f1))) (fun _ hk=>hk.2) (.int .i64 ((rd_T36 l0 x13_1).f2.f0))) (fun _ hk=>hk.2) (.int .i64 ((rd_T36 l0 x13_1).f2.f1))) (fun _ hk=>hk.2) (.int .i64 ((rd_T36 l0 x13_1).f2.f2))) (fun _ hk=>hk.2) (.int .i64 ((rd_T36 l0 x13_1).f2.f3))) (fun _ hk=>hk.2) (.int .i64 ((rd_T36 l0 x13_1).f2.f4))) (fun _ hk=>hk.2) (.string ((rd_T36 l0 x13_1).f2.f5))) (fun _ hk=>trivial)));(case aS=>exact (below_size (hs1 HB GE456)));(case aL=>have:=LMc11.out;omega);intro v459 w15 ho hb hg hat;rw [← Ny458.out] at ho;have n0_:=zMk (blk_grown (g:=gb456) (o:=.cells #[.int .i64 ((rd_T36 l0 x13_1).f0),.int .i64 ((rd_T36 l0 x13_1).f1),.int .i64 ((rd_T36 l0 x13_1).f2.f0),.int .i64 ((rd_T36 l0 x13_1).f2.f1),.int .i64 ((rd_T36 l0 x13_1).f2.f2),.int .i64 ((rd_T36 l0 x13_1).f2.f3),.int .i64 ((rd_T36 l0 x13_1).f2.f4),.string ((rd_T36 l0 x13_1).f2.f5)] 36 (0,0)) (by (with_reducible repeat (first | refine blk_drewN ?_ _ | refine blk_drew ?_ | refine blk_alloc ?_ _));refine blk_put (cs:=#[.int .i64 ((rd_T36 l0 x13_1).f0),.int .i64 ((rd_T36 l0 x13_1).f1),.int .i64 ((rd_T36 l0 x13_1).f2.f0),.int .i64 ((rd_T36 l0 x13_1).f2.f1),.int .i64 ((rd_T36 l0 x13_1).f2.f2),.int .i64 ((rd_T36 l0 x13_1).f2.f3),.int .i64 ((rd_T36 l0 x13_1).f2.f4),.string (⟨#[]⟩ : ByteArray)]) ?_ 7 _ rfl;(with_reducible repeat (first | refine blk_drewN ?_ _ | refine blk_drew ?_ | refine blk_alloc ?_ _));refine blk_put (cs:=#[.int .i64 ((rd_T36 l0 x13_1).f0),.int .i64 ((rd_T36 l0 x13_1).f1),.int .i64 ((rd_T36 l0 x13_1).f2.f0),.int .i64 ((rd_T36 l0 x13_1).f2.f1),.int .i64 ((rd_T36 l0 x13_1).f2.f2),.int .i64 ((rd_T36 l0 x13_1).f2.f3),.int .i64 0,.string (⟨#[]⟩ : ByteArray)]) ?_ 6 _ rfl;(with_reducible repeat (first | refine blk_drewN ?_ _ | refine blk_drew ?_ | refine blk_alloc ?_ _));refine blk_put (cs:=#[.int .i64 ((rd_T36 l0 x13_1).f0),.int .i64 ((rd_T36 l0 x13_1).f1),.int .i64 ((rd_T36 l0 x13_1).f2.f0),.int .i64 ((rd_T36 l0 x13_1).f2.f1),.int .i64 ((rd_T36 l0 x13_1).f2.f2),.int .i64 0,.int .i64 0,.string (⟨#[]⟩ : ByteArray)]) ?_ 5 _ rfl;(with_reducible repeat (first | refine blk_drewN ?_ _ | refine blk_drew ?_ | refine blk_alloc ?_ _));refine blk_put (cs:=#[.int .i64 ((rd_T36 l0 x13_1).f0),.int .i64 ((rd_T36 l0 x13_1).f1),.int .i64 ((rd_T36 l0 x13_1).f2.f0),.int .i64 ((rd_T36 l0 x13_1).f2.f1),.int .i64 0,.int .i64 0,.int .i64 0,.string (⟨#[]⟩ : ByteArray)]) ?_ 4 _ rfl;(with_reducible repeat (first | refine blk_drewN ?_ _ | refine blk_drew ?_ | refine blk_alloc ?_ _));refine blk_put (cs:=#[.int .i64 ((rd_T36 l0 x13_1).f0),.int .i64 ((rd_T36 l0 x13_1).f1),.int .i64 ((rd_T36 l0 x13_1).f2.f0),.int .i64 0,.int .i64 0,.int .i64 0,.int .i64 0,.string (⟨#[]⟩ : ByteArray)]) ?_ 3 _ rfl;(with_reducible repeat (first | refine blk_drewN ?_ _ | refine blk_drew ?_ | refine blk_alloc ?_ _));refine blk_put (cs:=#[.int .i64 ((rd_T36 l0 x13_1).f0),.int .i64 ((rd_T36 l0 x13_1).f1),.int .i64 0,.int .i64 0,.int .i64 0,.int .i64 0,.int .i64 0,.string (⟨#[]⟩ : ByteArray)]) ?_ 2 _ rfl;(with_reducible repeat (first | refine blk_drewN ?_ _ | refine blk_drew ?_ | refine blk_alloc ?_ _));refine blk_put (cs:=#[.int .i64 ((rd_T36 l0 x13_1).f0),.int .i64 0,.int .i64 0,.int .i64 0,.int .i64 0,.int .i64 0,.int .i64 0,.string (⟨#[]⟩ : ByteArray)]) ?_ 1 _ rfl;(with_reducible repeat (first | refine blk_drewN ?_ _ | refine blk_drew ?_ | refine blk_alloc ?_ _));refine blk_put (cs:=#[.int .i64 0,.int .i64 0,.int .i64 0,.int .i64 0,.int .i64 0,.int .i64 0,.int .i64 0,.string (⟨#[]⟩ : ByteArray)]) ?_ 0 _ rfl;(with_reducible repeat (first | refine blk_drewN ?_ _ | refine blk_drew ?_ | refine blk_alloc ?_ _));exact BK456.out) hg (Kd.R_ne HO_3.out BK456.out (by decide)));have n1_:=zMk (hb);have n2_:=zMk (ho);clear BK456;clear HB;clear HO_3;have BK456:=n0_;have HB:=n1_;have HO460:=n2_;clear n0_ n1_ n2_;clear ho hb hg hat));go_roundg k1;case measure=>have:=HK1.out;omega
        case rel=>exact ⟨(y458),(wrap64 (x13_1 + 1)),(by first | rfl | (simp;done) | (simp [*];done)),H',⟨by have:=HK1.out;omega⟩,⟨rs HO460⟩,⟨hs1 HB GE456⟩⟩
       rw [if_neg c11] at H;exact absurd H (by simp)
      rw [if_neg c5] at H;have c5b0 : (((rd_T36 l0 x13_1).f2.f0) == 2) = false:=beq_eq_false_iff_ne.mpr c5;have c5b1 : (((rd_T36 l0 x13_1).f2.f0) != 2) = true:=bne_iff_ne.mpr c5;have H':=zMk H;clear H;have p455 : 0 ≤ (x13_1 : Int):=zDe (by first | (with_reducible assumption) | assumption);have q455 : x13_1 < (l0.length : Int):=zDe (by first | (with_reducible assumption) | assumption);obtain ⟨ad455,e455,hx455_0,hx455_1,hx455_2,hx455_3,hx455_4,hx455_5,hx455_6,hx455_7⟩:=at_T36 HR0.out x13_1 p455 q455;cases e455;replace hx455_0:=(HB.out.cell (zBl w _ hx455_0)).trans hx455_0;replace hx455_1:=(HB.out.cell (zBl w _ hx455_1)).trans hx455_1;replace hx455_2:=(HB.out.cell (zBl w _ hx455_2)).trans hx455_2;replace hx455_3:=(HB.out.cell (zBl w _ hx455_3)).trans hx455_3;replace hx455_4:=(HB.out.cell (zBl w _ hx455_4)).trans hx455_4;replace hx455_5:=(HB.out.cell (zBl w _ hx455_5)).trans hx455_5;replace hx455_6:=(HB.out.cell (zBl w _ hx455_6)).trans hx455_6;replace hx455_7:=(HB.out.cell (zBl w _ hx455_7)).trans hx455_7;replace p455:=eq_true p455;replace q455:=eq_true q455;go_wp2_with (first | ((with_reducible refine gate_dst (N:=5) rfl ?_);refine box_event ?hg (N:=5) ?hd (cs:=#[.int .i64 0,.int .i64 0,.int .i64 0,.int .i64 0,.int .i64 0,.int .i64 0,.int .i64 0,.string (⟨#[]⟩ : ByteArray)]) (t:=36) ?hr ?_;(case hd=>rfl);(case hg=>rfl);(case hr=>first | (go_simp;done) | (go_simp;rfl));intro gb456 hg w16 hbox hb;have n0_:=zMk (Kd.R_below (rs HO_3) hb);have n1_:=zMk (below_step (hs HB) hb);have n2_:=zMk (hbox);have n3_:=zMk ((by rw [hg];exact (below_size (hs HB)) : w.heap.size ≤ gb456));have n4_:=zMk ((by rw [hg];exact (below_size (hs HB)) : w.heap.size ≤ gb456));clear HO_3;clear HB;have HO_3:=n0_;have HB:=n1_;have BK456:=n2_;have GW456:=n3_;have GE456:=n4_;clear n0_ n1_ n2_ n3_ n4_;clear hb hbox hg;have hcz17_0 : w16.cell? ⟨gb456,0,none⟩ = some (.int .i64 0):=(zCl BK456.out 0).trans rfl;have hcz17_1 : w16.cell? ⟨gb456,1,none⟩ = some (.int .i64 0):=(zCl BK456.out 1).trans rfl;have hcz17_2 : w16.cell? ⟨gb456,2,none⟩ = some (.int .i64 0):=(zCl BK456.out 2).trans rfl;have hcz17_3 : w16.cell? ⟨gb456,3,none⟩ = some (.int .i64 0):=(zCl BK456.out 3).trans rfl;have hcz17_4 : w16.cell? ⟨gb456,4,none⟩ = some (.int .i64 0):=(zCl BK456.out 4).trans rfl;have hcz17_5 : w16.cell? ⟨gb456,5,none⟩ = some (.int .i64 0):=(zCl BK456.out 5).trans rfl;have hcz17_6 : w16.cell? ⟨gb456,6,none⟩ = some (.int .i64 0):=(zCl BK456.out 6).trans rfl;have hcz17_7 : w16.cell? ⟨gb456,7,none⟩ = some (.string (⟨#[]⟩ : ByteArray)):=(zCl BK456.out 7).trans rfl;have hfz17_0:=zFr BK456.out 0;have hfz17_1:=zFr BK456.out 1;have hfz17_2:=zFr BK456.out 2;have hfz17_3:=zFr BK456.out 3;have hfz17_4:=zFr BK456.out 4;have hfz17_5:=zFr BK456.out 5;have hfz17_6:=zFr BK456.out 6;have hfz17_7:=zFr BK456.out 7));go_roundg k1;case measure=>have:=HK1.out;omega
      case rel=>exact ⟨(x3_1),(wrap64 (x13_1 + 1)),(by first | rfl | (simp;done) | (simp [*];done)),H',⟨by have:=HK1.out;omega⟩,⟨by (with_reducible repeat (first | apply Kd.R_alloc | apply Kd.R_drewN | apply Kd.R_drew));exact Kd.R_mono (Kd.R_far (p:=⟨gb456,7,none⟩) (Kd.R_far (p:=⟨gb456,6,none⟩) (Kd.R_far (p:=⟨gb456,5,none⟩) (Kd.R_far (p:=⟨gb456,4,none⟩) (Kd.R_far (p:=⟨gb456,3,none⟩) (Kd.R_far (p:=⟨gb456,2,none⟩) (Kd.R_far (p:=⟨gb456,1,none⟩) (Kd.R_far (p:=⟨gb456,0,none⟩) (Kd.R_types HO_3.out BK456.out (by decide)) (fun _ hk=>hk.2) (.int .i64 ((rd_T36 l0 x13_1).f0))) (fun _ hk=>hk.2) (.int .i64 ((rd_T36 l0 x13_1).f1))) (fun _ hk=>hk.2) (.int .i64 ((rd_T36 l0 x13_1).f2.f0))) (fun _ hk=>hk.2) (.int .i64 ((rd_T36 l0 x13_1).f2.f1))) (fun _ hk=>hk.2) (.int .i64 ((rd_T36 l0 x13_1).f2.f2))) (fun _ hk=>hk.2) (.int .i64 ((rd_T36 l0 x13_1).f2.f3))) (fun _ hk=>hk.2) (.int .i64 ((rd_T36 l0 x13_1).f2.f4))) (fun _ hk=>hk.2) (.string ((rd_T36 l0 x13_1).f2.f5))) (fun _ hk=>trivial)⟩,⟨hs1 HB GE456⟩⟩
     rw [if_neg c4] at H;exact absurd H (by simp)
    rw [if_neg c3] at H;exact absurd H (by simp)
   rw [if_neg c2] at H;have c2b0 : decide (x13_1 < (l0.length : Int)) = false:=decide_eq_false c2;clear c2;replace H:=Option.bind_eq_some_iff.mp H;obtain ⟨t461,A180,H⟩:=H;replace H : (impl_Gather.l1 k1 l0 ([] : List (S40)) t461 (x3_1.length : Int) 0) = some r:=H;have A18:=zMk A180;clear A180;have H':=zMk H;clear H;obtain ⟨Ao19,co19,eo19⟩:=Kd.R_slice HO_3.out;subst eo19;go_wp2_with (first | ((with_reducible refine gate_callee (f:=36) rfl ?_);refine goesL_ (some 37) rfl rfl Try.func36 (by kernel_rfl) rfl #[.slice Ao19 x3_1.length co19] rfl (by (try simp only [List.map_toArray,List.map_cons,List.map_nil]);first | done | rfl | (simp only [List.length_drop,List.length_take];rfl)) ?_;(with_reducible refine (sort_Ints.calls k1 (fun k_=>some k_ = (.slice Ao19 x3_1.length co19 : Value).ownBlock) (.slice Ao19 x3_1.length co19) x3_1 t461 w _ ?side1 ?side2 A18.out).mono ?_);(case side1=>repeat (first | (with_reducible first | exact HB.out | apply below_alloc | apply pw_below_drewN | apply below_drew1) | exact HB.out));(case side2=>exact Kd.R_tight rfl HO_3.out);rintro e w20 ⟨rfl,hy0,hb,hkp⟩;refine ⟨_,rfl,?_⟩;have n0_:=zMk (Kd.R_reok rfl hy0 (fun k_ e_=>HO_3.out.1 k_ e_));have n1_:=zMk (hb);clear HO_3;clear HB;have HO_3:=n0_;have HB:=n1_;clear n0_ n1_;(try clear hb);(try clear hkp);(try clear hy0)));go_loopg [6,40] k1 (fun kq v6 v40 w'=>∃ (x6_2 : List (S40)) (x40_2 : Int),v40 = .int .i64 x40_2 ∧ Aside0 (impl_Gather.l1 kq l0 x6_2 t461 (x3_1.length : Int) x40_2 = some r) ∧ Aside0 (kq ≤ k1) ∧ Aside0 (Kd.S k40 40 w' w.heap.size (fun _=>True) v6 x6_2) ∧ Aside0 (Kd.R (Kd.int .i64) 3 w' w.heap.size (fun _=>True) (.slice Ao19 x3_1.length co19) t461) ∧ Aside0 (Below w.heap.size w w'));case atStart=>exact ⟨(([] : List (S40))),(0),(by first | rfl | (simp;done) | (simp [*];done)),H',⟨Nat.le_refl _⟩,⟨by first | exact Kd.S_nil _ _ _ _ _ | exact Kd.N_nil _ _ _ _ _ | exact Kd.V_nil _ _ _ _ _ | exact Kd.Q_nil _ _ _ _ _ | exact Kd.R_nil _ _ _ _ _⟩,⟨rs HO_3⟩,⟨hs HB⟩⟩
   case round =>
    clear H'
    try clear c1
    try clear c2
    try clear c2b0
    try clear p2
    try clear c3
    try clear c3b0
    try clear c4
    try clear c4b0
    try clear p4
    try clear q4
    try clear hx4
    try clear c5
    try clear c5b0
    try clear c5b1
    try clear p6
    try clear c7
    try clear c11
    try clear c13
    try clear hcz13_0
    try clear hcz13_1
    try clear hcz13_2
    try clear hcz13_3
    try clear hcz13_4
    try clear hcz13_5
    try clear hcz13_6
    try clear hcz13_7
    try clear hcz17_0
    try clear hcz17_1
    try clear hcz17_2
    try clear hcz17_3
    try clear hcz17_4
    try clear hcz17_5
    try clear hcz17_6
    try clear hcz17_7
    try clear hcz9_0
    try clear hcz9_1
    try clear hcz9_2
    try clear hcz9_3
    try clear hcz9_4
    try clear hcz9_5
    try clear hcz9_6
    try clear hcz9_7
    try clear hfz13_0
    try clear hfz13_1
    try clear hfz13_2
    try clear hfz13_3
    try clear hfz13_4
    try clear hfz13_5
    try clear hfz13_6
    try clear hfz13_7
    try clear hfz17_0
    try clear hfz17_1
    try clear hfz17_2
    try clear hfz17_3
    try clear hfz17_4
    try clear hfz17_5
    try clear hfz17_6
    try clear hfz17_7
    try clear hfz9_0
    try clear hfz9_1
    try clear hfz9_2
    try clear hfz9_3
    try clear hfz9_4
    try clear hfz9_5
    try clear hfz9_6
    try clear hfz9_7
    try clear hx455_0
    try clear hx455_1
    try clear hx455_2
    try clear hx455_3
    try clear hx455_4
    try clear hx455_5
    try clear hx455_6
    try clear hx455_7
    try clear p455
    try clear q455
    obtain ⟨x6_2,x40_2,rfl,HA,HK2,HO_6,HO_38,HB⟩:=hrel;have hl38_2:=(Kd.R_reads' HO_38.out).1;rw [hl38_2] at HO_38
    (try simp only [hl38_2])
    (try simp only [hl38_2] at HO_6)
    cases gk with
    | zero=>exact absurd HA.out (by simp [impl_Gather.l1])
    | succ k2 =>
     have H:=HA.out;clear HA;simp only [impl_Gather.l1] at H
     by_cases c21 : x40_2 < (x3_1.length : Int)
     ·rw [if_pos c21] at H;have c21b0 : decide (x40_2 < (x3_1.length : Int)) = true:=decide_eq_true c21;clear c21
      by_cases c22 : 0 ≤ x40_2
      ·rw [if_pos c22] at H;have c22b0 : decide (0 ≤ x40_2) = true:=decide_eq_true c22;clear c22
       by_cases c23 : x40_2 < (t461.length : Int)
       ·rw [if_pos c23] at H;have c23b0 : decide (x40_2 < (t461.length : Int)) = true:=decide_eq_true c23;clear c23;replace H:=Option.bind_eq_some_iff.mp H;obtain ⟨⟨t463,t464,t465,t468⟩,A240,H⟩:=H;replace H : (if t468 = true then (if x6_2.length < 3518437208883 then (impl_Gather.l1 k2 l0 (x6_2 ++ [(⟨t463,t464,t465⟩ : S40)]) t461 (x3_1.length : Int) (wrap64 (x40_2 + 1))) else (none)) else (impl_Gather.l1 k2 l0 x6_2 t461 (x3_1.length : Int) (wrap64 (x40_2 + 1)))) = some r:=H;have A24:=zMk A240;clear A240
        by_cases c25 : t468 = true
        ·subst c25;have H1 : (if x6_2.length < 3518437208883 then (impl_Gather.l1 k2 l0 (x6_2 ++ [(⟨t463,t464,t465⟩ : S40)]) t461 (x3_1.length : Int) (wrap64 (x40_2 + 1))) else (none)) = some r:=by rw [if_pos rfl] at H;exact H
         clear H;have H:=H1;clear H1
         by_cases c26 : x6_2.length < 3518437208883
         ·rw [if_pos c26] at H;have LMc26:=zMk c26;clear c26;obtain ⟨y470,hy470⟩ : ∃ y_ : List (S40),y_ = (x6_2 ++ [(⟨t463,t464,t465⟩ : S40)]):=⟨_,rfl⟩;replace H : (impl_Gather.l1 k2 l0 y470 t461 (x3_1.length : Int) (wrap64 (x40_2 + 1))) = some r:=by first | (rw [hy470];with_reducible exact H) | (have H2_:=(Option.bind_some _ _).symm.trans H;rw [hy470];with_reducible exact H2_) | (have H2_:=(Option.bind_some _ _).symm.trans H;with_reducible exact H2_) | with_reducible exact H | (rw [hy470];exact H) | exact H
          have Ny470:=zMk hy470;clear hy470;have H':=zMk H;clear H;have p462 : 0 ≤ (x40_2 : Int):=zDe (by first | (with_reducible assumption) | assumption);have q462 : x40_2 < (t461.length : Int):=zDe (by first | (with_reducible assumption) | assumption);obtain ⟨ad462,e462,hx462_0⟩:=Kd.at_int (Kd.R_reads' HO_38.out).2.2 x40_2 p462 q462;cases e462;replace p462:=eq_true p462;replace q462:=eq_true q462;go_wp2_with (first | ((with_reducible refine gate_callee (f:=37) rfl ?_);refine goesL_ (some 47) rfl rfl Try.func37 (by kernel_rfl) rfl #[.slice A0 l0.length c0,.int .i64 (rd t461 x40_2)] rfl (by (try simp only [List.map_toArray,List.map_cons,List.map_nil]);first | done | rfl | (simp only [List.length_drop,List.length_take];rfl)) ?_;(with_reducible refine (impl_gathered.calls k2 _ _ l0 (rd t461 x40_2) t463 t464 t465 true _ ?side1 ?side2 A24.out).mono ?_);(case side1=>repeat (first | exact (Kd.C_below HR0.out HB.out) | (with_reducible refine Kd.C_alloc ?_ _) | (with_reducible refine Kd.C_drewN ?_ _) | (with_reducible refine Kd.C_drew ?_)));(case side2=>exact HC0.out);rintro e w27 ⟨v466,rfl,ho0,hb⟩;refine ⟨_,rfl,?_⟩;have n0_:=zMk (Kd.S_elder' (ss HO_6) (Kd.R_base ho0) hb);have n1_:=zMk (Kd.R_below (rs HO_38) hb);have n2_:=zMk (Kd.R_lower ho0 (below_size (hs HB)));have n3_:=zMk (below_step (hs HB) hb);clear HO_6;clear HO_38;clear HB;have HO_6:=n0_;have HO_38:=n1_;have HO467:=n2_;have HB:=n3_;clear n0_ n1_ n2_ n3_;(try clear hb);(try clear hb2);(try clear hk);(try clear hi);(try clear ho0)) | ((with_reducible refine gate_dst (N:=9) rfl ?_);refine box_event ?hg (N:=9) ?hd (cs:=#[.int .i64 0,.int .i64 0,.slice none 0 0]) (t:=40) ?hr ?_;(case hd=>rfl);(case hg=>rfl);(case hr=>first | (go_simp;done) | (go_simp;rfl));intro gb469 hg w28 hbox hb;have n0_:=zMk (Kd.S_below (Kd.S_elderB (ss HO_6) gb469 (Nat.le_of_eq hg.symm)) hb);have n1_:=zMk (Kd.R_below (rs HO_38) hb);have n2_:=zMk (Kd.R_below (rs HO467) hb);have n3_:=zMk (below_step (hs HB) hb);have n4_:=zMk (hbox);have n5_:=zMk ((by rw [hg];exact (below_size (hs HB)) : w.heap.size ≤ gb469));have n6_:=zMk ((by rw [hg];exact (below_size (hs HB)) : w.heap.size ≤ gb469));clear HO_6;clear HO_38;clear HO467;clear HB;have HO_6:=n0_;have HO_38:=n1_;have HO467:=n2_;have HB:=n3_;have BK469:=n4_;have GW469:=n5_;have GE469:=n6_;clear n0_ n1_ n2_ n3_ n4_ n5_ n6_;clear hb hbox hg;have hcz29_0 : w28.cell? ⟨gb469,0,none⟩ = some (.int .i64 0):=(zCl BK469.out 0).trans rfl;have hcz29_1 : w28.cell? ⟨gb469,1,none⟩ = some (.int .i64 0):=(zCl BK469.out 1).trans rfl;have hcz29_2 : w28.cell? ⟨gb469,2,none⟩ = some (.slice none 0 0):=(zCl BK469.out 2).trans rfl;have hfz29_0:=zFr BK469.out 0;have hfz29_1:=zFr BK469.out 1;have hfz29_2:=zFr BK469.out 2;obtain ⟨Ao30,co30,eo30⟩:=Kd.R_slice HO467.out;subst eo30) | ((with_reducible refine gate_store (t:=40) (p:=9) rfl ?_);refine store_event (t:=40) (p:=9) (v:=?vo_w31) (w1:=(((w28.setCell ⟨gb469,0,none⟩ (.int .i64 t463)).setCell ⟨gb469,1,none⟩ (.int .i64 t464)).setCell ⟨gb469,2,none⟩ (.slice Ao30 t465.length co30))) ?hg ?ho ?hn ?hr ?_;(case ho=>rfl);(case hg=>rfl);(case hn=>rfl);(case hr=>first | (go_simp;done) | (go_simp;rfl));intro w31 hw;have n0_ : Aside0 (Kd.S k40 40 w31 w.heap.size (fun k_=>some k_ ≠ (.slice Ao30 t465.length co30 : Value).ownBlock ∧ k_ ≠ gb469) u6 x6_2):=⟨(by rw [hw];exact (by (with_reducible repeat (first | apply Kd.S_alloc | apply Kd.S_drewN | apply Kd.S_drew));exact Kd.S_mono (Kd.S_far (p:=⟨gb469,2,none⟩) (Kd.S_far (p:=⟨gb469,1,none⟩) (Kd.S_far (p:=⟨gb469,0,none⟩) (Kd.S_mono HO_6.out (fun k_ hk=>(⟨hk,hk.2⟩ : _ ∧ k_ ≠ gb469))) (fun _ hk=>hk.2) (.int .i64 t463)) (fun _ hk=>hk.2) (.int .i64 t464)) (fun _ hk=>hk.2) (.slice Ao30 t465.length co30)) (fun _ hk=>⟨hk.1.1.2,hk.1.2⟩)))⟩;have n1_ : Aside0 (Kd.R (Kd.int .i64) 3 w31 w.heap.size (fun _=>True) (.slice (some ad462) t461.length co19) t461):=⟨(by rw [hw];exact (by (with_reducible repeat (first | apply Kd.R_alloc | apply Kd.R_drewN | apply Kd.R_drew));exact Kd.R_mono (Kd.R_far (p:=⟨gb469,2,none⟩) (Kd.R_far (p:=⟨gb469,1,none⟩) (Kd.R_far (p:=⟨gb469,0,none⟩) (Kd.R_types HO_38.out BK469.out (by decide)) (fun _ hk=>hk.2) (.int .i64 t463)) (fun _ hk=>hk.2) (.int .i64 t464)) (fun _ hk=>hk.2) (.slice Ao30 t465.length co30)) (fun _ hk=>trivial)))⟩;have n2_ : Aside0 (Kd.R k45 45 w31 w.heap.size (fun _=>True) (.slice Ao30 t465.length co30) t465):=⟨(by rw [hw];exact (by (with_reducible repeat (first | apply Kd.R_alloc | apply Kd.R_drewN | apply Kd.R_drew));exact Kd.R_mono (Kd.R_far (p:=⟨gb469,2,none⟩) (Kd.R_far (p:=⟨gb469,1,none⟩) (Kd.R_far (p:=⟨gb469,0,none⟩) (Kd.R_types HO467.out BK469.out (by decide)) (fun _ hk=>hk.2) (.int .i64 t463)) (fun _ hk=>hk.2) (.int .i64 t464)) (fun _ hk=>hk.2) (.slice Ao30 t465.length co30)) (fun _ hk=>trivial)))⟩;have n3_ : Aside0 (w31.heap[gb469]? = some (.cells #[.int .i64 t463,.int .i64 t464,.slice Ao30 t465.length co30] 40 (0,0))):=⟨(by rw [hw];exact (by (with_reducible repeat (first | refine blk_drewN ?_ _ | refine blk_drew ?_ | refine blk_alloc ?_ _));refine blk_put (cs:=#[.int .i64 t463,.int .i64 t464,.slice none 0 0]) ?_ 2 _ rfl;(with_reducible repeat (first | refine blk_drewN ?_ _ | refine blk_drew ?_ | refine blk_alloc ?_ _));refine blk_put (cs:=#[.int .i64 t463,.int .i64 0,.slice none 0 0]) ?_ 1 _ rfl;(with_reducible repeat (first | refine blk_drewN ?_ _ | refine blk_drew ?_ | refine blk_alloc ?_ _));refine blk_put (cs:=#[.int .i64 0,.int .i64 0,.slice none 0 0]) ?_ 0 _ rfl;(with_reducible repeat (first | refine blk_drewN ?_ _ | refine blk_drew ?_ | refine blk_alloc ?_ _));exact BK469.out))⟩;have n4_ : Aside0 (Below w.heap.size w w31):=⟨(by rw [hw];exact (hs1 HB GE469))⟩;clear hw;clear HO_6;clear HO_38;clear HO467;clear BK469;clear HB;have HO_6:=n0_;have HO_38:=n1_;have HO467:=n2_;have BK469:=n3_;have HB:=n4_;clear n0_ n1_ n2_ n3_ n4_;have hcz32_0 : w31.cell? ⟨gb469,0,none⟩ = some (.int .i64 t463):=(zCl BK469.out 0).trans rfl;have hcz32_1 : w31.cell? ⟨gb469,1,none⟩ = some (.int .i64 t464):=(zCl BK469.out 1).trans rfl;have hcz32_2 : w31.cell? ⟨gb469,2,none⟩ = some (.slice Ao30 t465.length co30):=(zCl BK469.out 2).trans rfl;have hfz32_0:=zFr BK469.out 0;have hfz32_1:=zFr BK469.out 1;have hfz32_2:=zFr BK469.out 2) | ((with_reducible refine gate_builtin (b:=.append) (xs:=#[.tmp 51,.tmp 53]) rfl ?_);at_builtin;refine Kd.S_append k40 (w0:=w) w.heap.size rfl (.tmp 51) (.tmp 53) 37 40 (.agg #[(.int .i64 0),(.int .i64 0),(.slice none 0 0)]) 40 rfl Try.underlying37 info40 rfl (by decide) (by omega) u6 x6_2 (⟨t463,t464,t465⟩ : S40) [.int .i64 t463,.int .i64 t464,.slice Ao30 t465.length co30] (fun k_=>k_ ≠ gb469) (fun k_=>some k_ = (.slice Ao30 t465.length co30 : Value).ownBlock) rfl rfl ?aP (fun k_ hk_=>((Kd.R_mono (ok':=fun k_=>((fun k_=>k_ ≠ gb469)) k_ ∧ some k_ ≠ (u6 : Value).ownBlock) (Kd.R_types (Kd.R_apart' (HO467.out) (Kd.S_typed HO_6.out) (by decide)) BK469.out (by decide)) (fun k_ hk=>⟨hk.2,hk.1.2⟩))).1 k_ hk_.symm) ?aF ?aO ?aB ?aS ?aL ?_;(case aP=>exact k40_mkM _ _ _ (⟨t463,t464,t465⟩ : S40) (Kd.R_mono (Kd.R_tight rfl (Kd.R_mono (ok':=fun k_=>((fun k_=>k_ ≠ gb469)) k_ ∧ some k_ ≠ (u6 : Value).ownBlock) (Kd.R_types (Kd.R_apart' (HO467.out) (Kd.S_typed HO_6.out) (by decide)) BK469.out (by decide)) (fun k_ hk=>⟨hk.2,hk.1.2⟩))) (fun _ h_=>h_)));(case aB=>exact (hs1 HB GE469));(case aF=>exact (fun k_ hk=>Kd.freshB (g:=gb469) (o:=.cells #[.int .i64 t463,.int .i64 t464,.slice Ao30 t465.length co30] 40 (0,0)) (bs BK469) k_ hk));(case aO=>exact (by (with_reducible repeat (first | apply Kd.S_alloc | apply Kd.S_drewN | apply Kd.S_drew));exact Kd.S_mono HO_6.out (fun k_ hk=>⟨hk.2,fun e_=>hk.1 e_⟩)));(case aS=>exact (below_size (hs1 HB GE469)));(case aL=>have:=LMc26.out;omega);intro v471 w33 ho hb hg hat;rw [← Ny470.out] at ho;have n0_:=zMk (Kd.R_over' (rs HO_38) (Kd.S_typed (ss HO_6)) (by decide) hg);have n1_:=zMk (blk_grown (g:=gb469) (o:=.cells #[.int .i64 t463,.int .i64 t464,.slice Ao30 t465.length co30] 40 (0,0)) (bs BK469) hg (Kd.S_away HO_6.out (fun _ hk=>hk.2)));have n2_:=zMk (hb);have n3_:=zMk (ho);clear HO_38;clear BK469;clear HB;clear HO_6;clear HO467;have HO_38:=n0_;have BK469:=n1_;have HB:=n2_;have HO472:=n3_;clear n0_ n1_ n2_ n3_;clear ho hb hg hat))
          (try simp only [← hl38_2])
          go_roundg k2;case measure=>have:=HK1.out;have:=HK2.out;omega
          case rel=>exact ⟨(y470),(wrap64 (x40_2 + 1)),(by first | rfl | (simp;done) | (simp [*];done)),H',⟨by have:=HK1.out;have:=HK2.out;omega⟩,⟨by (try simp only [hl38_2]);(with_reducible repeat (first | apply Kd.S_alloc | apply Kd.S_drewN | apply Kd.S_drew));exact Kd.S_mono HO472.out (fun _ hk=>trivial)⟩,⟨by (try simp only [hl38_2]);(with_reducible repeat (first | apply Kd.R_alloc | apply Kd.R_drewN | apply Kd.R_drew));exact HO_38.out⟩,⟨hs1 HB GE469⟩⟩
         rw [if_neg c26] at H;exact absurd H (by simp)
        replace c25:=Bool.eq_false_iff.mpr c25;subst c25;have H1 : (impl_Gather.l1 k2 l0 x6_2 t461 (x3_1.length : Int) (wrap64 (x40_2 + 1))) = some r:=by rw [if_neg (show ¬ (false = true) by decide)] at H;exact H
        clear H;have H:=H1;clear H1;have H':=zMk H;clear H;have p462 : 0 ≤ (x40_2 : Int):=zDe (by first | (with_reducible assumption) | assumption);have q462 : x40_2 < (t461.length : Int):=zDe (by first | (with_reducible assumption) | assumption);obtain ⟨ad462,e462,hx462_0⟩:=Kd.at_int (Kd.R_reads' HO_38.out).2.2 x40_2 p462 q462;cases e462;replace p462:=eq_true p462;replace q462:=eq_true q462;go_wp2_with (first | ((with_reducible refine gate_callee (f:=37) rfl ?_);refine goesL_ (some 47) rfl rfl Try.func37 (by kernel_rfl) rfl #[.slice A0 l0.length c0,.int .i64 (rd t461 x40_2)] rfl (by (try simp only [List.map_toArray,List.map_cons,List.map_nil]);first | done | rfl | (simp only [List.length_drop,List.length_take];rfl)) ?_;(with_reducible refine (impl_gathered.calls k2 _ _ l0 (rd t461 x40_2) t463 t464 t465 false _ ?side1 ?side2 A24.out).mono ?_);(case side1=>repeat (first | exact (Kd.C_below HR0.out HB.out) | (with_reducible refine Kd.C_alloc ?_ _) | (with_reducible refine Kd.C_drewN ?_ _) | (with_reducible refine Kd.C_drew ?_)));(case side2=>exact HC0.out);rintro e w34 ⟨v466,rfl,ho0,hb⟩;refine ⟨_,rfl,?_⟩;have n0_:=zMk (Kd.S_elder' (ss HO_6) (Kd.R_base ho0) hb);have n1_:=zMk (Kd.R_below (rs HO_38) hb);have n2_:=zMk (Kd.R_lower ho0 (below_size (hs HB)));have n3_:=zMk (below_step (hs HB) hb);clear HO_6;clear HO_38;clear HB;have HO_6:=n0_;have HO_38:=n1_;have HO467:=n2_;have HB:=n3_;clear n0_ n1_ n2_ n3_;(try clear hb);(try clear hb2);(try clear hk);(try clear hi);(try clear ho0)) | ((with_reducible refine gate_dst (N:=9) rfl ?_);refine box_event ?hg (N:=9) ?hd (cs:=#[.int .i64 0,.int .i64 0,.slice none 0 0]) (t:=40) ?hr ?_;(case hd=>rfl);(case hg=>rfl);(case hr=>first | (go_simp;done) | (go_simp;rfl));intro gb469 hg w35 hbox hb;have n0_:=zMk (Kd.S_below (Kd.S_elderB (ss HO_6) gb469 (Nat.le_of_eq hg.symm)) hb);have n1_:=zMk (Kd.R_below (rs HO_38) hb);have n2_:=zMk (Kd.R_below (rs HO467) hb);have n3_:=zMk (below_step (hs HB) hb);have n4_:=zMk (hbox);have n5_:=zMk ((by rw [hg];exact (below_size (hs HB)) : w.heap.size ≤ gb469));have n6_:=zMk ((by rw [hg];exact (below_size (hs HB)) : w.heap.size ≤ gb469));clear HO_6;clear HO_38;clear HO467;clear HB;have HO_6:=n0_;have HO_38:=n1_;have HO467:=n2_;have HB:=n3_;have BK469:=n4_;have GW469:=n5_;have GE469:=n6_;clear n0_ n1_ n2_ n3_ n4_ n5_ n6_;clear hb hbox hg;have hcz36_0 : w35.cell? ⟨gb469,0,none⟩ = some (.int .i64 0):=(zCl BK469.out 0).trans rfl;have hcz36_1 : w35.cell? ⟨gb469,1,none⟩ = some (.int .i64 0):=(zCl BK469.out 1).trans rfl;have hcz36_2 : w35.cell? ⟨gb469,2,none⟩ = some (.slice none 0 0):=(zCl BK469.out 2).trans rfl;have hfz36_0:=zFr BK469.out 0;have hfz36_1:=zFr BK469.out 1;have hfz36_2:=zFr BK469.out 2;obtain ⟨Ao37,co37,eo37⟩:=Kd.R_slice HO467.out;subst eo37))
        (try simp only [← hl38_2])
        go_roundg k2;case measure=>have:=HK1.out;have:=HK2.out;omega
        case rel=>exact ⟨(x6_2),(wrap64 (x40_2 + 1)),(by first | rfl | (simp;done) | (simp [*];done)),H',⟨by have:=HK1.out;have:=HK2.out;omega⟩,⟨by (try simp only [hl38_2]);(with_reducible repeat (first | apply Kd.S_alloc | apply Kd.S_drewN | apply Kd.S_drew));exact Kd.S_mono (Kd.S_far (p:=⟨gb469,2,none⟩) (Kd.S_far (p:=⟨gb469,1,none⟩) (Kd.S_far (p:=⟨gb469,0,none⟩) (Kd.S_mono HO_6.out (fun k_ hk=>(⟨hk,hk.2⟩ : _ ∧ k_ ≠ gb469))) (fun _ hk=>hk.2) (.int .i64 t463)) (fun _ hk=>hk.2) (.int .i64 t464)) (fun _ hk=>hk.2) (.slice Ao37 t465.length co37)) (fun _ hk=>trivial)⟩,⟨by (try simp only [hl38_2]);(with_reducible repeat (first | apply Kd.R_alloc | apply Kd.R_drewN | apply Kd.R_drew));exact Kd.R_mono (Kd.R_far (p:=⟨gb469,2,none⟩) (Kd.R_far (p:=⟨gb469,1,none⟩) (Kd.R_far (p:=⟨gb469,0,none⟩) (Kd.R_types HO_38.out BK469.out (by decide)) (fun _ hk=>hk.2) (.int .i64 t463)) (fun _ hk=>hk.2) (.int .i64 t464)) (fun _ hk=>hk.2) (.slice Ao37 t465.length co37)) (fun _ hk=>trivial)⟩,⟨hs1 HB GE469⟩⟩
       rw [if_neg c23] at H;exact absurd H (by simp)
      rw [if_neg c22] at H;exact absurd H (by simp)
     rw [if_neg c21] at H;have c21b0 : decide (x40_2 < (x3_1.length : Int)) = false:=decide_eq_false c21
     (try rw [hl38_2] at c21b0)
     clear c21;obtain rfl:=Option.some.inj H
     go_wp2
     go_ret
     exact ⟨_,by first | rfl | (simp [errW_none,errW_some] <;> rfl) | (simp [*,errW_none,errW_some] <;> rfl),ss HO_6,hs HB⟩
def spec_l01In.f (a0 : Int) (a1 : Int) (a2 : Int) : Option (Bool):=if a0 ≥ a1 then (some (decide (a0 ≤ a2))) else (some false)
set_option maxHeartbeats 8000000 in
set_option maxRecDepth 100000 in
theorem spec_l01In.calls (a0 : Int) (a1 : Int) (a2 : Int) (r : Bool) (w : World) (h : spec_l01In.f a0 a1 a2 = some r) :
  Calls Try.prog 34 #[.int .i64 a0,.int .i64 a1,.int .i64 a2] w fun e w'=>e = .returned (.bool r) ∧ Drawn0 w w':=by
 have H : (if a0 ≥ a1 then (some (decide (a0 ≤ a2))) else (some false)) = some r:=h;clear h
 by_cases c4 : a0 ≥ a1
 ·rw [if_pos c4] at H;have c4b0 : decide (a1 ≤ a0) = true:=decide_eq_true c4;clear c4;obtain rfl:=Option.some.inj H
  go_enter Try.func34,Try.ntmps34
  go_wp2
  go_ret
  exact ⟨by first | rfl | (simp;done) | (simp [*];done),by repeat (first | exact Drawn0.refl _ | apply Drawn0.step)⟩
 rw [if_neg c4] at H;have c4b0 : decide (a1 ≤ a0) = false:=decide_eq_false c4;clear c4;obtain rfl:=Option.some.inj H
 go_enter Try.func34,Try.ntmps34
 go_wp2
 go_ret
 exact ⟨by first | rfl | (simp;done) | (simp [*];done),by repeat (first | exact Drawn0.refl _ | apply Drawn0.step)⟩
def spec_RecOk.j0 : Nat → Bool → Int → Int → Int → Int → Option (Bool)
 | 0,_,_,_,_,_=>none
 | k + 1,x37,x247000,x247001,x247002,x247003=>if x37 = true then (some false) else (if x247000 = 2 then (some (decide (x247002 ≤ 9))) else (if x247000 = 3 then (some (x247002 == 0)) else (if x247000 = 4 then (if x247002 < 16 then ((spec_l01In.f x247003 1 1000000000).bind fun t250=>(some t250)) else (some false)) else (some (decide (x247002 < 16))))))
def spec_RecOk.f (k : Nat) (a0_0 : Int) (a0_1 : Int) (a0_2 : Int) (a0_3 : Int) : Option (Bool):=(spec_l01In.f a0_2 0 1000000000).bind fun t247=>(if t247 = true then (if a0_0 = 1 then (if a0_1 = 0 then (some (a0_3 == 0)) else (some false)) else ((spec_l01In.f a0_0 2 5).bind fun t248=>(if t248 = true then ((spec_l01In.f a0_1 1 9).bind fun t249=>(if t249 = true then (if a0_0 = 4 then (spec_RecOk.j0 k false a0_0 a0_1 a0_2 a0_3) else (spec_RecOk.j0 k (a0_3 != 0) a0_0 a0_1 a0_2 a0_3)) else (spec_RecOk.j0 k true a0_0 a0_1 a0_2 a0_3))) else (spec_RecOk.j0 k true a0_0 a0_1 a0_2 a0_3)))) else (some false))
theorem spec_RecOk.mono_l : ∀ k,(∀ y0 y1 y2 y3 y4,LeO (spec_RecOk.j0 k y0 y1 y2 y3 y4) (spec_RecOk.j0 (k + 1) y0 y1 y2 y3 y4))
 | 0=>fun _ _ _ _ _ r h=>by simp [spec_RecOk.j0] at h
 | k + 1=>by
  have ih0:=spec_RecOk.mono_l k;intro y0 y1 y2 y3 y4;unfold spec_RecOk.j0
  repeat' first
  | (with_reducible exact ih0 _ _ _ _ _)
  | (with_reducible exact LeO.refl _)
  | (with_reducible exact LeO.none _)
  | (with_reducible refine LeO.ite ?_ ?_)
  | (with_reducible refine LeO.bind ?_ (fun _=>?_))
  | exact ih0 _ _ _ _ _
  | exact LeO.none _
  | refine LeO.ite ?_ ?_
  | refine LeO.bind ?_ (fun _=>?_)
theorem spec_RecOk.mono : ∀ a0 a1 a2 a3 k,LeO (spec_RecOk.f k a0 a1 a2 a3) (spec_RecOk.f (k + 1) a0 a1 a2 a3):=by
 intro a0 a1 a2 a3 k;have ih0:=spec_RecOk.mono_l k;unfold spec_RecOk.f
 repeat' first
   | (with_reducible exact ih0 _ _ _ _ _)
   | (with_reducible exact LeO.refl _)
   | (with_reducible exact LeO.none _)
   | (with_reducible refine LeO.ite ?_ ?_)
   | (with_reducible refine LeO.bind ?_ (fun _=>?_))
   | exact ih0 _ _ _ _ _
   | exact LeO.none _
   | refine LeO.ite ?_ ?_
   | refine LeO.bind ?_ (fun _=>?_)
set_option maxHeartbeats 8000000 in
set_option maxRecDepth 100000 in
theorem spec_RecOk.calls (k : Nat) (a0_0 : Int) (a0_1 : Int) (a0_2 : Int) (a0_3 : Int) (r : Bool) (w : World) (h : spec_RecOk.f k a0_0 a0_1 a0_2 a0_3 = some r) :
  Calls Try.prog 51 #[.agg #[.int .i64 a0_0,.int .i64 a0_1,.int .i64 a0_2,.int .i64 a0_3]] w fun e w'=>e = .returned (.bool r) ∧ Below w.heap.size w w':=by
 have hu45:=Try.underlying45;have HB:=zMk (Below.refl w.heap.size w);have H : ((spec_l01In.f a0_2 0 1000000000).bind fun t247=>(if t247 = true then (if a0_0 = 1 then (if a0_1 = 0 then (some (a0_3 == 0)) else (some false)) else ((spec_l01In.f a0_0 2 5).bind fun t248=>(if t248 = true then ((spec_l01In.f a0_1 1 9).bind fun t249=>(if t249 = true then (if a0_0 = 4 then (spec_RecOk.j0 k false a0_0 a0_1 a0_2 a0_3) else (spec_RecOk.j0 k (a0_3 != 0) a0_0 a0_1 a0_2 a0_3)) else (spec_RecOk.j0 k true a0_0 a0_1 a0_2 a0_3))) else (spec_RecOk.j0 k true a0_0 a0_1 a0_2 a0_3)))) else (some false))) = some r:=h;clear h;replace H:=Option.bind_eq_some_iff.mp H;obtain ⟨t247,A20,H⟩:=H;replace H : (if t247 = true then (if a0_0 = 1 then (if a0_1 = 0 then (some (a0_3 == 0)) else (some false)) else ((spec_l01In.f a0_0 2 5).bind fun t248=>(if t248 = true then ((spec_l01In.f a0_1 1 9).bind fun t249=>(if t249 = true then (if a0_0 = 4 then (spec_RecOk.j0 k false a0_0 a0_1 a0_2 a0_3) else (spec_RecOk.j0 k (a0_3 != 0) a0_0 a0_1 a0_2 a0_3)) else (spec_RecOk.j0 k true a0_0 a0_1 a0_2 a0_3))) else (spec_RecOk.j0 k true a0_0 a0_1 a0_2 a0_3)))) else (some false)) = some r:=H;have A2:=zMk A20;clear A20
 by_cases c3 : t247 = true
 ·subst c3;have H1 : (if a0_0 = 1 then (if a0_1 = 0 then (some (a0_3 == 0)) else (some false)) else ((spec_l01In.f a0_0 2 5).bind fun t248=>(if t248 = true then ((spec_l01In.f a0_1 1 9).bind fun t249=>(if t249 = true then (if a0_0 = 4 then (spec_RecOk.j0 k false a0_0 a0_1 a0_2 a0_3) else (spec_RecOk.j0 k (a0_3 != 0) a0_0 a0_1 a0_2 a0_3)) else (spec_RecOk.j0 k true a0_0 a0_1 a0_2 a0_3))) else (spec_RecOk.j0 k true a0_0 a0_1 a0_2 a0_3)))) = some r:=by rw [if_pos rfl] at H;exact H
  clear H;have H:=H1;clear H1
  by_cases c4 : a0_0 = 1
  ·rw [if_pos c4] at H;have c4b0 : (a0_0 == 1) = true:=beq_iff_eq.mpr c4;have c4b1 : (a0_0 != 1) = false:=bne_eq_false_iff_eq.mpr c4;clear c4
   by_cases c5 : a0_1 = 0
   ·rw [if_pos c5] at H;have c5b0 : (a0_1 == 0) = true:=beq_iff_eq.mpr c5;have c5b1 : (a0_1 != 0) = false:=bne_eq_false_iff_eq.mpr c5;clear c5;obtain rfl:=Option.some.inj H
    go_enter Try.func51,Try.ntmps51
    go_wp2_with (first | ((with_reducible refine gate_dst (N:=1) rfl ?_);refine box_event ?hg (N:=1) ?hd (cs:=#[.int .i64 a0_0,.int .i64 a0_1,.int .i64 a0_2,.int .i64 a0_3]) (t:=45) ?hr ?_;(case hd=>rfl);(case hg=>rfl);(case hr=>first | (go_simp;done) | (go_simp;rfl));intro gb246 hg w6 hbox hb;have n0_:=zMk (below_step (hs HB) hb);have n1_:=zMk (hbox);have n2_:=zMk ((by rw [hg];exact (below_size (hs HB)) : w.heap.size ≤ gb246));have n3_:=zMk ((by rw [hg];exact (below_size (hs HB)) : w.heap.size ≤ gb246));clear HB;have HB:=n0_;have BK246:=n1_;have GW246:=n2_;have GE246:=n3_;clear n0_ n1_ n2_ n3_;clear hb hbox hg;have hcz7_0 : w6.cell? ⟨gb246,0,none⟩ = some (.int .i64 a0_0):=(zCl BK246.out 0).trans rfl;have hcz7_1 : w6.cell? ⟨gb246,1,none⟩ = some (.int .i64 a0_1):=(zCl BK246.out 1).trans rfl;have hcz7_2 : w6.cell? ⟨gb246,2,none⟩ = some (.int .i64 a0_2):=(zCl BK246.out 2).trans rfl;have hcz7_3 : w6.cell? ⟨gb246,3,none⟩ = some (.int .i64 a0_3):=(zCl BK246.out 3).trans rfl;have hfz7_0:=zFr BK246.out 0;have hfz7_1:=zFr BK246.out 1;have hfz7_2:=zFr BK246.out 2;have hfz7_3:=zFr BK246.out 3) | ((with_reducible refine gate_callee (f:=34) rfl ?_);refine goesL_ (some 5) rfl rfl Try.func34 (by kernel_rfl) rfl #[.int .i64 a0_2,.int .i64 0,.int .i64 1000000000] rfl (by (try simp only [List.map_toArray,List.map_cons,List.map_nil]);first | done | rfl | (simp only [List.length_drop,List.length_take];rfl)) ?_;(with_reducible refine (spec_l01In.calls a0_2 0 1000000000 true _ A2.out).mono ?_);rintro e w' ⟨rfl,⟨nd,rfl⟩⟩;refine ⟨_,rfl,?_⟩))
    go_ret
    exact ⟨by first | rfl | (simp [errW_none,errW_some] <;> rfl) | (simp [*,errW_none,errW_some] <;> rfl),hs1 HB GE246⟩
   rw [if_neg c5] at H;have c5b0 : (a0_1 == 0) = false:=beq_eq_false_iff_ne.mpr c5;have c5b1 : (a0_1 != 0) = true:=bne_iff_ne.mpr c5;obtain rfl:=Option.some.inj H
   go_enter Try.func51,Try.ntmps51
   go_wp2_with (first | ((with_reducible refine gate_dst (N:=1) rfl ?_);refine box_event ?hg (N:=1) ?hd (cs:=#[.int .i64 a0_0,.int .i64 a0_1,.int .i64 a0_2,.int .i64 a0_3]) (t:=45) ?hr ?_;(case hd=>rfl);(case hg=>rfl);(case hr=>first | (go_simp;done) | (go_simp;rfl));intro gb246 hg w8 hbox hb;have n0_:=zMk (below_step (hs HB) hb);have n1_:=zMk (hbox);have n2_:=zMk ((by rw [hg];exact (below_size (hs HB)) : w.heap.size ≤ gb246));have n3_:=zMk ((by rw [hg];exact (below_size (hs HB)) : w.heap.size ≤ gb246));clear HB;have HB:=n0_;have BK246:=n1_;have GW246:=n2_;have GE246:=n3_;clear n0_ n1_ n2_ n3_;clear hb hbox hg;have hcz9_0 : w8.cell? ⟨gb246,0,none⟩ = some (.int .i64 a0_0):=(zCl BK246.out 0).trans rfl;have hcz9_1 : w8.cell? ⟨gb246,1,none⟩ = some (.int .i64 a0_1):=(zCl BK246.out 1).trans rfl;have hcz9_2 : w8.cell? ⟨gb246,2,none⟩ = some (.int .i64 a0_2):=(zCl BK246.out 2).trans rfl;have hcz9_3 : w8.cell? ⟨gb246,3,none⟩ = some (.int .i64 a0_3):=(zCl BK246.out 3).trans rfl;have hfz9_0:=zFr BK246.out 0;have hfz9_1:=zFr BK246.out 1;have hfz9_2:=zFr BK246.out 2;have hfz9_3:=zFr BK246.out 3) | ((with_reducible refine gate_callee (f:=34) rfl ?_);refine goesL_ (some 5) rfl rfl Try.func34 (by kernel_rfl) rfl #[.int .i64 a0_2,.int .i64 0,.int .i64 1000000000] rfl (by (try simp only [List.map_toArray,List.map_cons,List.map_nil]);first | done | rfl | (simp only [List.length_drop,List.length_take];rfl)) ?_;(with_reducible refine (spec_l01In.calls a0_2 0 1000000000 true _ A2.out).mono ?_);rintro e w' ⟨rfl,⟨nd,rfl⟩⟩;refine ⟨_,rfl,?_⟩))
   go_ret
   exact ⟨by first | rfl | (simp [errW_none,errW_some] <;> rfl) | (simp [*,errW_none,errW_some] <;> rfl),hs1 HB GE246⟩
  rw [if_neg c4] at H;have c4b0 : (a0_0 == 1) = false:=beq_eq_false_iff_ne.mpr c4;have c4b1 : (a0_0 != 1) = true:=bne_iff_ne.mpr c4;have HC10:=zMk H;clear H
  go_enter Try.func51,Try.ntmps51
  go_upto_region 5 with (first | ((with_reducible refine gate_dst (N:=1) rfl ?_);refine box_event ?hg (N:=1) ?hd (cs:=#[.int .i64 a0_0,.int .i64 a0_1,.int .i64 a0_2,.int .i64 a0_3]) (t:=45) ?hr ?_;(case hd=>rfl);(case hg=>rfl);(case hr=>first | (go_simp;done) | (go_simp;rfl));intro gb246 hg w11 hbox hb;have n0_:=zMk (below_step (hs HB) hb);have n1_:=zMk (hbox);have n2_:=zMk ((by rw [hg];exact (below_size (hs HB)) : w.heap.size ≤ gb246));have n3_:=zMk ((by rw [hg];exact (below_size (hs HB)) : w.heap.size ≤ gb246));clear HB;have HB:=n0_;have BK246:=n1_;have GW246:=n2_;have GE246:=n3_;clear n0_ n1_ n2_ n3_;clear hb hbox hg;have hcz12_0 : w11.cell? ⟨gb246,0,none⟩ = some (.int .i64 a0_0):=(zCl BK246.out 0).trans rfl;have hcz12_1 : w11.cell? ⟨gb246,1,none⟩ = some (.int .i64 a0_1):=(zCl BK246.out 1).trans rfl;have hcz12_2 : w11.cell? ⟨gb246,2,none⟩ = some (.int .i64 a0_2):=(zCl BK246.out 2).trans rfl;have hcz12_3 : w11.cell? ⟨gb246,3,none⟩ = some (.int .i64 a0_3):=(zCl BK246.out 3).trans rfl;have hfz12_0:=zFr BK246.out 0;have hfz12_1:=zFr BK246.out 1;have hfz12_2:=zFr BK246.out 2;have hfz12_3:=zFr BK246.out 3) | ((with_reducible refine gate_callee (f:=34) rfl ?_);refine goesL_ (some 5) rfl rfl Try.func34 (by kernel_rfl) rfl #[.int .i64 a0_2,.int .i64 0,.int .i64 1000000000] rfl (by (try simp only [List.map_toArray,List.map_cons,List.map_nil]);first | done | rfl | (simp only [List.length_drop,List.length_take];rfl)) ?_;(with_reducible refine (spec_l01In.calls a0_2 0 1000000000 true _ A2.out).mono ?_);rintro e w' ⟨rfl,⟨nd,rfl⟩⟩;refine ⟨_,rfl,?_⟩))
  (try simp only [Act.put,zS1,zS2,zS3])
  go_cut [37] (fun v37 wc=>∃ (kq : Nat) (x37_9 : Bool),v37 = .bool x37_9 ∧ Aside0 (spec_RecOk.j0 kq x37_9 a0_0 a0_1 a0_2 a0_3 = some r) ∧ Aside0 (kq ≤ k) ∧ Aside0 (wc.heap[gb246]? = some (.cells #[.int .i64 a0_0,.int .i64 a0_1,.int .i64 a0_2,.int .i64 a0_3] 45 (0,0))) ∧ Aside0 (Below w.heap.size w wc))
  case first =>
   have H:=HC10.out;clear HC10;replace H:=Option.bind_eq_some_iff.mp H;obtain ⟨t248,A130,H⟩:=H;replace H : (if t248 = true then ((spec_l01In.f a0_1 1 9).bind fun t249=>(if t249 = true then (if a0_0 = 4 then (spec_RecOk.j0 k false a0_0 a0_1 a0_2 a0_3) else (spec_RecOk.j0 k (a0_3 != 0) a0_0 a0_1 a0_2 a0_3)) else (spec_RecOk.j0 k true a0_0 a0_1 a0_2 a0_3))) else (spec_RecOk.j0 k true a0_0 a0_1 a0_2 a0_3)) = some r:=H;have A13:=zMk A130;clear A130
   by_cases c14 : t248 = true
   ·subst c14;have H1 : ((spec_l01In.f a0_1 1 9).bind fun t249=>(if t249 = true then (if a0_0 = 4 then (spec_RecOk.j0 k false a0_0 a0_1 a0_2 a0_3) else (spec_RecOk.j0 k (a0_3 != 0) a0_0 a0_1 a0_2 a0_3)) else (spec_RecOk.j0 k true a0_0 a0_1 a0_2 a0_3))) = some r:=by rw [if_pos rfl] at H;exact H
    clear H;have H:=H1;clear H1;replace H:=Option.bind_eq_some_iff.mp H;obtain ⟨t249,A150,H⟩:=H;replace H : (if t249 = true then (if a0_0 = 4 then (spec_RecOk.j0 k false a0_0 a0_1 a0_2 a0_3) else (spec_RecOk.j0 k (a0_3 != 0) a0_0 a0_1 a0_2 a0_3)) else (spec_RecOk.j0 k true a0_0 a0_1 a0_2 a0_3)) = some r:=H;have A15:=zMk A150;clear A150
    by_cases c16 : t249 = true
    ·subst c16;have H1 : (if a0_0 = 4 then (spec_RecOk.j0 k false a0_0 a0_1 a0_2 a0_3) else (spec_RecOk.j0 k (a0_3 != 0) a0_0 a0_1 a0_2 a0_3)) = some r:=by rw [if_pos rfl] at H;exact H
     clear H;have H:=H1;clear H1
     by_cases c17 : a0_0 = 4
     ·rw [if_pos c17] at H;have c17b0 : (a0_0 == 4) = true:=beq_iff_eq.mpr c17;have c17b1 : (a0_0 != 4) = false:=bne_eq_false_iff_eq.mpr c17;clear c17
      (first | rw [c17b0] | (simp only [i64_w,i32_w];rw [c17b0]) | skip)
      have H':=zMk H;clear H;have hcz18_0 : w11.cell? ⟨gb246,0,none⟩ = some (.int .i64 a0_0):=(zCl BK246.out 0).trans rfl;have hcz18_1 : w11.cell? ⟨gb246,1,none⟩ = some (.int .i64 a0_1):=(zCl BK246.out 1).trans rfl;have hcz18_2 : w11.cell? ⟨gb246,2,none⟩ = some (.int .i64 a0_2):=(zCl BK246.out 2).trans rfl;have hcz18_3 : w11.cell? ⟨gb246,3,none⟩ = some (.int .i64 a0_3):=(zCl BK246.out 3).trans rfl;have hfz18_0:=zFr BK246.out 0;have hfz18_1:=zFr BK246.out 1;have hfz18_2:=zFr BK246.out 2;have hfz18_3:=zFr BK246.out 3;go_wp2_with (first | ((with_reducible refine gate_callee (f:=34) rfl ?_);refine goesL_ (some 20) rfl rfl Try.func34 (by kernel_rfl) rfl #[.int .i64 a0_0,.int .i64 2,.int .i64 5] rfl (by (try simp only [List.map_toArray,List.map_cons,List.map_nil]);first | done | rfl | (simp only [List.length_drop,List.length_take];rfl)) ?_;(with_reducible refine (spec_l01In.calls a0_0 2 5 true _ A13.out).mono ?_);rintro e w' ⟨rfl,⟨nd,rfl⟩⟩;refine ⟨_,rfl,?_⟩) | (go_at_call 34;(with_reducible refine (spec_l01In.calls a0_1 1 9 true _ A15.out).mono ?_);rintro e w' ⟨rfl,⟨nd,rfl⟩⟩))
      go_meet
      case rel=>exact ⟨_,(false),(by first | rfl | (simp;done) | (simp [*];done)),H',⟨by first | omega | exact Nat.le_refl _⟩,⟨bs BK246⟩,⟨hs1 HB GE246⟩⟩
     rw [if_neg c17] at H;have c17b0 : (a0_0 == 4) = false:=beq_eq_false_iff_ne.mpr c17;have c17b1 : (a0_0 != 4) = true:=bne_iff_ne.mpr c17
     (first | rw [c17b0] | (simp only [i64_w,i32_w];rw [c17b0]) | skip)
     have H':=zMk H;clear H;have hcz19_0 : w11.cell? ⟨gb246,0,none⟩ = some (.int .i64 a0_0):=(zCl BK246.out 0).trans rfl;have hcz19_1 : w11.cell? ⟨gb246,1,none⟩ = some (.int .i64 a0_1):=(zCl BK246.out 1).trans rfl;have hcz19_2 : w11.cell? ⟨gb246,2,none⟩ = some (.int .i64 a0_2):=(zCl BK246.out 2).trans rfl;have hcz19_3 : w11.cell? ⟨gb246,3,none⟩ = some (.int .i64 a0_3):=(zCl BK246.out 3).trans rfl;have hfz19_0:=zFr BK246.out 0;have hfz19_1:=zFr BK246.out 1;have hfz19_2:=zFr BK246.out 2;have hfz19_3:=zFr BK246.out 3;go_wp2_with (first | ((with_reducible refine gate_callee (f:=34) rfl ?_);refine goesL_ (some 20) rfl rfl Try.func34 (by kernel_rfl) rfl #[.int .i64 a0_0,.int .i64 2,.int .i64 5] rfl (by (try simp only [List.map_toArray,List.map_cons,List.map_nil]);first | done | rfl | (simp only [List.length_drop,List.length_take];rfl)) ?_;(with_reducible refine (spec_l01In.calls a0_0 2 5 true _ A13.out).mono ?_);rintro e w' ⟨rfl,⟨nd,rfl⟩⟩;refine ⟨_,rfl,?_⟩) | (go_at_call 34;(with_reducible refine (spec_l01In.calls a0_1 1 9 true _ A15.out).mono ?_);rintro e w' ⟨rfl,⟨nd,rfl⟩⟩))
     go_meet
     case rel=>exact ⟨_,((a0_3 != 0)),(by first | rfl | (simp;done) | (simp [*];done)),H',⟨by first | omega | exact Nat.le_refl _⟩,⟨bs BK246⟩,⟨hs1 HB GE246⟩⟩
    replace c16:=Bool.eq_false_iff.mpr c16;subst c16;have H1 : (spec_RecOk.j0 k true a0_0 a0_1 a0_2 a0_3) = some r:=by rw [if_neg (show ¬ (false = true) by decide)] at H;exact H
    clear H;have H:=H1;clear H1;have H':=zMk H;clear H;have hcz20_0 : w11.cell? ⟨gb246,0,none⟩ = some (.int .i64 a0_0):=(zCl BK246.out 0).trans rfl;have hcz20_1 : w11.cell? ⟨gb246,1,none⟩ = some (.int .i64 a0_1):=(zCl BK246.out 1).trans rfl;have hcz20_2 : w11.cell? ⟨gb246,2,none⟩ = some (.int .i64 a0_2):=(zCl BK246.out 2).trans rfl;have hcz20_3 : w11.cell? ⟨gb246,3,none⟩ = some (.int .i64 a0_3):=(zCl BK246.out 3).trans rfl;have hfz20_0:=zFr BK246.out 0;have hfz20_1:=zFr BK246.out 1;have hfz20_2:=zFr BK246.out 2;have hfz20_3:=zFr BK246.out 3;go_wp2_with (first | ((with_reducible refine gate_callee (f:=34) rfl ?_);refine goesL_ (some 20) rfl rfl Try.func34 (by kernel_rfl) rfl #[.int .i64 a0_0,.int .i64 2,.int .i64 5] rfl (by (try simp only [List.map_toArray,List.map_cons,List.map_nil]);first | done | rfl | (simp only [List.length_drop,List.length_take];rfl)) ?_;(with_reducible refine (spec_l01In.calls a0_0 2 5 true _ A13.out).mono ?_);rintro e w' ⟨rfl,⟨nd,rfl⟩⟩;refine ⟨_,rfl,?_⟩) | (go_at_call 34;(with_reducible refine (spec_l01In.calls a0_1 1 9 false _ A15.out).mono ?_);rintro e w' ⟨rfl,⟨nd,rfl⟩⟩))
    go_meet
    case rel=>exact ⟨_,(true),(by first | rfl | (simp;done) | (simp [*];done)),H',⟨by first | omega | exact Nat.le_refl _⟩,⟨bs BK246⟩,⟨hs1 HB GE246⟩⟩
   replace c14:=Bool.eq_false_iff.mpr c14;subst c14;have H1 : (spec_RecOk.j0 k true a0_0 a0_1 a0_2 a0_3) = some r:=by rw [if_neg (show ¬ (false = true) by decide)] at H;exact H
   clear H;have H:=H1;clear H1;have H':=zMk H;clear H;have hcz21_0 : w11.cell? ⟨gb246,0,none⟩ = some (.int .i64 a0_0):=(zCl BK246.out 0).trans rfl;have hcz21_1 : w11.cell? ⟨gb246,1,none⟩ = some (.int .i64 a0_1):=(zCl BK246.out 1).trans rfl;have hcz21_2 : w11.cell? ⟨gb246,2,none⟩ = some (.int .i64 a0_2):=(zCl BK246.out 2).trans rfl;have hcz21_3 : w11.cell? ⟨gb246,3,none⟩ = some (.int .i64 a0_3):=(zCl BK246.out 3).trans rfl;have hfz21_0:=zFr BK246.out 0;have hfz21_1:=zFr BK246.out 1;have hfz21_2:=zFr BK246.out 2;have hfz21_3:=zFr BK246.out 3;go_wp2_with (first | ((with_reducible refine gate_callee (f:=34) rfl ?_);refine goesL_ (some 20) rfl rfl Try.func34 (by kernel_rfl) rfl #[.int .i64 a0_0,.int .i64 2,.int .i64 5] rfl (by (try simp only [List.map_toArray,List.map_cons,List.map_nil]);first | done | rfl | (simp only [List.length_drop,List.length_take];rfl)) ?_;(with_reducible refine (spec_l01In.calls a0_0 2 5 false _ A13.out).mono ?_);rintro e w' ⟨rfl,⟨nd,rfl⟩⟩;refine ⟨_,rfl,?_⟩))
   go_meet
   case rel=>exact ⟨_,(true),(by first | rfl | (simp;done) | (simp [*];done)),H',⟨by first | omega | exact Nat.le_refl _⟩,⟨bs BK246⟩,⟨hs1 HB GE246⟩⟩
  case rest =>
   clear HC10
   try clear c1
   try clear p2
   try clear c3
   try clear c4
   try clear c4b0
   try clear c4b1
   try clear c5
   try clear c5b0
   try clear c5b1
   try clear c14
   try clear c16
   try clear c17
   try clear c17b0
   try clear c17b1
   try clear hcz12_0
   try clear hcz12_1
   try clear hcz12_2
   try clear hcz12_3
   try clear hcz18_0
   try clear hcz18_1
   try clear hcz18_2
   try clear hcz18_3
   try clear hcz19_0
   try clear hcz19_1
   try clear hcz19_2
   try clear hcz19_3
   try clear hcz20_0
   try clear hcz20_1
   try clear hcz20_2
   try clear hcz20_3
   try clear hcz21_0
   try clear hcz21_1
   try clear hcz21_2
   try clear hcz21_3
   try clear hcz7_0
   try clear hcz7_1
   try clear hcz7_2
   try clear hcz7_3
   try clear hcz9_0
   try clear hcz9_1
   try clear hcz9_2
   try clear hcz9_3
   try clear hfz12_0
   try clear hfz12_1
   try clear hfz12_2
   try clear hfz12_3
   try clear hfz18_0
   try clear hfz18_1
   try clear hfz18_2
   try clear hfz18_3
   try clear hfz19_0
   try clear hfz19_1
   try clear hfz19_2
   try clear hfz19_3
   try clear hfz20_0
   try clear hfz20_1
   try clear hfz20_2
   try clear hfz20_3
   try clear hfz21_0
   try clear hfz21_1
   try clear hfz21_2
   try clear hfz21_3
   try clear hfz7_0
   try clear hfz7_1
   try clear hfz7_2
   try clear hfz7_3
   try clear hfz9_0
   try clear hfz9_1
   try clear hfz9_2
   try clear hfz9_3
   obtain ⟨kq,x37_9,rfl,HA,HJ9,BK246,HB⟩:=hcut;cases kq with
   | zero=>exact absurd HA.out (by simp [spec_RecOk.j0])
   | succ kj9 =>
    have H:=HA.out;clear HA;simp only [spec_RecOk.j0] at H
    by_cases c22 : x37_9 = true
    ·subst c22;have H1 : (some false) = some r:=by rw [if_pos rfl] at H;exact H
     clear H;have H:=H1;clear H1;obtain rfl:=Option.some.inj H
     go_wp2
     go_ret
     exact ⟨by first | rfl | (simp [errW_none,errW_some] <;> rfl) | (simp [*,errW_none,errW_some] <;> rfl),hs1 HB GE246⟩
    replace c22:=Bool.eq_false_iff.mpr c22;subst c22;have H1 : (if a0_0 = 2 then (some (decide (a0_2 ≤ 9))) else (if a0_0 = 3 then (some (a0_2 == 0)) else (if a0_0 = 4 then (if a0_2 < 16 then ((spec_l01In.f a0_3 1 1000000000).bind fun t250=>(some t250)) else (some false)) else (some (decide (a0_2 < 16)))))) = some r:=by rw [if_neg (show ¬ (false = true) by decide)] at H;exact H
    clear H;have H:=H1;clear H1
    by_cases c23 : a0_0 = 2
    ·rw [if_pos c23] at H;have c23b0 : (a0_0 == 2) = true:=beq_iff_eq.mpr c23;have c23b1 : (a0_0 != 2) = false:=bne_eq_false_iff_eq.mpr c23;clear c23;obtain rfl:=Option.some.inj H;have hcz24_0 : wc.cell? ⟨gb246,0,none⟩ = some (.int .i64 a0_0):=(zCl BK246.out 0).trans rfl;have hcz24_1 : wc.cell? ⟨gb246,1,none⟩ = some (.int .i64 a0_1):=(zCl BK246.out 1).trans rfl;have hcz24_2 : wc.cell? ⟨gb246,2,none⟩ = some (.int .i64 a0_2):=(zCl BK246.out 2).trans rfl;have hcz24_3 : wc.cell? ⟨gb246,3,none⟩ = some (.int .i64 a0_3):=(zCl BK246.out 3).trans rfl;have hfz24_0:=zFr BK246.out 0;have hfz24_1:=zFr BK246.out 1;have hfz24_2:=zFr BK246.out 2;have hfz24_3:=zFr BK246.out 3
     go_wp2
     go_ret
     exact ⟨by first | rfl | (simp [errW_none,errW_some] <;> rfl) | (simp [*,errW_none,errW_some] <;> rfl),hs1 HB GE246⟩
    rw [if_neg c23] at H;have c23b0 : (a0_0 == 2) = false:=beq_eq_false_iff_ne.mpr c23;have c23b1 : (a0_0 != 2) = true:=bne_iff_ne.mpr c23
    by_cases c25 : a0_0 = 3
    ·rw [if_pos c25] at H;have c25b0 : (a0_0 == 3) = true:=beq_iff_eq.mpr c25;have c25b1 : (a0_0 != 3) = false:=bne_eq_false_iff_eq.mpr c25;clear c25;obtain rfl:=Option.some.inj H;have hcz26_0 : wc.cell? ⟨gb246,0,none⟩ = some (.int .i64 a0_0):=(zCl BK246.out 0).trans rfl;have hcz26_1 : wc.cell? ⟨gb246,1,none⟩ = some (.int .i64 a0_1):=(zCl BK246.out 1).trans rfl;have hcz26_2 : wc.cell? ⟨gb246,2,none⟩ = some (.int .i64 a0_2):=(zCl BK246.out 2).trans rfl;have hcz26_3 : wc.cell? ⟨gb246,3,none⟩ = some (.int .i64 a0_3):=(zCl BK246.out 3).trans rfl;have hfz26_0:=zFr BK246.out 0;have hfz26_1:=zFr BK246.out 1;have hfz26_2:=zFr BK246.out 2;have hfz26_3:=zFr BK246.out 3
     go_wp2
     go_ret
     exact ⟨by first | rfl | (simp [errW_none,errW_some] <;> rfl) | (simp [*,errW_none,errW_some] <;> rfl),hs1 HB GE246⟩
    rw [if_neg c25] at H;have c25b0 : (a0_0 == 3) = false:=beq_eq_false_iff_ne.mpr c25;have c25b1 : (a0_0 != 3) = true:=bne_iff_ne.mpr c25
    by_cases c27 : a0_0 = 4
    ·rw [if_pos c27] at H;have c27b0 : (a0_0 == 4) = true:=beq_iff_eq.mpr c27;have c27b1 : (a0_0 != 4) = false:=bne_eq_false_iff_eq.mpr c27;clear c27
     by_cases c28 : a0_2 < 16
     ·rw [if_pos c28] at H;have c28b0 : decide (a0_2 < 16) = true:=decide_eq_true c28;clear c28;replace H:=Option.bind_eq_some_iff.mp H;obtain ⟨t250,A290,H⟩:=H;replace H : (some t250) = some r:=H;have A29:=zMk A290;clear A290;obtain rfl:=Option.some.inj H;have hcz30_0 : wc.cell? ⟨gb246,0,none⟩ = some (.int .i64 a0_0):=(zCl BK246.out 0).trans rfl;have hcz30_1 : wc.cell? ⟨gb246,1,none⟩ = some (.int .i64 a0_1):=(zCl BK246.out 1).trans rfl;have hcz30_2 : wc.cell? ⟨gb246,2,none⟩ = some (.int .i64 a0_2):=(zCl BK246.out 2).trans rfl;have hcz30_3 : wc.cell? ⟨gb246,3,none⟩ = some (.int .i64 a0_3):=(zCl BK246.out 3).trans rfl;have hfz30_0:=zFr BK246.out 0;have hfz30_1:=zFr BK246.out 1;have hfz30_2:=zFr BK246.out 2;have hfz30_3:=zFr BK246.out 3;go_wp2_with (first | (go_at_call 34;(with_reducible refine (spec_l01In.calls a0_3 1 1000000000 t250 _ A29.out).mono ?_);rintro e w' ⟨rfl,⟨nd,rfl⟩⟩))
      go_ret
      exact ⟨by first | rfl | (simp [errW_none,errW_some] <;> rfl) | (simp [*,errW_none,errW_some] <;> rfl),hs1 HB GE246⟩
     rw [if_neg c28] at H;have c28b0 : decide (a0_2 < 16) = false:=decide_eq_false c28;clear c28;obtain rfl:=Option.some.inj H;have hcz31_0 : wc.cell? ⟨gb246,0,none⟩ = some (.int .i64 a0_0):=(zCl BK246.out 0).trans rfl;have hcz31_1 : wc.cell? ⟨gb246,1,none⟩ = some (.int .i64 a0_1):=(zCl BK246.out 1).trans rfl;have hcz31_2 : wc.cell? ⟨gb246,2,none⟩ = some (.int .i64 a0_2):=(zCl BK246.out 2).trans rfl;have hcz31_3 : wc.cell? ⟨gb246,3,none⟩ = some (.int .i64 a0_3):=(zCl BK246.out 3).trans rfl;have hfz31_0:=zFr BK246.out 0;have hfz31_1:=zFr BK246.out 1;have hfz31_2:=zFr BK246.out 2;have hfz31_3:=zFr BK246.out 3
     go_wp2
     go_ret
     exact ⟨by first | rfl | (simp [errW_none,errW_some] <;> rfl) | (simp [*,errW_none,errW_some] <;> rfl),hs1 HB GE246⟩
    rw [if_neg c27] at H;have c27b0 : (a0_0 == 4) = false:=beq_eq_false_iff_ne.mpr c27;have c27b1 : (a0_0 != 4) = true:=bne_iff_ne.mpr c27;obtain rfl:=Option.some.inj H;have hcz32_0 : wc.cell? ⟨gb246,0,none⟩ = some (.int .i64 a0_0):=(zCl BK246.out 0).trans rfl;have hcz32_1 : wc.cell? ⟨gb246,1,none⟩ = some (.int .i64 a0_1):=(zCl BK246.out 1).trans rfl;have hcz32_2 : wc.cell? ⟨gb246,2,none⟩ = some (.int .i64 a0_2):=(zCl BK246.out 2).trans rfl;have hcz32_3 : wc.cell? ⟨gb246,3,none⟩ = some (.int .i64 a0_3):=(zCl BK246.out 3).trans rfl;have hfz32_0:=zFr BK246.out 0;have hfz32_1:=zFr BK246.out 1;have hfz32_2:=zFr BK246.out 2;have hfz32_3:=zFr BK246.out 3
    go_wp2
    go_ret
    exact ⟨by first | rfl | (simp [errW_none,errW_some] <;> rfl) | (simp [*,errW_none,errW_some] <;> rfl),hs1 HB GE246⟩
 replace c3:=Bool.eq_false_iff.mpr c3;subst c3;have H1 : (some false) = some r:=by rw [if_neg (show ¬ (false = true) by decide)] at H;exact H
 clear H;have H:=H1;clear H1;obtain rfl:=Option.some.inj H
 go_enter Try.func51,Try.ntmps51
 go_wp2_with (first | ((with_reducible refine gate_dst (N:=1) rfl ?_);refine box_event ?hg (N:=1) ?hd (cs:=#[.int .i64 a0_0,.int .i64 a0_1,.int .i64 a0_2,.int .i64 a0_3]) (t:=45) ?hr ?_;(case hd=>rfl);(case hg=>rfl);(case hr=>first | (go_simp;done) | (go_simp;rfl));intro gb246 hg w33 hbox hb;have n0_:=zMk (below_step (hs HB) hb);have n1_:=zMk (hbox);have n2_:=zMk ((by rw [hg];exact (below_size (hs HB)) : w.heap.size ≤ gb246));have n3_:=zMk ((by rw [hg];exact (below_size (hs HB)) : w.heap.size ≤ gb246));clear HB;have HB:=n0_;have BK246:=n1_;have GW246:=n2_;have GE246:=n3_;clear n0_ n1_ n2_ n3_;clear hb hbox hg;have hcz34_0 : w33.cell? ⟨gb246,0,none⟩ = some (.int .i64 a0_0):=(zCl BK246.out 0).trans rfl;have hcz34_1 : w33.cell? ⟨gb246,1,none⟩ = some (.int .i64 a0_1):=(zCl BK246.out 1).trans rfl;have hcz34_2 : w33.cell? ⟨gb246,2,none⟩ = some (.int .i64 a0_2):=(zCl BK246.out 2).trans rfl;have hcz34_3 : w33.cell? ⟨gb246,3,none⟩ = some (.int .i64 a0_3):=(zCl BK246.out 3).trans rfl;have hfz34_0:=zFr BK246.out 0;have hfz34_1:=zFr BK246.out 1;have hfz34_2:=zFr BK246.out 2;have hfz34_3:=zFr BK246.out 3) | ((with_reducible refine gate_callee (f:=34) rfl ?_);refine goesL_ (some 5) rfl rfl Try.func34 (by kernel_rfl) rfl #[.int .i64 a0_2,.int .i64 0,.int .i64 1000000000] rfl (by (try simp only [List.map_toArray,List.map_cons,List.map_nil]);first | done | rfl | (simp only [List.length_drop,List.length_take];rfl)) ?_;(with_reducible refine (spec_l01In.calls a0_2 0 1000000000 false _ A2.out).mono ?_);rintro e w' ⟨rfl,⟨nd,rfl⟩⟩;refine ⟨_,rfl,?_⟩))
 go_ret
 exact ⟨by first | rfl | (simp [errW_none,errW_some] <;> rfl) | (simp [*,errW_none,errW_some] <;> rfl),hs1 HB GE246⟩
def spec_l01Var.l0 : Nat → Int → List Int → Option (ByteArray)
 | 0,_,_=>none
 | k + 1,x0,x3=>if x0 > 127 then (if x3.length < 140737488355328 then (spec_l01Var.l0 k (wrap64 (Int.tdiv x0 128)) (x3 ++ [(wrap64 ((Int.tmod x0 128) + 128)) % 256])) else (none)) else (if x3.length < 140737488355328 then (some (strOfNums (x3 ++ [(x0) % 256]))) else (none))
def spec_l01Var.f (k : Nat) (a0 : Int) : Option (ByteArray):=spec_l01Var.l0 k a0 (([] : List Int))
theorem spec_l01Var.mono_l : ∀ k,(∀ y0 y1,LeO (spec_l01Var.l0 k y0 y1) (spec_l01Var.l0 (k + 1) y0 y1))
 | 0=>fun _ _ r h=>by simp [spec_l01Var.l0] at h
 | k + 1=>by
  have ih0:=spec_l01Var.mono_l k;intro y0 y1;unfold spec_l01Var.l0
  repeat' first
  | (with_reducible exact ih0 _ _)
  | (with_reducible exact LeO.refl _)
  | (with_reducible exact LeO.none _)
  | (with_reducible refine LeO.ite ?_ ?_)
  | (with_reducible refine LeO.bind ?_ (fun _=>?_))
  | exact ih0 _ _
  | exact LeO.none _
  | refine LeO.ite ?_ ?_
  | refine LeO.bind ?_ (fun _=>?_)
theorem spec_l01Var.mono : ∀ a0 k,LeO (spec_l01Var.f k a0) (spec_l01Var.f (k + 1) a0):=by
 intro a0 k;have ih0:=spec_l01Var.mono_l k;unfold spec_l01Var.f
 repeat' first
   | (with_reducible exact ih0 _ _)
   | (with_reducible exact LeO.refl _)
   | (with_reducible exact LeO.none _)
   | (with_reducible refine LeO.ite ?_ ?_)
   | (with_reducible refine LeO.bind ?_ (fun _=>?_))
   | exact ih0 _ _
   | exact LeO.none _
   | refine LeO.ite ?_ ?_
   | refine LeO.bind ?_ (fun _=>?_)
set_option maxHeartbeats 8000000 in
set_option maxRecDepth 100000 in
theorem spec_l01Var.calls (k : Nat) (a0 : Int) (r : ByteArray) (w : World) (h : spec_l01Var.f k a0 = some r) :
  Calls Try.prog 53 #[.int .i64 a0] w fun e w'=>e = .returned (.string r) ∧ Below w.heap.size w w':=by
 have HB:=zMk (Below.refl w.heap.size w);have H : (spec_l01Var.l0 k a0 (([] : List Int))) = some r:=h;clear h;obtain ⟨y254,hy254⟩ : ∃ y_ : List Int,y_ = (([] : List Int)):=⟨_,rfl⟩;replace H : (spec_l01Var.l0 k a0 y254) = some r:=by first | (rw [hy254];with_reducible exact H) | (have H2_:=(Option.bind_some _ _).symm.trans H;rw [hy254];with_reducible exact H2_) | (have H2_:=(Option.bind_some _ _).symm.trans H;with_reducible exact H2_) | with_reducible exact H | (rw [hy254];exact H) | exact H
 have Ny254:=zMk hy254;clear hy254;have H':=zMk H;clear H
 go_enter Try.func53,Try.ntmps53
 go_wp2_with (first | ((with_reducible refine gate_dst (N:=4) rfl ?_);refine Kd.R_lit (Kd.int .u8) _ 5 ?hg (N:=4) ?hd (xs:=([] : List Int)) (inner:=[]) (ok:=fun _=>True) (okp:=fun _=>True) ?hr ?hp (fun _ hk=>hk) trivial (Below.refl _ _) (Nat.le_refl _) (by simp) ?_;(case hd=>rfl);(case hg=>rfl);(case hr=>first | (go_simp;done) | (go_simp;rfl));(case hp=>exact (Reps.none _ _));intro v255 w2 ho3 hb hg_ hnew_;clear hg_ hnew_;(first | rw [← Ny254.out] at ho3 | (simp only [Int.reduceToNat] at ho3;rw [← Ny254.out] at ho3));have n0_:=zMk (Kd.R_lower ho3 (below_size (hs HB)));have n1_:=zMk (below_step (hs HB) hb);clear HB;have HO256:=n0_;have HB:=n1_;clear n0_ n1_;clear hb ho3));go_loopg [0,3] k (fun kq v0 v3 w'=>∃ (x0_1 : Int) (x3_1 : List Int),v0 = .int .i64 x0_1 ∧ Aside0 (spec_l01Var.l0 kq x0_1 x3_1 = some r) ∧ Aside0 (kq ≤ k) ∧ Aside0 (Kd.R (Kd.int .u8) 5 w' w.heap.size (fun _=>True) v3 x3_1) ∧ Aside0 (Below w.heap.size w w'));case atStart=>exact ⟨(a0),(y254),(by first | rfl | (simp;done) | (simp [*];done)),H',⟨Nat.le_refl _⟩,⟨rs HO256⟩,⟨hs HB⟩⟩
 case round =>
  clear H'
  try clear p2
  obtain ⟨x0_1,x3_1,rfl,HA,HK1,HO_3,HB⟩:=hrel;cases gk with
  | zero=>exact absurd HA.out (by simp [spec_l01Var.l0])
  | succ k1 =>
   have H:=HA.out;clear HA;simp only [spec_l01Var.l0] at H
   by_cases c4 : x0_1 > 127
   ·rw [if_pos c4] at H;have c4b0 : decide (127 < x0_1) = true:=decide_eq_true c4;clear c4
    by_cases c5 : x3_1.length < 140737488355328
    ·rw [if_pos c5] at H;have LMc5:=zMk c5;clear c5;obtain ⟨y257,hy257⟩ : ∃ y_ : List Int,y_ = (x3_1 ++ [(wrap64 ((Int.tmod x0_1 128) + 128)) % 256]):=⟨_,rfl⟩;replace H : (spec_l01Var.l0 k1 (wrap64 (Int.tdiv x0_1 128)) y257) = some r:=by first | (rw [hy257];with_reducible exact H) | (have H2_:=(Option.bind_some _ _).symm.trans H;rw [hy257];with_reducible exact H2_) | (have H2_:=(Option.bind_some _ _).symm.trans H;with_reducible exact H2_) | with_reducible exact H | (rw [hy257];exact H) | exact H
     have Ny257:=zMk hy257;clear hy257;have H':=zMk H;clear H;go_wp2_with (first | ((with_reducible refine gate_builtin (b:=.append) (xs:=#[.tmp 7,.tmp 12]) rfl ?_);at_builtin;refine Kd.R_append (Kd.int .u8) (w0:=w) w.heap.size rfl (.tmp 7) (.tmp 12) 22 5 (.int .u8 0) 1 rfl Try.underlying22 info5 rfl (by decide) (by omega) u3 x3_1 ((wrap64 ((Int.tmod x0_1 128) + 128)) % 256) [.int .u8 ((wrap64 ((Int.tmod x0_1 128) + 128)) % 256)] (fun _=>True) (fun _=>False) rfl rfl ?aP (fun _ hk=>hk.elim) ?aF ?aO ?aB ?aS ?aL ?_;(case aP=>exact rfl);(case aB=>exact (hs HB));(case aF=>exact (fun _ _=>trivial));(case aO=>exact (rs HO_3));(case aS=>exact (below_size (hs HB)));(case aL=>have:=LMc5.out;omega);intro v258 w6 ho hb hg hat;rw [← Ny257.out] at ho;have n0_:=zMk (hb);have n1_:=zMk (ho);clear HB;clear HO_3;have HB:=n0_;have HO259:=n1_;clear n0_ n1_;clear ho hb hg hat));go_roundg k1;case measure=>have:=HK1.out;omega
     case rel=>exact ⟨(wrap64 (Int.tdiv x0_1 128)),(y257),(by first | rfl | (simp;done) | (simp [*];done)),H',⟨by have:=HK1.out;omega⟩,⟨rs HO259⟩,⟨hs HB⟩⟩
    rw [if_neg c5] at H;exact absurd H (by simp)
   rw [if_neg c4] at H;have c4b0 : decide (127 < x0_1) = false:=decide_eq_false c4;clear c4
   by_cases c7 : x3_1.length < 140737488355328
   ·rw [if_pos c7] at H;have LMc7:=zMk c7;clear c7;obtain ⟨y260,hy260⟩ : ∃ y_ : List Int,y_ = (x3_1 ++ [(x0_1) % 256]):=⟨_,rfl⟩;replace H : (some (strOfNums y260)) = some r:=by first | (rw [hy260];with_reducible exact H) | (have H2_:=(Option.bind_some _ _).symm.trans H;rw [hy260];with_reducible exact H2_) | (have H2_:=(Option.bind_some _ _).symm.trans H;with_reducible exact H2_) | with_reducible exact H | (rw [hy260];exact H) | exact H
    have Ny260:=zMk hy260;clear hy260;obtain rfl:=Option.some.inj H;go_wp2_with (first | ((with_reducible refine gate_builtin (b:=.append) (xs:=#[.tmp 16,.tmp 19]) rfl ?_);at_builtin;refine Kd.R_append (Kd.int .u8) (w0:=w) w.heap.size rfl (.tmp 16) (.tmp 19) 22 5 (.int .u8 0) 1 rfl Try.underlying22 info5 rfl (by decide) (by omega) u3 x3_1 ((x0_1) % 256) [.int .u8 ((x0_1) % 256)] (fun _=>True) (fun _=>False) rfl rfl ?aP (fun _ hk=>hk.elim) ?aF ?aO ?aB ?aS ?aL ?_;(case aP=>exact rfl);(case aB=>exact (hs HB));(case aF=>exact (fun _ _=>trivial));(case aO=>exact (rs HO_3));(case aS=>exact (below_size (hs HB)));(case aL=>have:=LMc7.out;omega);intro v261 w8 ho hb hg hat;rw [← Ny260.out] at ho;have n0_:=zMk (hb);have n1_:=zMk (ho);clear HB;clear HO_3;have HB:=n0_;have HO262:=n1_;clear n0_ n1_;clear ho hb hg hat;have hcv9:=own_string (P:=Try.prog) Try.underlying22 Try.underlying5 Try.underlying9 (Kd.own_of_R HO262.out)))
    go_ret
    exact ⟨by first | rfl | (simp [errW_none,errW_some] <;> rfl) | (simp [*,errW_none,errW_some] <;> rfl),hs HB⟩
   rw [if_neg c7] at H;exact absurd H (by simp)
mutual
def spec_ReadVar.l0 : Nat → ByteArray → Int → Int → Int → Int → Option (Int × Int × Bool)
 | 0,_,_,_,_,_=>none
 | k + 1,x0,x1,x7,x8,x9=>if x9 < (x0.size : Int) then (spec_ReadVar.j1 k x0 x1 x7 x8 x9 (decide (x9 < (wrap64 (x1 + 5))))) else (spec_ReadVar.j1 k x0 x1 x7 x8 x9 false)
def spec_ReadVar.j1 : Nat → ByteArray → Int → Int → Int → Int → Bool → Option (Int × Int × Bool)
 | 0,_,_,_,_,_,_=>none
 | k + 1,x0,x1,x7,x8,x9,x25=>if x25 = true then (if 0 ≤ x9 then (if x9 < (x0.size : Int) then (if (bt x0 x9) < 128 then (if (wrap64 (x7 + (wrap64 ((Int.tmod (wrap64 (bt x0 x9)) 128) * x8)))) > 1000000000 then (some (0,0,false)) else ((spec_l01Var.f k (wrap64 (x7 + (wrap64 ((Int.tmod (wrap64 (bt x0 x9)) 128) * x8))))).bind fun t662=>(if 0 ≤ x1 then (if x1 ≤ (wrap64 (x9 + 1)) then (if (wrap64 (x9 + 1)) ≤ (x0.size : Int) then (if t662.toList = (x0.extract (x1 : Int).toNat ((wrap64 (x9 + 1)) : Int).toNat).toList then (some (wrap64 (x7 + (wrap64 ((Int.tmod (wrap64 (bt x0 x9)) 128) * x8))),wrap64 (x9 + 1),true)) else (some (0,0,false))) else (none)) else (none)) else (none)))) else (spec_ReadVar.l0 k x0 x1 (wrap64 (x7 + (wrap64 ((Int.tmod (wrap64 (bt x0 x9)) 128) * x8)))) (wrap64 (x8 * 128)) (wrap64 (x9 + 1)))) else (none)) else (none)) else (some (0,0,false))
end
def spec_ReadVar.f (k : Nat) (a0 : ByteArray) (a1 : Int) : Option (Int × Int × Bool):=(spec_l01In.f a1 0 (a0.size : Int)).bind fun t661=>(if t661 = true then (spec_ReadVar.l0 k a0 a1 0 1 a1) else (some (0,0,false)))
theorem spec_ReadVar.mono_l : ∀ k,(∀ y0 y1 y2 y3 y4,LeO (spec_ReadVar.l0 k y0 y1 y2 y3 y4) (spec_ReadVar.l0 (k + 1) y0 y1 y2 y3 y4)) ∧ (∀ y0 y1 y2 y3 y4 y5,LeO (spec_ReadVar.j1 k y0 y1 y2 y3 y4 y5) (spec_ReadVar.j1 (k + 1) y0 y1 y2 y3 y4 y5))
 | 0=>⟨fun _ _ _ _ _ r h=>by simp [spec_ReadVar.l0] at h,fun _ _ _ _ _ _ r h=>by simp [spec_ReadVar.j1] at h⟩
 | k + 1=>by
  obtain ⟨ih0,ih1⟩:=spec_ReadVar.mono_l k;refine ⟨?_,?_⟩
  ·intro y0 y1 y2 y3 y4;unfold spec_ReadVar.l0
   repeat' first
   | (with_reducible exact ih0 _ _ _ _ _)
   | (with_reducible exact ih1 _ _ _ _ _ _)
   | (with_reducible exact spec_l01Var.mono _ _)
   | (with_reducible exact LeO.refl _)
   | (with_reducible exact LeO.none _)
   | (with_reducible refine LeO.ite ?_ ?_)
   | (with_reducible refine LeO.bind ?_ (fun _=>?_))
   | exact ih0 _ _ _ _ _
   | exact ih1 _ _ _ _ _ _
   | exact spec_l01Var.mono _ _
   | exact LeO.none _
   | refine LeO.ite ?_ ?_
   | refine LeO.bind ?_ (fun _=>?_)
  intro y0 y1 y2 y3 y4 y5;unfold spec_ReadVar.j1
  repeat' first
  | (with_reducible exact ih0 _ _ _ _ _)
  | (with_reducible exact ih1 _ _ _ _ _ _)
  | (with_reducible exact spec_l01Var.mono _ _)
  | (with_reducible exact LeO.refl _)
  | (with_reducible exact LeO.none _)
  | (with_reducible refine LeO.ite ?_ ?_)
  | (with_reducible refine LeO.bind ?_ (fun _=>?_))
  | exact ih0 _ _ _ _ _
  | exact ih1 _ _ _ _ _ _
  | exact spec_l01Var.mono _ _
  | exact LeO.none _
  | refine LeO.ite ?_ ?_
  | refine LeO.bind ?_ (fun _=>?_)
theorem spec_ReadVar.mono : ∀ a0 a1 k,LeO (spec_ReadVar.f k a0 a1) (spec_ReadVar.f (k + 1) a0 a1):=by
 intro a0 a1 k;obtain ⟨ih0,ih1⟩:=spec_ReadVar.mono_l k;unfold spec_ReadVar.f
 repeat' first
   | (with_reducible exact ih0 _ _ _ _ _)
   | (with_reducible exact ih1 _ _ _ _ _ _)
   | (with_reducible exact spec_l01Var.mono _ _)
   | (with_reducible exact LeO.refl _)
   | (with_reducible exact LeO.none _)
   | (with_reducible refine LeO.ite ?_ ?_)
   | (with_reducible refine LeO.bind ?_ (fun _=>?_))
   | exact ih0 _ _ _ _ _
   | exact ih1 _ _ _ _ _ _
   | exact spec_l01Var.mono _ _
   | exact LeO.none _
   | refine LeO.ite ?_ ?_
   | refine LeO.bind ?_ (fun _=>?_)
def spec_ReadVar.T11 : Bool × List (List Nat × List Nat):=(true,[([],[]),([0],[0]),([1],[1]),([2],[2]),([3,2,2],[2,3]),([2],[2]),([2],[2]),([2],[2]),([7,2],[2,7]),([5,6,8,2],[2,5,6,8]),([4,9,2],[2,4,9]),([2,10],[2,10])])
def spec_ReadVar.B11 : List Nat:=[0,1,3,7,15,7,7,7,135,487,1023,2047]
theorem spec_ReadVar.tab11 : rtab .any (opsOf Try.f80 11) = spec_ReadVar.T11:=by kernel_rfl
theorem spec_ReadVar.bits11 : waitsOk spec_ReadVar.T11.2 spec_ReadVar.B11 = true:=by kernel_rfl
set_option maxHeartbeats 8000000 in
set_option maxRecDepth 100000 in
theorem spec_ReadVar.calls (k : Nat) (a0 : ByteArray) (a1 : Int) (r1 : Int) (r2 : Int) (r3 : Bool) (w : World) (h : spec_ReadVar.f k a0 a1 = some (r1,r2,r3)) :
  Calls Try.prog 80 #[.string a0,.int .i64 a1] w fun e w'=>e = .returned (.tuple #[.int .i64 r1,.int .i64 r2,.bool r3]) ∧ Below w.heap.size w w':=by
 have HB:=zMk (Below.refl w.heap.size w);have H : ((spec_l01In.f a1 0 (a0.size : Int)).bind fun t661=>(if t661 = true then (spec_ReadVar.l0 k a0 a1 0 1 a1) else (some (0,0,false)))) = some (r1,r2,r3):=h;clear h;replace H:=Option.bind_eq_some_iff.mp H;obtain ⟨t661,A30,H⟩:=H;replace H : (if t661 = true then (spec_ReadVar.l0 k a0 a1 0 1 a1) else (some (0,0,false))) = some (r1,r2,r3):=H;have A3:=zMk A30;clear A30
 by_cases c4 : t661 = true
 ·subst c4;have H1 : (spec_ReadVar.l0 k a0 a1 0 1 a1) = some (r1,r2,r3):=by rw [if_pos rfl] at H;exact H
  clear H;have H:=H1;clear H1;have H':=zMk H;clear H
  go_enter Try.func80,Try.ntmps80
  go_wp2_with (first | ((with_reducible refine gate_callee (f:=34) rfl ?_);refine goesL_ (some 13) rfl rfl Try.func34 (by kernel_rfl) rfl #[.int .i64 a1,.int .i64 0,.int .i64 (a0.size : Int)] rfl (by (try simp only [List.map_toArray,List.map_cons,List.map_nil]);first | done | rfl | (simp only [List.length_drop,List.length_take];rfl)) ?_;(with_reducible refine (spec_l01In.calls a1 0 (a0.size : Int) true _ A3.out).mono ?_);rintro e w' ⟨rfl,⟨nd,rfl⟩⟩;refine ⟨_,rfl,?_⟩));go_loopg [7,8,9] k (fun kq v7 v8 v9 w'=>∃ (x7_1 : Int) (x8_1 : Int) (x9_1 : Int),v7 = .int .i64 x7_1 ∧ v8 = .int .i64 x8_1 ∧ v9 = .int .i64 x9_1 ∧ Aside0 (spec_ReadVar.l0 kq a0 a1 x7_1 x8_1 x9_1 = some (r1,r2,r3)) ∧ Aside0 (kq ≤ k) ∧ Aside0 (Below w.heap.size w w'));case atStart=>exact ⟨(0),(1),(a1),(by first | rfl | (simp;done) | (simp [*];done)),(by first | rfl | (simp;done) | (simp [*];done)),(by first | rfl | (simp;done) | (simp [*];done)),H',⟨Nat.le_refl _⟩,⟨hs HB⟩⟩
  case round =>
   clear H'
   try clear p2
   try clear c3
   try clear c4
   obtain ⟨x7_1,x8_1,x9_1,rfl,rfl,rfl,HA,HK1,HB⟩:=hrel;cases gk with
   | zero=>exact absurd HA.out (by simp [spec_ReadVar.l0])
   | succ k1 =>
    have H:=HA.out;clear HA;simp only [spec_ReadVar.l0] at H;have HC5:=zMk H;clear H;go_upto_region 6 with (fail);go_cut [25] (fun v25 wc=>∃ (kq : Nat) (x25_4 : Bool),v25 = .bool x25_4 ∧ Aside0 (spec_ReadVar.j1 kq a0 a1 x7_1 x8_1 x9_1 x25_4 = some (r1,r2,r3)) ∧ Aside0 (kq ≤ k1) ∧ Aside0 (Below w.heap.size w wc))
    case first =>
     have H:=HC5.out;clear HC5
     by_cases c6 : x9_1 < (a0.size : Int)
     ·rw [if_pos c6] at H;have c6b0 : decide (x9_1 < (a0.size : Int)) = true:=decide_eq_true c6;clear c6
      (first | rw [c6b0] | (simp only [i64_w,i32_w];rw [c6b0]) | skip)
      have H':=zMk H;clear H
      go_wp2
      go_meet
      case rel=>exact ⟨_,(decide (x9_1 < (wrap64 (a1 + 5)))),(by first | rfl | (simp;done) | (simp [*];done)),H',⟨by have:=HK1.out;first | omega | exact Nat.le_refl _⟩,⟨hs HB⟩⟩
     rw [if_neg c6] at H;have c6b0 : decide (x9_1 < (a0.size : Int)) = false:=decide_eq_false c6;clear c6
     (first | rw [c6b0] | (simp only [i64_w,i32_w];rw [c6b0]) | skip)
     have H':=zMk H;clear H
     go_wp2
     go_meet
     case rel=>exact ⟨_,(false),(by first | rfl | (simp;done) | (simp [*];done)),H',⟨by have:=HK1.out;first | omega | exact Nat.le_refl _⟩,⟨hs HB⟩⟩
    case rest =>
     clear HC5
     try clear p2
     try clear c3
     try clear c4
     try clear c6
     try clear c6b0
     try clear p6
     try clear p2
     obtain ⟨kq,x25_4,rfl,HA,HJ4,HB⟩:=hcut;cases kq with
     | zero=>exact absurd HA.out (by simp [spec_ReadVar.j1])
     | succ kj4 =>
      have H:=HA.out;clear HA;simp only [spec_ReadVar.j1] at H
      by_cases c7 : x25_4 = true
      ·subst c7;have H1 : (if 0 ≤ x9_1 then (if x9_1 < (a0.size : Int) then (if (bt a0 x9_1) < 128 then (if (wrap64 (x7_1 + (wrap64 ((Int.tmod (wrap64 (bt a0 x9_1)) 128) * x8_1)))) > 1000000000 then (some (0,0,false)) else ((spec_l01Var.f kj4 (wrap64 (x7_1 + (wrap64 ((Int.tmod (wrap64 (bt a0 x9_1)) 128) * x8_1))))).bind fun t662=>(if 0 ≤ a1 then (if a1 ≤ (wrap64 (x9_1 + 1)) then (if (wrap64 (x9_1 + 1)) ≤ (a0.size : Int) then (if t662.toList = (a0.extract (a1 : Int).toNat ((wrap64 (x9_1 + 1)) : Int).toNat).toList then (some (wrap64 (x7_1 + (wrap64 ((Int.tmod (wrap64 (bt a0 x9_1)) 128) * x8_1))),wrap64 (x9_1 + 1),true)) else (some (0,0,false))) else (none)) else (none)) else (none)))) else (spec_ReadVar.l0 kj4 a0 a1 (wrap64 (x7_1 + (wrap64 ((Int.tmod (wrap64 (bt a0 x9_1)) 128) * x8_1)))) (wrap64 (x8_1 * 128)) (wrap64 (x9_1 + 1)))) else (none)) else (none)) = some (r1,r2,r3):=by rw [if_pos rfl] at H;exact H
       clear H;have H:=H1;clear H1
       by_cases c8 : 0 ≤ x9_1
       ·rw [if_pos c8] at H;have c8b0 : decide (0 ≤ x9_1) = true:=decide_eq_true c8;clear c8
        by_cases c9 : x9_1 < (a0.size : Int)
        ·rw [if_pos c9] at H;have c9b0 : decide (x9_1 < (a0.size : Int)) = true:=decide_eq_true c9;clear c9
         by_cases c12 : (bt a0 x9_1) < 128
         ·rw [if_pos c12] at H;have c12b0 : decide ((bt a0 x9_1) < 128) = true:=decide_eq_true c12;clear c12
          by_cases c13 : (wrap64 (x7_1 + (wrap64 ((Int.tmod (wrap64 (bt a0 x9_1)) 128) * x8_1)))) > 1000000000
          ·rw [if_pos c13] at H;have c13b0 : decide (1000000000 < (wrap64 (x7_1 + (wrap64 ((Int.tmod (wrap64 (bt a0 x9_1)) 128) * x8_1))))) = true:=decide_eq_true c13;clear c13;simp only [Option.some.injEq,Prod.mk.injEq] at H;obtain ⟨rfl,rfl,rfl⟩:=H;have p10 : 0 ≤ (x9_1 : Int):=zDe (by first | (with_reducible assumption) | assumption);have q10 : x9_1 < (a0.size : Int):=zDe (by first | (with_reducible assumption) | assumption);have hx10:=bt_at a0 x9_1;replace p10:=eq_true p10;replace q10:=eq_true q10;have p11 : 0 ≤ (x9_1 : Int):=zDe (by first | (with_reducible assumption) | assumption);have q11 : x9_1 < (a0.size : Int):=zDe (by first | (with_reducible assumption) | assumption);have hx11:=bt_at a0 x9_1;replace p11:=eq_true p11;replace q11:=eq_true q11
           try go_wp2
           have n0_:=zMk (below_drew1 HB.out);clear HB;have HB:=n0_;clear n0_;refine start_ (n:=12) (S:=fun w'=>True) (ds:=[]) #[false,false,false,false,false,false,false,false,false,false,false,false] (by kernel_rfl) rfl rfl trivial (fun hHeld=>?_);refine with_tabW spec_ReadVar.tab11 spec_ReadVar.bits11 (fun HT_ HW_=>?_);generalize wc.drew = w14 at HB hHeld ⊢;refine pure_ (i:=0) (N:=some 43) (v:=?_) (a':=?_) #[true,false,false,false,false,false,false,false,false,false,false,false] rfl rfl (any_of HT_.out (by kernel_rfl)) (fun _ _ _ h=>h) (Or.inl ⟨by rfl,?_⟩) ?_ ?_;rotate_left
           ·intro w';go_simp;with_reducible rfl
           rotate_left
           ·simp only [Act.put,zS1,zS2,zS3,i64_w,i32_w];rfl
           refine pure_ (i:=1) (N:=some 44) (v:=?_) (a':=?_) #[true,true,false,false,false,false,false,false,false,false,false,false] rfl rfl (any_of HT_.out (by kernel_rfl)) (fun _ _ _ h=>h) (Or.inl ⟨by rfl,?_⟩) ?_ ?_;rotate_left
           ·intro w';go_simp;with_reducible rfl
           rotate_left
           ·simp only [Act.put,zS1,zS2,zS3,i64_w,i32_w];rfl
           refine pure_ (i:=2) (N:=some 45) (v:=?_) (a':=?_) #[true,true,true,false,false,false,false,false,false,false,false,false] rfl rfl (any_of HT_.out (by kernel_rfl)) (fun _ _ _ h=>h) (Or.inl ⟨by rfl,?_⟩) ?_ ?_;rotate_left
           ·intro w';go_simp;with_reducible rfl
           rotate_left
           ·simp only [Act.put,zS1,zS2,zS3,i64_w,i32_w];rfl
           refine pure_ (i:=3) (N:=some 46) (v:=undef) (a':=?_) #[true,true,true,true,false,false,false,false,false,false,false,false] rfl rfl (any_of HT_.out (by kernel_rfl)) (fun _ _ _ h=>h) (Or.inr ⟨by rfl,rfl⟩) ?_ ?_;rotate_left
           ·simp only [Act.put,zS1,zS2,zS3,i64_w,i32_w];rfl
           refine pure_ (i:=4) (N:=some 47) (v:=undef) (a':=?_) #[true,true,true,true,true,false,false,false,false,false,false,false] rfl rfl (any_of HT_.out (by kernel_rfl)) (fun _ _ _ h=>h) (Or.inr ⟨by rfl,rfl⟩) ?_ ?_;rotate_left
           ·simp only [Act.put,zS1,zS2,zS3,i64_w,i32_w];rfl
           refine pure_ (i:=5) (N:=some 48) (v:=undef) (a':=?_) #[true,true,true,true,true,true,false,false,false,false,false,false] rfl rfl (any_of HT_.out (by kernel_rfl)) (fun _ _ _ h=>h) (Or.inr ⟨by rfl,rfl⟩) ?_ ?_;rotate_left
           ·simp only [Act.put,zS1,zS2,zS3,i64_w,i32_w];rfl
           refine pure_ (i:=6) (N:=some 49) (v:=undef) (a':=?_) #[true,true,true,true,true,true,true,false,false,false,false,false] rfl rfl (any_of HT_.out (by kernel_rfl)) (fun _ _ _ h=>h) (Or.inr ⟨by rfl,rfl⟩) ?_ ?_;rotate_left
           ·simp only [Act.put,zS1,zS2,zS3,i64_w,i32_w];rfl
           refine pure_ (i:=7) (N:=some 50) (v:=undef) (a':=?_) #[true,true,true,true,true,true,true,true,false,false,false,false] rfl rfl (any_of HT_.out (by kernel_rfl)) (fun _ _ _ h=>h) (Or.inr ⟨by rfl,rfl⟩) ?_ ?_;rotate_left
           ·simp only [Act.put,zS1,zS2,zS3,i64_w,i32_w];rfl
           refine pure_ (i:=8) (N:=some 51) (v:=undef) (a':=?_) #[true,true,true,true,true,true,true,true,true,false,false,false] rfl rfl (any_of HT_.out (by kernel_rfl)) (fun _ _ _ h=>h) (Or.inr ⟨by rfl,rfl⟩) ?_ ?_;rotate_left
           ·simp only [Act.put,zS1,zS2,zS3,i64_w,i32_w];rfl
           refine pure_ (i:=9) (N:=some 52) (v:=undef) (a':=?_) #[true,true,true,true,true,true,true,true,true,true,false,false] rfl rfl (any_of HT_.out (by kernel_rfl)) (fun _ _ _ h=>h) (Or.inr ⟨by rfl,rfl⟩) ?_ ?_;rotate_left
           ·simp only [Act.put,zS1,zS2,zS3,i64_w,i32_w];rfl
           refine pure_ (i:=10) (N:=some 53) (v:=undef) (a':=?_) #[true,true,true,true,true,true,true,true,true,true,true,false] rfl rfl (any_of HT_.out (by kernel_rfl)) (fun _ _ _ h=>h) (Or.inr ⟨by rfl,rfl⟩) ?_ ?_;rotate_left
           ·simp only [Act.put,zS1,zS2,zS3,i64_w,i32_w];rfl
           refine pure_ (i:=11) (N:=some 54) (v:=?_) (a':=?_) #[true,true,true,true,true,true,true,true,true,true,true,true] rfl rfl (any_of HT_.out (by kernel_rfl)) (fun _ _ _ h=>h) (Or.inl ⟨by rfl,?_⟩) ?_ ?_;rotate_left
           ·intro w';go_simp;with_reducible rfl
           rotate_left
           ·simp only [Act.put,zS1,zS2,zS3,i64_w,i32_w];rfl
           refine done_ (done_of HT_.out (by kernel_rfl)) ?_
           try go_wp2
           go_ret3
           exact ⟨by first | rfl | (simp [errW_none,errW_some] <;> rfl) | (simp [*,errW_none,errW_some] <;> rfl),hs HB⟩
          rw [if_neg c13] at H;have c13b0 : decide (1000000000 < (wrap64 (x7_1 + (wrap64 ((Int.tmod (wrap64 (bt a0 x9_1)) 128) * x8_1))))) = false:=decide_eq_false c13;clear c13;replace H:=Option.bind_eq_some_iff.mp H;obtain ⟨t662,A150,H⟩:=H;replace H : (if 0 ≤ a1 then (if a1 ≤ (wrap64 (x9_1 + 1)) then (if (wrap64 (x9_1 + 1)) ≤ (a0.size : Int) then (if t662.toList = (a0.extract (a1 : Int).toNat ((wrap64 (x9_1 + 1)) : Int).toNat).toList then (some (wrap64 (x7_1 + (wrap64 ((Int.tmod (wrap64 (bt a0 x9_1)) 128) * x8_1))),wrap64 (x9_1 + 1),true)) else (some (0,0,false))) else (none)) else (none)) else (none)) = some (r1,r2,r3):=H;have A15:=zMk A150;clear A150
          by_cases c16 : 0 ≤ a1
          ·rw [if_pos c16] at H;have c16b0:=eq_true c16;have c16b1 : decide (0 ≤ a1) = true:=decide_eq_true c16;clear c16
           by_cases c17 : a1 ≤ (wrap64 (x9_1 + 1))
           ·rw [if_pos c17] at H;have c17b0:=eq_true c17;have c17b1 : decide (a1 ≤ (wrap64 (x9_1 + 1))) = true:=decide_eq_true c17
            by_cases c18 : (wrap64 (x9_1 + 1)) ≤ (a0.size : Int)
            ·rw [if_pos c18] at H;have c18b0:=eq_true c18;have c18b1 : decide ((wrap64 (x9_1 + 1)) ≤ (a0.size : Int)) = true:=decide_eq_true c18
             by_cases c19 : t662.toList = (a0.extract (a1 : Int).toNat ((wrap64 (x9_1 + 1)) : Int).toNat).toList
             ·rw [if_pos c19] at H;have c19b0 : (t662.toList == (a0.extract (a1 : Int).toNat ((wrap64 (x9_1 + 1)) : Int).toNat).toList) = true:=beq_iff_eq.mpr c19;have c19b1 : (t662.toList != (a0.extract (a1 : Int).toNat ((wrap64 (x9_1 + 1)) : Int).toNat).toList) = false:=bne_eq_false_iff_eq.mpr c19;clear c19;simp only [Option.some.injEq,Prod.mk.injEq] at H;obtain ⟨rfl,rfl,rfl⟩:=H;have p10 : 0 ≤ (x9_1 : Int):=zDe (by first | (with_reducible assumption) | assumption);have q10 : x9_1 < (a0.size : Int):=zDe (by first | (with_reducible assumption) | assumption);have hx10:=bt_at a0 x9_1;replace p10:=eq_true p10;replace q10:=eq_true q10;have p11 : 0 ≤ (x9_1 : Int):=zDe (by first | (with_reducible assumption) | assumption);have q11 : x9_1 < (a0.size : Int):=zDe (by first | (with_reducible assumption) | assumption);have hx11:=bt_at a0 x9_1;replace p11:=eq_true p11;replace q11:=eq_true q11
              try go_wp2
              have n0_:=zMk (below_drew1 HB.out);clear HB;have HB:=n0_;clear n0_;refine start_ (n:=12) (S:=fun w'=>True) (ds:=[]) #[false,false,false,false,false,false,false,false,false,false,false,false] (by kernel_rfl) rfl rfl trivial (fun hHeld=>?_);refine with_tabW spec_ReadVar.tab11 spec_ReadVar.bits11 (fun HT_ HW_=>?_);generalize wc.drew = w20 at HB hHeld ⊢;refine pure_ (i:=0) (N:=some 43) (v:=?_) (a':=?_) #[true,false,false,false,false,false,false,false,false,false,false,false] rfl rfl (any_of HT_.out (by kernel_rfl)) (fun _ _ _ h=>h) (Or.inl ⟨by rfl,?_⟩) ?_ ?_;rotate_left
              ·intro w';go_simp;with_reducible rfl
              rotate_left
              ·simp only [Act.put,zS1,zS2,zS3,i64_w,i32_w];rfl
              refine pure_ (i:=1) (N:=some 44) (v:=?_) (a':=?_) #[true,true,false,false,false,false,false,false,false,false,false,false] rfl rfl (any_of HT_.out (by kernel_rfl)) (fun _ _ _ h=>h) (Or.inl ⟨by rfl,?_⟩) ?_ ?_;rotate_left
              ·intro w';go_simp;with_reducible rfl
              rotate_left
              ·simp only [Act.put,zS1,zS2,zS3,i64_w,i32_w];rfl
              refine pure_ (i:=2) (N:=some 45) (v:=?_) (a':=?_) #[true,true,true,false,false,false,false,false,false,false,false,false] rfl rfl (any_of HT_.out (by kernel_rfl)) (fun _ _ _ h=>h) (Or.inl ⟨by rfl,?_⟩) ?_ ?_;rotate_left
              ·intro w';go_simp;with_reducible rfl
              rotate_left
              ·simp only [Act.put,zS1,zS2,zS3,i64_w,i32_w];rfl
              refine pure_ (i:=3) (N:=some 46) (v:=?_) (a':=?_) #[true,true,true,true,false,false,false,false,false,false,false,false] rfl rfl (any_of HT_.out (by kernel_rfl)) (fun _ _ _ h=>h) (Or.inl ⟨by rfl,?_⟩) ?_ ?_;rotate_left
              ·intro w';go_simp;with_reducible rfl
              rotate_left
              ·simp only [Act.put,zS1,zS2,zS3,i64_w,i32_w];rfl
              refine pure_ (i:=5) (N:=some 48) (v:=?_) (a':=?_) #[true,true,true,true,false,true,false,false,false,false,false,false] rfl rfl (any_of HT_.out (by kernel_rfl)) (fun _ _ _ h=>h) (Or.inl ⟨by rfl,?_⟩) ?_ ?_;rotate_left
              ·intro w';go_simp;with_reducible rfl
              rotate_left
              ·simp only [Act.put,zS1,zS2,zS3,i64_w,i32_w];rfl
              refine pure_ (i:=6) (N:=some 49) (v:=?_) (a':=?_) #[true,true,true,true,false,true,true,false,false,false,false,false] rfl rfl (any_of HT_.out (by kernel_rfl)) (fun _ _ _ h=>h) (Or.inl ⟨by rfl,?_⟩) ?_ ?_;rotate_left
              ·intro w';go_simp;with_reducible rfl
              rotate_left
              ·simp only [Act.put,zS1,zS2,zS3,i64_w,i32_w];rfl
              refine pure_ (i:=7) (N:=some 50) (v:=?_) (a':=?_) #[true,true,true,true,false,true,true,true,false,false,false,false] rfl rfl (any_of HT_.out (by kernel_rfl)) (fun _ _ _ h=>h) (Or.inl ⟨by rfl,?_⟩) ?_ ?_;rotate_left
              ·intro w';go_simp;with_reducible rfl
              rotate_left
              ·simp only [Act.put,zS1,zS2,zS3,i64_w,i32_w];rfl
              refine pure_ (i:=8) (N:=some 51) (v:=?_) (a':=?_) #[true,true,true,true,false,true,true,true,true,false,false,false] rfl rfl (any_of HT_.out (by kernel_rfl)) (fun _ _ _ h=>h) (Or.inl ⟨by rfl,?_⟩) ?_ ?_;rotate_left
              ·intro w';go_simp;with_reducible rfl
              rotate_left
              ·simp only [Act.put,zS1,zS2,zS3,i64_w,i32_w];rfl
              refine pure_ (i:=9) (N:=some 52) (v:=?_) (a':=?_) #[true,true,true,true,false,true,true,true,true,true,false,false] rfl rfl (any_of HT_.out (by kernel_rfl)) (fun _ _ _ h=>h) (Or.inl ⟨by rfl,?_⟩) ?_ ?_;rotate_left
              ·intro w';go_simp;with_reducible rfl
              rotate_left
              ·simp only [Act.put,zS1,zS2,zS3,i64_w,i32_w];rfl
              refine one_ (i:=4) (N:=some 47) #[true,true,true,true,true,true,true,true,true,true,false,false] rfl rfl (one_of HT_.out (by kernel_rfl)) (by decide) (fun K hK=>?_);refine goes_ Try.func53 (by kernel_rfl) rfl #[.int .i64 (wrap64 (x7_1 + (wrap64 ((Int.tmod (wrap64 (bt a0 x9_1)) 128) * x8_1))))] (by rfl) rfl rfl (by (try simp only [List.map_toArray,List.map_cons,List.map_nil]);first | done | rfl | (simp only [List.length_drop,List.length_take];rfl)) ?_;with_reducible refine (spec_l01Var.calls kj4 (wrap64 (x7_1 + (wrap64 ((Int.tmod (wrap64 (bt a0 x9_1)) 128) * x8_1)))) t662 _ A15.out).mono ?_
              rintro e w21 ⟨rfl,hb⟩;refine ⟨_,rfl,?_⟩;have n0_:=zMk (below_step (hs HB) hb);clear HB;have HB:=n0_;clear n0_
              (try clear hb)
              (try clear hb2)
              (try clear hk)
              (try clear hi)
              refine hK.out _ _ trivial (fun hHeld=>?_);clear hK K;refine norm_ (a':=?_) ?_ ?_;rotate_left
              ·show Act.put _ (some 47) _ = _;simp only [Act.put,zS1,zS2,zS3,i64_w,i32_w];rfl
              refine pure_ (i:=10) (N:=some 53) (v:=?_) (a':=?_) #[true,true,true,true,true,true,true,true,true,true,true,false] rfl rfl (any_of HT_.out (by kernel_rfl)) (fun _ _ _ h=>h) (Or.inl ⟨by rfl,?_⟩) ?_ ?_;rotate_left
              ·intro w';go_simp;with_reducible rfl
              rotate_left
              ·simp only [Act.put,zS1,zS2,zS3,i64_w,i32_w];rfl
              refine pure_ (i:=11) (N:=some 54) (v:=?_) (a':=?_) #[true,true,true,true,true,true,true,true,true,true,true,true] rfl rfl (any_of HT_.out (by kernel_rfl)) (fun _ _ _ h=>h) (Or.inl ⟨by rfl,?_⟩) ?_ ?_;rotate_left
              ·intro w';go_simp;with_reducible rfl
              rotate_left
              ·simp only [Act.put,zS1,zS2,zS3,i64_w,i32_w];rfl
              refine done_ (done_of HT_.out (by kernel_rfl)) ?_
              try go_wp2
              go_ret3
              exact ⟨by first | rfl | (simp [errW_none,errW_some] <;> rfl) | (simp [*,errW_none,errW_some] <;> rfl),hs HB⟩
             rw [if_neg c19] at H;have c19b0 : (t662.toList == (a0.extract (a1 : Int).toNat ((wrap64 (x9_1 + 1)) : Int).toNat).toList) = false:=beq_eq_false_iff_ne.mpr c19;have c19b1 : (t662.toList != (a0.extract (a1 : Int).toNat ((wrap64 (x9_1 + 1)) : Int).toNat).toList) = true:=bne_iff_ne.mpr c19;simp only [Option.some.injEq,Prod.mk.injEq] at H;obtain ⟨rfl,rfl,rfl⟩:=H;have p10 : 0 ≤ (x9_1 : Int):=zDe (by first | (with_reducible assumption) | assumption);have q10 : x9_1 < (a0.size : Int):=zDe (by first | (with_reducible assumption) | assumption);have hx10:=bt_at a0 x9_1;replace p10:=eq_true p10;replace q10:=eq_true q10;have p11 : 0 ≤ (x9_1 : Int):=zDe (by first | (with_reducible assumption) | assumption);have q11 : x9_1 < (a0.size : Int):=zDe (by first | (with_reducible assumption) | assumption);have hx11:=bt_at a0 x9_1;replace p11:=eq_true p11;replace q11:=eq_true q11
             try go_wp2
             have n0_:=zMk (below_drew1 HB.out);clear HB;have HB:=n0_;clear n0_;refine start_ (n:=12) (S:=fun w'=>True) (ds:=[]) #[false,false,false,false,false,false,false,false,false,false,false,false] (by kernel_rfl) rfl rfl trivial (fun hHeld=>?_);refine with_tabW spec_ReadVar.tab11 spec_ReadVar.bits11 (fun HT_ HW_=>?_);generalize wc.drew = w22 at HB hHeld ⊢;refine pure_ (i:=0) (N:=some 43) (v:=?_) (a':=?_) #[true,false,false,false,false,false,false,false,false,false,false,false] rfl rfl (any_of HT_.out (by kernel_rfl)) (fun _ _ _ h=>h) (Or.inl ⟨by rfl,?_⟩) ?_ ?_;rotate_left
             ·intro w';go_simp;with_reducible rfl
             rotate_left
             ·simp only [Act.put,zS1,zS2,zS3,i64_w,i32_w];rfl
             refine pure_ (i:=1) (N:=some 44) (v:=?_) (a':=?_) #[true,true,false,false,false,false,false,false,false,false,false,false] rfl rfl (any_of HT_.out (by kernel_rfl)) (fun _ _ _ h=>h) (Or.inl ⟨by rfl,?_⟩) ?_ ?_;rotate_left
             ·intro w';go_simp;with_reducible rfl
             rotate_left
             ·simp only [Act.put,zS1,zS2,zS3,i64_w,i32_w];rfl
             refine pure_ (i:=2) (N:=some 45) (v:=?_) (a':=?_) #[true,true,true,false,false,false,false,false,false,false,false,false] rfl rfl (any_of HT_.out (by kernel_rfl)) (fun _ _ _ h=>h) (Or.inl ⟨by rfl,?_⟩) ?_ ?_;rotate_left
             ·intro w';go_simp;with_reducible rfl
             rotate_left
             ·simp only [Act.put,zS1,zS2,zS3,i64_w,i32_w];rfl
             refine pure_ (i:=3) (N:=some 46) (v:=?_) (a':=?_) #[true,true,true,true,false,false,false,false,false,false,false,false] rfl rfl (any_of HT_.out (by kernel_rfl)) (fun _ _ _ h=>h) (Or.inl ⟨by rfl,?_⟩) ?_ ?_;rotate_left
             ·intro w';go_simp;with_reducible rfl
             rotate_left
             ·simp only [Act.put,zS1,zS2,zS3,i64_w,i32_w];rfl
             refine pure_ (i:=5) (N:=some 48) (v:=?_) (a':=?_) #[true,true,true,true,false,true,false,false,false,false,false,false] rfl rfl (any_of HT_.out (by kernel_rfl)) (fun _ _ _ h=>h) (Or.inl ⟨by rfl,?_⟩) ?_ ?_;rotate_left
             ·intro w';go_simp;with_reducible rfl
             rotate_left
             ·simp only [Act.put,zS1,zS2,zS3,i64_w,i32_w];rfl
             refine pure_ (i:=6) (N:=some 49) (v:=?_) (a':=?_) #[true,true,true,true,false,true,true,false,false,false,false,false] rfl rfl (any_of HT_.out (by kernel_rfl)) (fun _ _ _ h=>h) (Or.inl ⟨by rfl,?_⟩) ?_ ?_;rotate_left
             ·intro w';go_simp;with_reducible rfl
             rotate_left
             ·simp only [Act.put,zS1,zS2,zS3,i64_w,i32_w];rfl
             refine pure_ (i:=7) (N:=some 50) (v:=?_) (a':=?_) #[true,true,true,true,false,true,true,true,false,false,false,false] rfl rfl (any_of HT_.out (by kernel_rfl)) (fun _ _ _ h=>h) (Or.inl ⟨by rfl,?_⟩) ?_ ?_;rotate_left
             ·intro w';go_simp;with_reducible rfl
             rotate_left
             ·simp only [Act.put,zS1,zS2,zS3,i64_w,i32_w];rfl
             refine pure_ (i:=8) (N:=some 51) (v:=?_) (a':=?_) #[true,true,true,true,false,true,true,true,true,false,false,false] rfl rfl (any_of HT_.out (by kernel_rfl)) (fun _ _ _ h=>h) (Or.inl ⟨by rfl,?_⟩) ?_ ?_;rotate_left
             ·intro w';go_simp;with_reducible rfl
             rotate_left
             ·simp only [Act.put,zS1,zS2,zS3,i64_w,i32_w];rfl
             refine pure_ (i:=9) (N:=some 52) (v:=?_) (a':=?_) #[true,true,true,true,false,true,true,true,true,true,false,false] rfl rfl (any_of HT_.out (by kernel_rfl)) (fun _ _ _ h=>h) (Or.inl ⟨by rfl,?_⟩) ?_ ?_;rotate_left
             ·intro w';go_simp;with_reducible rfl
             rotate_left
             ·simp only [Act.put,zS1,zS2,zS3,i64_w,i32_w];rfl
             refine one_ (i:=4) (N:=some 47) #[true,true,true,true,true,true,true,true,true,true,false,false] rfl rfl (one_of HT_.out (by kernel_rfl)) (by decide) (fun K hK=>?_);refine goes_ Try.func53 (by kernel_rfl) rfl #[.int .i64 (wrap64 (x7_1 + (wrap64 ((Int.tmod (wrap64 (bt a0 x9_1)) 128) * x8_1))))] (by rfl) rfl rfl (by (try simp only [List.map_toArray,List.map_cons,List.map_nil]);first | done | rfl | (simp only [List.length_drop,List.length_take];rfl)) ?_;with_reducible refine (spec_l01Var.calls kj4 (wrap64 (x7_1 + (wrap64 ((Int.tmod (wrap64 (bt a0 x9_1)) 128) * x8_1)))) t662 _ A15.out).mono ?_
             rintro e w23 ⟨rfl,hb⟩;refine ⟨_,rfl,?_⟩;have n0_:=zMk (below_step (hs HB) hb);clear HB;have HB:=n0_;clear n0_
             (try clear hb)
             (try clear hb2)
             (try clear hk)
             (try clear hi)
             refine hK.out _ _ trivial (fun hHeld=>?_);clear hK K;refine norm_ (a':=?_) ?_ ?_;rotate_left
             ·show Act.put _ (some 47) _ = _;simp only [Act.put,zS1,zS2,zS3,i64_w,i32_w];rfl
             refine pure_ (i:=10) (N:=some 53) (v:=?_) (a':=?_) #[true,true,true,true,true,true,true,true,true,true,true,false] rfl rfl (any_of HT_.out (by kernel_rfl)) (fun _ _ _ h=>h) (Or.inl ⟨by rfl,?_⟩) ?_ ?_;rotate_left
             ·intro w';go_simp;with_reducible rfl
             rotate_left
             ·simp only [Act.put,zS1,zS2,zS3,i64_w,i32_w];rfl
             refine pure_ (i:=11) (N:=some 54) (v:=?_) (a':=?_) #[true,true,true,true,true,true,true,true,true,true,true,true] rfl rfl (any_of HT_.out (by kernel_rfl)) (fun _ _ _ h=>h) (Or.inl ⟨by rfl,?_⟩) ?_ ?_;rotate_left
             ·intro w';go_simp;with_reducible rfl
             rotate_left
             ·simp only [Act.put,zS1,zS2,zS3,i64_w,i32_w];rfl
             refine done_ (done_of HT_.out (by kernel_rfl)) ?_
             try go_wp2
             go_ret3
             exact ⟨by first | rfl | (simp [errW_none,errW_some] <;> rfl) | (simp [*,errW_none,errW_some] <;> rfl),hs HB⟩
            rw [if_neg c18] at H;exact absurd H (by simp)
           rw [if_neg c17] at H;exact absurd H (by simp)
          rw [if_neg c16] at H;exact absurd H (by simp)
         rw [if_neg c12] at H;have c12b0 : decide ((bt a0 x9_1) < 128) = false:=decide_eq_false c12;clear c12;have H':=zMk H;clear H;have p10 : 0 ≤ (x9_1 : Int):=zDe (by first | (with_reducible assumption) | assumption);have q10 : x9_1 < (a0.size : Int):=zDe (by first | (with_reducible assumption) | assumption);have hx10:=bt_at a0 x9_1;replace p10:=eq_true p10;replace q10:=eq_true q10;have p11 : 0 ≤ (x9_1 : Int):=zDe (by first | (with_reducible assumption) | assumption);have q11 : x9_1 < (a0.size : Int):=zDe (by first | (with_reducible assumption) | assumption);have hx11:=bt_at a0 x9_1;replace p11:=eq_true p11;replace q11:=eq_true q11
         go_wp2
         go_roundg kj4;case measure=>have:=HK1.out;have:=HJ4.out;omega
         case rel=>exact ⟨(wrap64 (x7_1 + (wrap64 ((Int.tmod (wrap64 (bt a0 x9_1)) 128) * x8_1)))),(wrap64 (x8_1 * 128)),(wrap64 (x9_1 + 1)),(by first | rfl | (simp;done) | (simp [*];done)),(by first | rfl | (simp;done) | (simp [*];done)),(by first | rfl | (simp;done) | (simp [*];done)),H',⟨by have:=HK1.out;have:=HJ4.out;omega⟩,⟨hs HB⟩⟩
        rw [if_neg c9] at H;exact absurd H (by simp)
       rw [if_neg c8] at H;exact absurd H (by simp)
      replace c7:=Bool.eq_false_iff.mpr c7;subst c7;have H1 : (some (0,0,false)) = some (r1,r2,r3):=by rw [if_neg (show ¬ (false = true) by decide)] at H;exact H
      clear H;have H:=H1;clear H1;simp only [Option.some.injEq,Prod.mk.injEq] at H;obtain ⟨rfl,rfl,rfl⟩:=H
      go_wp2
      go_ret3
      exact ⟨by first | rfl | (simp [errW_none,errW_some] <;> rfl) | (simp [*,errW_none,errW_some] <;> rfl),hs HB⟩
 replace c4:=Bool.eq_false_iff.mpr c4;subst c4;have H1 : (some (0,0,false)) = some (r1,r2,r3):=by rw [if_neg (show ¬ (false = true) by decide)] at H;exact H
 clear H;have H:=H1;clear H1;simp only [Option.some.injEq,Prod.mk.injEq] at H;obtain ⟨rfl,rfl,rfl⟩:=H
 go_enter Try.func80,Try.ntmps80
 go_wp2_with (first | ((with_reducible refine gate_callee (f:=34) rfl ?_);refine goesL_ (some 13) rfl rfl Try.func34 (by kernel_rfl) rfl #[.int .i64 a1,.int .i64 0,.int .i64 (a0.size : Int)] rfl (by (try simp only [List.map_toArray,List.map_cons,List.map_nil]);first | done | rfl | (simp only [List.length_drop,List.length_take];rfl)) ?_;(with_reducible refine (spec_l01In.calls a1 0 (a0.size : Int) false _ A3.out).mono ?_);rintro e w' ⟨rfl,⟨nd,rfl⟩⟩;refine ⟨_,rfl,?_⟩))
 go_ret3
 exact ⟨by first | rfl | (simp [errW_none,errW_some] <;> rfl) | (simp [*,errW_none,errW_some] <;> rfl),hs HB⟩
def IsS99 (w0 W : World) (g : Nat) (f0 : ByteArray) (f1 : Int) (f2 : Bool) : Prop:=W.heap[g]? = some (.cells #[.string f0,.int .i64 f1,.bool f2] 99 (0,0)) ∧ w0.heap.size ≤ g
theorem IsS99.grown {w0 W : World} {g : Nat} {f0 : ByteArray} {f1 : Int} {f2 : Bool} {W1 : World} {row : Option Nat} (h : IsS99 w0 W g f0 f1 f2) (hw : W.grownBy W1 row) (hne : some g ≠ row) : IsS99 w0 W1 g f0 f1 f2:=by
 obtain ⟨hb,hg⟩:=h;exact ⟨blk_grown hb hw hne,hg⟩
theorem IsS99.own_neN {w0 W : World} {g : Nat} {f0 : ByteArray} {f1 : Int} {f2 : Bool} {α : Type} {d : Kd α} {e : Nat} {base : Nat} {ok : Nat → Prop} {v : Value} {xs : List α} (h : IsS99 w0 W g f0 f1 f2) (ho : Kd.N d e W base ok v xs) (ht : e ≠ 99) : some g ≠ v.ownBlock:=by
 obtain ⟨hb,hg⟩:=h;exact Kd.N_ne ho hb ht
theorem IsS99.fresh {w0 W : World} {g : Nat} {f0 : ByteArray} {f1 : Int} {f2 : Bool} (h : IsS99 w0 W g f0 f1 f2) : ∀ k,W.heap.size ≤ k → k ≠ g:=by
 obtain ⟨hb,hg⟩:=h;exact Kd.freshB hb
theorem IsS99.kept {w0 W : World} {g : Nat} {f0 : ByteArray} {f1 : Int} {f2 : Bool} {W1 : World} {S : Nat → Prop} (h : IsS99 w0 W g f0 f1 f2) (hk : Kept W W1 S) (hne : ¬ S g) : IsS99 w0 W1 g f0 f1 f2:=by
 obtain ⟨hb,hg⟩:=h;exact ⟨blk_kept hb hk hne,hg⟩
theorem IsS99.below {w0 W : World} {g : Nat} {f0 : ByteArray} {f1 : Int} {f2 : Bool} {W1 : World} (h : IsS99 w0 W g f0 f1 f2) (hw : Below W.heap.size W W1) : IsS99 w0 W1 g f0 f1 f2:=h.grown (grown_of_below hw none) (by simp)
theorem IsS99.alloc {w0 W : World} {g : Nat} {f0 : ByteArray} {f1 : Int} {f2 : Bool} (h : IsS99 w0 W g f0 f1 f2) (o : Obj) : IsS99 w0 (W.alloc o) g f0 f1 f2:=h.below (below_alloc (Below.refl _ _) o)
theorem IsS99.drewN {w0 W : World} {g : Nat} {f0 : ByteArray} {f1 : Int} {f2 : Bool} (h : IsS99 w0 W g f0 f1 f2) (m : Nat) : IsS99 w0 (W.drewN m) g f0 f1 f2:=h
theorem IsS99.drew {w0 W : World} {g : Nat} {f0 : ByteArray} {f1 : Int} {f2 : Bool} (h : IsS99 w0 W g f0 f1 f2) : IsS99 w0 W.drew g f0 f1 f2:=h
theorem IsS99.at_ {w0 W : World} {g : Nat} {f0 : ByteArray} {f1 : Int} {f2 : Bool} {w' : World} {m : Nat} (hq : W.drewN m = w') (h : IsS99 w0 W g f0 f1 f2) : IsS99 w0 w' g f0 f1 f2:=by subst hq;exact IsS99.drewN h m
theorem IsS99.apart {w0 W : World} {g : Nat} {f0 : ByteArray} {f1 : Int} {f2 : Bool} {α : Type} {d : Kd α} {e : Nat} {base : Nat} {ok : Nat → Prop} {v : Value} {xs : List α} (h : IsS99 w0 W g f0 f1 f2) (ho : d.R e W base ok v xs) (ht : ∀ q,q ∈ e :: d.E → q ≠ 99) : d.R e W base (fun k=>ok k ∧ k ≠ g) v xs:=by
 obtain ⟨hb,hg⟩:=h;exact Kd.R_types ho hb ht
theorem IsS99.own_ne {w0 W : World} {g : Nat} {f0 : ByteArray} {f1 : Int} {f2 : Bool} {α : Type} {d : Kd α} {e : Nat} {base : Nat} {ok : Nat → Prop} {v : Value} {xs : List α} (h : IsS99 w0 W g f0 f1 f2) (ho : d.R e W base ok v xs) (ht : e ≠ 99) : some g ≠ v.ownBlock:=by
 obtain ⟨hb,hg⟩:=h;exact Kd.R_ne ho hb ht
theorem IsS99.apartQ {w0 W : World} {g : Nat} {f0 : ByteArray} {f1 : Int} {f2 : Bool} {α : Type} {d : Kd α} {e : Nat} {base : Nat} {ok : Nat → Prop} {v : Value} {xs : List α} (h : IsS99 w0 W g f0 f1 f2) (ho : d.Q e W base ok v xs) (ht : ∀ q,q ∈ e :: d.E → q ≠ 99) : d.Q e W base (fun k=>ok k ∧ k ≠ g) v xs:=by
 obtain ⟨hb,hg⟩:=h;exact Kd.Q_types ho hb ht
theorem IsS99.own_neQ {w0 W : World} {g : Nat} {f0 : ByteArray} {f1 : Int} {f2 : Bool} {α : Type} {d : Kd α} {e : Nat} {base : Nat} {ok : Nat → Prop} {v : Value} {xs : List α} (h : IsS99 w0 W g f0 f1 f2) (ho : d.Q e W base ok v xs) (ht : e ≠ 99) : some g ≠ v.ownBlock:=by
 obtain ⟨hb,hg⟩:=h;exact Kd.Q_ne ho hb ht
theorem IsS99.apartS {w0 W : World} {g : Nat} {f0 : ByteArray} {f1 : Int} {f2 : Bool} {α : Type} {d : Kd α} {e : Nat} {base : Nat} {ok : Nat → Prop} {v : Value} {xs : List α} (h : IsS99 w0 W g f0 f1 f2) (ho : d.S e W base ok v xs) (ht : ∀ q,q ∈ e :: d.E → q ≠ 99) : d.S e W base (fun k=>ok k ∧ k ≠ g) v xs:=by
 obtain ⟨hb,hg⟩:=h;exact Kd.S_types ho hb ht
theorem IsS99.own_neS {w0 W : World} {g : Nat} {f0 : ByteArray} {f1 : Int} {f2 : Bool} {α : Type} {d : Kd α} {e : Nat} {base : Nat} {ok : Nat → Prop} {v : Value} {xs : List α} (h : IsS99 w0 W g f0 f1 f2) (ho : d.S e W base ok v xs) (ht : e ≠ 99) : some g ≠ v.ownBlock:=by
 obtain ⟨hb,hg⟩:=h;exact Kd.S_ne ho hb ht
theorem IsS99.lt {w0 W : World} {g : Nat} {f0 : ByteArray} {f1 : Int} {f2 : Bool} (h : IsS99 w0 W g f0 f1 f2) : g < W.heap.size:=by
 obtain ⟨hb,hg⟩:=h;exact blk_lt hb
theorem IsS99.ge {w0 W : World} {g : Nat} {f0 : ByteArray} {f1 : Int} {f2 : Bool} (h : IsS99 w0 W g f0 f1 f2) : w0.heap.size ≤ g:=by
 obtain ⟨hb,hg⟩:=h;exact hg
theorem IsS99.ne_blk {w0 W : World} {g : Nat} {f0 : ByteArray} {f1 : Int} {f2 : Bool} {a : Nat} {cs : Array Value} {t : TypeId} {fr : Nat × Nat} (h : IsS99 w0 W g f0 f1 f2) (hb2 : W.heap[a]? = some (.cells cs t fr)) (ht : t ≠ 99) : g ≠ a:=by
 obtain ⟨hb,hg⟩:=h;rintro rfl;rw [hb] at hb2;injection hb2 with hb2;injection hb2 with _ ht2;exact ht ht2.symm
theorem IsS99.far {w0 W : World} {g : Nat} {f0 : ByteArray} {f1 : Int} {f2 : Bool} {p : Addr} (h : IsS99 w0 W g f0 f1 f2) (hne : g ≠ p.block) (u : Value) : IsS99 w0 (W.setCell p u) g f0 f1 f2:=by
 obtain ⟨hb,hg⟩:=h;exact ⟨blk_far hb hne u,hg⟩
theorem cellS99_0 {W : World} {g : Nat} {f0 : ByteArray} {f1 : Int} {f2 : Bool} (h : W.heap[g]? = some (.cells #[.string f0,.int .i64 f1,.bool f2] 99 (0,0))) : W.cell? ⟨g,0,none⟩ = some (.string f0):=(zCl h 0).trans rfl
theorem IsS99.set_0 {w0 W : World} {g : Nat} {f0 : ByteArray} {f1 : Int} {f2 : Bool} (h : IsS99 w0 W g f0 f1 f2) (x : ByteArray) : IsS99 w0 (W.setCell ⟨g,0,none⟩ (.string x)) g x f1 f2:=by
 obtain ⟨hb,hg⟩:=h;exact ⟨by simpa using blk_set hb 0 (.string x),hg⟩
theorem cellS99_1 {W : World} {g : Nat} {f0 : ByteArray} {f1 : Int} {f2 : Bool} (h : W.heap[g]? = some (.cells #[.string f0,.int .i64 f1,.bool f2] 99 (0,0))) : W.cell? ⟨g,1,none⟩ = some (.int .i64 f1):=(zCl h 1).trans rfl
theorem IsS99.set_1 {w0 W : World} {g : Nat} {f0 : ByteArray} {f1 : Int} {f2 : Bool} (h : IsS99 w0 W g f0 f1 f2) (x : Int) : IsS99 w0 (W.setCell ⟨g,1,none⟩ (.int .i64 x)) g f0 x f2:=by
 obtain ⟨hb,hg⟩:=h;exact ⟨by simpa using blk_set hb 1 (.int .i64 x),hg⟩
theorem cellS99_2 {W : World} {g : Nat} {f0 : ByteArray} {f1 : Int} {f2 : Bool} (h : W.heap[g]? = some (.cells #[.string f0,.int .i64 f1,.bool f2] 99 (0,0))) : W.cell? ⟨g,2,none⟩ = some (.bool f2):=(zCl h 2).trans rfl
theorem IsS99.set_2 {w0 W : World} {g : Nat} {f0 : ByteArray} {f1 : Int} {f2 : Bool} (h : IsS99 w0 W g f0 f1 f2) (x : Bool) : IsS99 w0 (W.setCell ⟨g,2,none⟩ (.bool x)) g f0 f1 x:=by
 obtain ⟨hb,hg⟩:=h;exact ⟨by simpa using blk_set hb 2 (.bool x),hg⟩
theorem IsS99.new (w0 W : World) (f0 : ByteArray) (f1 : Int) (f2 : Bool) (hB : Below w0.heap.size w0 W) : IsS99 w0 (W.alloc (.cells #[.string f0,.int .i64 f1,.bool f2] 99)) W.heap.size f0 f1 f2:=⟨by simpa using heap_alloc_new W _,hB.size⟩
def spec_l06Var.f (k : Nat) (s0_0 : ByteArray) (s0_1 : Int) (s0_2 : Bool) : Option (Int × ByteArray × Int × Bool):=(spec_ReadVar.f k s0_0 s0_1).bind fun bt663=>(if s0_2 = true then (some (0,s0_0,s0_1,true)) else (if bt663.2.2 = true then (some (bt663.1,s0_0,bt663.2.1,s0_2)) else (some (0,s0_0,s0_1,true))))
theorem spec_l06Var.mono : ∀ a0 a1 a2 k,LeO (spec_l06Var.f k a0 a1 a2) (spec_l06Var.f (k + 1) a0 a1 a2):=by
 intro a0 a1 a2 k;unfold spec_l06Var.f
 repeat' first
   | (with_reducible exact spec_ReadVar.mono _ _ _)
   | (with_reducible exact LeO.refl _)
   | (with_reducible exact LeO.none _)
   | (with_reducible refine LeO.ite ?_ ?_)
   | (with_reducible refine LeO.bind ?_ (fun _=>?_))
   | exact spec_ReadVar.mono _ _ _
   | exact LeO.none _
   | refine LeO.ite ?_ ?_
   | refine LeO.bind ?_ (fun _=>?_)
def spec_l06Var.T1 : Bool × List (List Nat × List Nat):=(true,[([],[]),([0],[0]),([1],[1]),([2],[2]),([],[]),([4],[4]),([5],[5]),([6],[6]),([3,7],[3,7]),([8],[8]),([9],[9]),([9],[9]),([9],[9]),([10,8,0,1,2,3,4,5,6,7,8,9,10],[10]),([11,13,0,1,2,3,4,5,6,7,8,9,10,11,13],[11]),([12,14,0,1,2,3,4,5,6,7,8,9,10,11,12,13,14],[12])])
def spec_l06Var.B1 : List Nat:=[0,1,3,7,0,16,48,112,255,511,1023,1023,1023,2047,12287,32767]
theorem spec_l06Var.tab1 : rtab .any (opsOf Try.f67 1) = spec_l06Var.T1:=by kernel_rfl
theorem spec_l06Var.bits1 : waitsOk spec_l06Var.T1.2 spec_l06Var.B1 = true:=by kernel_rfl
set_option maxHeartbeats 8000000 in
set_option maxRecDepth 100000 in
theorem spec_l06Var.calls (k : Nat) (g : Nat) (s0_0 : ByteArray) (s0_1 : Int) (s0_2 : Bool) (r1 : Int) (r2 : ByteArray) (r3 : Int) (r4 : Bool) (w0 w : World) (hI : IsS99 w0 w g s0_0 s0_1 s0_2) (hB : Below w0.heap.size w0 w) (h : spec_l06Var.f k s0_0 s0_1 s0_2 = some (r1,r2,r3,r4)) :
  Calls Try.prog 67 #[.pointer (some ⟨g,0,none⟩)] w fun e w'=>e = .returned (.int .i64 r1) ∧ IsS99 w0 w' g r2 r3 r4 ∧ Below w0.heap.size w0 w' ∧ KeepBut w w' g none:=by
 have HI0:=zMk hI;have HK:=zMk (KeepBut.refl w g none);have HL:=zMk hB.size;clear hI;have HW0:=zMk hB.size;have HB:=zMk hB;clear hB;have H : ((spec_ReadVar.f k s0_0 s0_1).bind fun bt663=>(if s0_2 = true then (some (0,s0_0,s0_1,true)) else (if bt663.2.2 = true then (some (bt663.1,s0_0,bt663.2.1,s0_2)) else (some (0,s0_0,s0_1,true))))) = some (r1,r2,r3,r4):=h;clear h;replace H:=Option.bind_eq_some_iff.mp H;obtain ⟨⟨t663,t664,t665⟩,A20,H⟩:=H;replace H : (if s0_2 = true then (some (0,s0_0,s0_1,true)) else (if t665 = true then (some (t663,s0_0,t664,s0_2)) else (some (0,s0_0,s0_1,true)))) = some (r1,r2,r3,r4):=H;have A2:=zMk A20;clear A20
 by_cases c3 : s0_2 = true
 ·subst c3;have H1 : (some (0,s0_0,s0_1,true)) = some (r1,r2,r3,r4):=by rw [if_pos rfl] at H;exact H
  clear H;have H:=H1;clear H1;simp only [Option.some.injEq,Prod.mk.injEq] at H;obtain ⟨rfl,rfl,rfl,rfl⟩:=H
  go_enter Try.func67,Try.ntmps67
  try go_wp2
  have n0_:=zMk (IsS99.drew HI0.out);have n1_:=zMk (keep_drew HK.out);have n2_:=zMk (below_drew1 HB.out);clear HI0;clear HK;clear HB;have HI0:=n0_;have HK:=n1_;have HB:=n2_;clear n0_ n1_ n2_;refine start_ (n:=16) (S:=fun w'=>w'.cell? ⟨g,0,none⟩ = some (.string s0_0) ∧ w'.cell? ⟨g,1,none⟩ = some (.int .i64 s0_1) ∧ w'.cell? ⟨g,2,none⟩ = some (.bool true)) (ds:=[]) #[false,false,false,false,false,false,false,false,false,false,false,false,false,false,false,false] (by kernel_rfl) rfl rfl ⟨cellS99_0 HI0.out.1,cellS99_1 HI0.out.1,cellS99_2 HI0.out.1⟩ (fun hHeld=>?_);refine with_tabW spec_l06Var.tab1 spec_l06Var.bits1 (fun HT_ HW_=>?_);generalize w.drew = w4 at HI0 HK HB hHeld ⊢;refine pure_ (i:=0) (N:=some 7) (v:=?_) (a':=?_) #[true,false,false,false,false,false,false,false,false,false,false,false,false,false,false,false] rfl rfl (any_of HT_.out (by kernel_rfl)) (fun _ _ _ h=>h) (Or.inl ⟨by rfl,?_⟩) ?_ ?_;rotate_left
  ·intro w';go_simp;with_reducible rfl
  rotate_left
  ·simp only [Act.put,zS1,zS2,zS3,i64_w,i32_w];rfl
  refine pure_ (i:=1) (N:=some 8) (v:=?_) (a':=?_) #[true,true,false,false,false,false,false,false,false,false,false,false,false,false,false,false] rfl rfl (any_of HT_.out (by kernel_rfl)) (fun _ _ _ h=>h) (Or.inl ⟨by rfl,?_⟩) ?_ ?_;rotate_left
  ·intro w';go_simp;with_reducible rfl
  rotate_left
  ·simp only [Act.put,zS1,zS2,zS3,i64_w,i32_w];rfl
  refine pure_ (i:=2) (N:=some 9) (v:=?_) (a':=?_) #[true,true,true,false,false,false,false,false,false,false,false,false,false,false,false,false] rfl rfl (any_of HT_.out (by kernel_rfl)) (fun _ _ _ h=>h) (Or.inl ⟨by rfl,?_⟩) ?_ ?_;rotate_left
  ·intro w';go_simp;with_reducible rfl
  rotate_left
  ·simp only [Act.put,zS1,zS2,zS3,i64_w,i32_w];rfl
  refine pure_ (i:=4) (N:=some 11) (v:=?_) (a':=?_) #[true,true,true,false,true,false,false,false,false,false,false,false,false,false,false,false] rfl rfl (any_of HT_.out (by kernel_rfl)) (fun _ _ _ h=>h) (Or.inl ⟨by rfl,?_⟩) ?_ ?_;rotate_left
  ·intro w';go_simp;with_reducible rfl
  rotate_left
  ·simp only [Act.put,zS1,zS2,zS3,i64_w,i32_w];rfl
  refine pure_ (i:=5) (N:=some 12) (v:=?_) (a':=?_) #[true,true,true,false,true,true,false,false,false,false,false,false,false,false,false,false] rfl rfl (any_of HT_.out (by kernel_rfl)) (fun _ _ _ h=>h) (Or.inl ⟨by rfl,?_⟩) ?_ ?_;rotate_left
  ·intro w';go_simp;with_reducible rfl
  rotate_left
  ·simp only [Act.put,zS1,zS2,zS3,i64_w,i32_w];rfl
  refine pure_ (i:=6) (N:=some 13) (v:=?_) (a':=?_) #[true,true,true,false,true,true,true,false,false,false,false,false,false,false,false,false] rfl rfl (any_of HT_.out (by kernel_rfl)) (fun _ _ _ h=>h) (Or.inl ⟨by rfl,?_⟩) ?_ ?_;rotate_left
  ·intro w';go_simp;with_reducible rfl
  rotate_left
  ·simp only [Act.put,zS1,zS2,zS3,i64_w,i32_w];rfl
  refine take_ (i:=3) (N:=some 10) (v:=?_) (a':=?_) #[true,true,true,true,true,true,true,false,false,false,false,false,false,false,false,false] rfl rfl (take_ofW HT_.out HW_.out (by kernel_rfl)) (fun _ _ _ h=>h) (Or.inl ⟨by rfl,?_⟩) hHeld ?_ ?_;rotate_left
  ·rintro w' ⟨s0,s1,s2⟩;go_simp;with_reducible rfl
  rotate_left
  ·simp only [Act.put,zS1,zS2,zS3,i64_w,i32_w];rfl
  refine take_ (i:=7) (N:=some 14) (v:=?_) (a':=?_) #[true,true,true,true,true,true,true,true,false,false,false,false,false,false,false,false] rfl rfl (take_ofW HT_.out HW_.out (by kernel_rfl)) (fun _ _ _ h=>h) (Or.inl ⟨by rfl,?_⟩) hHeld ?_ ?_;rotate_left
  ·rintro w' ⟨s0,s1,s2⟩;go_simp;with_reducible rfl
  rotate_left
  ·simp only [Act.put,zS1,zS2,zS3,i64_w,i32_w];rfl
  refine one_ (i:=8) (N:=some 15) #[true,true,true,true,true,true,true,true,true,false,false,false,false,false,false,false] rfl rfl (one_of HT_.out (by kernel_rfl)) (by decide) (fun K hK=>?_);refine goes_ Try.func80 (by kernel_rfl) rfl #[.string s0_0,.int .i64 s0_1] (by rfl) rfl rfl (by (try simp only [List.map_toArray,List.map_cons,List.map_nil]);first | done | rfl | (simp only [List.length_drop,List.length_take];rfl)) ?_;with_reducible refine (spec_ReadVar.calls k s0_0 s0_1 t663 t664 t665 _ A2.out).mono ?_
  rintro e w5 ⟨rfl,hb⟩;refine ⟨_,rfl,?_⟩;have n0_:=zMk (IsS99.below (by repeat (first | (with_reducible first | exact HI0.out | apply IsS99.alloc | apply IsS99.drewN | apply IsS99.drew | apply IsS99.set_0 | apply IsS99.set_1 | apply IsS99.set_2) | exact HI0.out)) hb);have n1_:=zMk (KeepBut.trans (by repeat (first | (with_reducible first | exact HK.out | apply KeepBut.set_ | apply keep_drewN | apply keep_drew | apply keep_alloc) | exact HK.out)) (KeepBut.of_below hb g none) (.inl rfl));have n2_:=zMk (below_step (by repeat (first | (with_reducible first | exact HB.out | apply below_alloc | apply pw_below_drewN | apply below_drew1 | refine below_set ?_ (IsS99.ge HI0.out)) | exact HB.out)) hb);clear HI0;clear HK;clear HB;have HI0:=n0_;have HK:=n1_;have HB:=n2_;clear n0_ n1_ n2_
  (try clear hb)
  (try clear hb2)
  (try clear hk)
  (try clear hi)
  refine hK.out _ _ ⟨cellS99_0 HI0.out.1,cellS99_1 HI0.out.1,cellS99_2 HI0.out.1⟩ (fun hHeld=>?_);clear hK K;refine norm_ (a':=?_) ?_ ?_;rotate_left
  ·show Act.put _ (some 15) _ = _;simp only [Act.put,zS1,zS2,zS3,i64_w,i32_w];rfl
  refine pure_ (i:=9) (N:=some 6) (v:=?_) (a':=?_) #[true,true,true,true,true,true,true,true,true,true,false,false,false,false,false,false] rfl rfl (any_of HT_.out (by kernel_rfl)) (fun _ _ _ h=>h) (Or.inl ⟨by rfl,?_⟩) ?_ ?_;rotate_left
  ·intro w';go_simp;with_reducible rfl
  rotate_left
  ·simp only [Act.put,zS1,zS2,zS3,i64_w,i32_w];rfl
  refine pure_ (i:=10) (N:=some 16) (v:=?_) (a':=?_) #[true,true,true,true,true,true,true,true,true,true,true,false,false,false,false,false] rfl rfl (any_of HT_.out (by kernel_rfl)) (fun _ _ _ h=>h) (Or.inl ⟨by rfl,?_⟩) ?_ ?_;rotate_left
  ·intro w';go_simp;with_reducible rfl
  rotate_left
  ·simp only [Act.put,zS1,zS2,zS3,i64_w,i32_w];rfl
  refine pure_ (i:=11) (N:=some 17) (v:=?_) (a':=?_) #[true,true,true,true,true,true,true,true,true,true,true,true,false,false,false,false] rfl rfl (any_of HT_.out (by kernel_rfl)) (fun _ _ _ h=>h) (Or.inl ⟨by rfl,?_⟩) ?_ ?_;rotate_left
  ·intro w';go_simp;with_reducible rfl
  rotate_left
  ·simp only [Act.put,zS1,zS2,zS3,i64_w,i32_w];rfl
  refine pure_ (i:=12) (N:=some 18) (v:=?_) (a':=?_) #[true,true,true,true,true,true,true,true,true,true,true,true,true,false,false,false] rfl rfl (any_of HT_.out (by kernel_rfl)) (fun _ _ _ h=>h) (Or.inl ⟨by rfl,?_⟩) ?_ ?_;rotate_left
  ·intro w';go_simp;with_reducible rfl
  rotate_left
  ·simp only [Act.put,zS1,zS2,zS3,i64_w,i32_w];rfl
  refine pure_ (i:=13) (N:=some 3) (v:=?_) (a':=?_) #[true,true,true,true,true,true,true,true,true,true,true,true,true,true,false,false] rfl rfl (any_of HT_.out (by kernel_rfl)) (fun _ _ _ h=>h) (Or.inl ⟨by rfl,?_⟩) ?_ ?_;rotate_left
  ·intro w';go_simp;with_reducible rfl
  rotate_left
  ·simp only [Act.put,zS1,zS2,zS3,i64_w,i32_w];rfl
  refine pure_ (i:=14) (N:=some 4) (v:=?_) (a':=?_) #[true,true,true,true,true,true,true,true,true,true,true,true,true,true,true,false] rfl rfl (any_of HT_.out (by kernel_rfl)) (fun _ _ _ h=>h) (Or.inl ⟨by rfl,?_⟩) ?_ ?_;rotate_left
  ·intro w';go_simp;with_reducible rfl
  rotate_left
  ·simp only [Act.put,zS1,zS2,zS3,i64_w,i32_w];rfl
  refine pure_ (i:=15) (N:=some 5) (v:=?_) (a':=?_) #[true,true,true,true,true,true,true,true,true,true,true,true,true,true,true,true] rfl rfl (any_of HT_.out (by kernel_rfl)) (fun _ _ _ h=>h) (Or.inl ⟨by rfl,?_⟩) ?_ ?_;rotate_left
  ·intro w';go_simp;with_reducible rfl
  rotate_left
  ·simp only [Act.put,zS1,zS2,zS3,i64_w,i32_w];rfl
  refine done_ (done_of HT_.out (by kernel_rfl)) ?_;obtain ⟨HGz6,hgz6⟩:=HI0.out;have hcz6_0:=cellS99_0 HGz6;have hcz6_1:=cellS99_1 HGz6;have hcz6_2:=cellS99_2 HGz6;have hfz6_0:=zFr HGz6 0;have hfz6_1:=zFr HGz6 1;have hfz6_2:=zFr HGz6 2;clear HGz6 hgz6
  try go_wp2
  go_ret
  exact ⟨by first | rfl | (simp [errW_none,errW_some] <;> rfl) | (simp [*,errW_none,errW_some] <;> rfl),by repeat (first | (with_reducible first | exact HI0.out | apply IsS99.alloc | apply IsS99.drewN | apply IsS99.drew | apply IsS99.set_0 | apply IsS99.set_1 | apply IsS99.set_2) | exact HI0.out),by repeat (first | (with_reducible first | exact HB.out | apply below_alloc | apply pw_below_drewN | apply below_drew1 | refine below_set ?_ (IsS99.ge HI0.out)) | exact HB.out),by repeat (first | (with_reducible first | exact HK.out | apply KeepBut.set_ | apply keep_drewN | apply keep_drew | apply keep_alloc) | exact HK.out)⟩
 replace c3:=Bool.eq_false_iff.mpr c3;subst c3;have H1 : (if t665 = true then (some (t663,s0_0,t664,false)) else (some (0,s0_0,s0_1,true))) = some (r1,r2,r3,r4):=by rw [if_neg (show ¬ (false = true) by decide)] at H;exact H
 clear H;have H:=H1;clear H1
 by_cases c7 : t665 = true
 ·subst c7;have H1 : (some (t663,s0_0,t664,false)) = some (r1,r2,r3,r4):=by rw [if_pos rfl] at H;exact H
  clear H;have H:=H1;clear H1;simp only [Option.some.injEq,Prod.mk.injEq] at H;obtain ⟨rfl,rfl,rfl,rfl⟩:=H
  go_enter Try.func67,Try.ntmps67
  try go_wp2
  have n0_:=zMk (IsS99.drew HI0.out);have n1_:=zMk (keep_drew HK.out);have n2_:=zMk (below_drew1 HB.out);clear HI0;clear HK;clear HB;have HI0:=n0_;have HK:=n1_;have HB:=n2_;clear n0_ n1_ n2_;refine start_ (n:=16) (S:=fun w'=>w'.cell? ⟨g,0,none⟩ = some (.string s0_0) ∧ w'.cell? ⟨g,1,none⟩ = some (.int .i64 s0_1) ∧ w'.cell? ⟨g,2,none⟩ = some (.bool false)) (ds:=[]) #[false,false,false,false,false,false,false,false,false,false,false,false,false,false,false,false] (by kernel_rfl) rfl rfl ⟨cellS99_0 HI0.out.1,cellS99_1 HI0.out.1,cellS99_2 HI0.out.1⟩ (fun hHeld=>?_);refine with_tabW spec_l06Var.tab1 spec_l06Var.bits1 (fun HT_ HW_=>?_);generalize w.drew = w8 at HI0 HK HB hHeld ⊢;refine pure_ (i:=0) (N:=some 7) (v:=?_) (a':=?_) #[true,false,false,false,false,false,false,false,false,false,false,false,false,false,false,false] rfl rfl (any_of HT_.out (by kernel_rfl)) (fun _ _ _ h=>h) (Or.inl ⟨by rfl,?_⟩) ?_ ?_;rotate_left
  ·intro w';go_simp;with_reducible rfl
  rotate_left
  ·simp only [Act.put,zS1,zS2,zS3,i64_w,i32_w];rfl
  refine pure_ (i:=1) (N:=some 8) (v:=?_) (a':=?_) #[true,true,false,false,false,false,false,false,false,false,false,false,false,false,false,false] rfl rfl (any_of HT_.out (by kernel_rfl)) (fun _ _ _ h=>h) (Or.inl ⟨by rfl,?_⟩) ?_ ?_;rotate_left
  ·intro w';go_simp;with_reducible rfl
  rotate_left
  ·simp only [Act.put,zS1,zS2,zS3,i64_w,i32_w];rfl
  refine pure_ (i:=2) (N:=some 9) (v:=?_) (a':=?_) #[true,true,true,false,false,false,false,false,false,false,false,false,false,false,false,false] rfl rfl (any_of HT_.out (by kernel_rfl)) (fun _ _ _ h=>h) (Or.inl ⟨by rfl,?_⟩) ?_ ?_;rotate_left
  ·intro w';go_simp;with_reducible rfl
  rotate_left
  ·simp only [Act.put,zS1,zS2,zS3,i64_w,i32_w];rfl
  refine pure_ (i:=4) (N:=some 11) (v:=?_) (a':=?_) #[true,true,true,false,true,false,false,false,false,false,false,false,false,false,false,false] rfl rfl (any_of HT_.out (by kernel_rfl)) (fun _ _ _ h=>h) (Or.inl ⟨by rfl,?_⟩) ?_ ?_;rotate_left
  ·intro w';go_simp;with_reducible rfl
  rotate_left
  ·simp only [Act.put,zS1,zS2,zS3,i64_w,i32_w];rfl
  refine pure_ (i:=5) (N:=some 12) (v:=?_) (a':=?_) #[true,true,true,false,true,true,false,false,false,false,false,false,false,false,false,false] rfl rfl (any_of HT_.out (by kernel_rfl)) (fun _ _ _ h=>h) (Or.inl ⟨by rfl,?_⟩) ?_ ?_;rotate_left
  ·intro w';go_simp;with_reducible rfl
  rotate_left
  ·simp only [Act.put,zS1,zS2,zS3,i64_w,i32_w];rfl
  refine pure_ (i:=6) (N:=some 13) (v:=?_) (a':=?_) #[true,true,true,false,true,true,true,false,false,false,false,false,false,false,false,false] rfl rfl (any_of HT_.out (by kernel_rfl)) (fun _ _ _ h=>h) (Or.inl ⟨by rfl,?_⟩) ?_ ?_;rotate_left
  ·intro w';go_simp;with_reducible rfl
  rotate_left
  ·simp only [Act.put,zS1,zS2,zS3,i64_w,i32_w];rfl
  refine take_ (i:=3) (N:=some 10) (v:=?_) (a':=?_) #[true,true,true,true,true,true,true,false,false,false,false,false,false,false,false,false] rfl rfl (take_ofW HT_.out HW_.out (by kernel_rfl)) (fun _ _ _ h=>h) (Or.inl ⟨by rfl,?_⟩) hHeld ?_ ?_;rotate_left
  ·rintro w' ⟨s0,s1,s2⟩;go_simp;with_reducible rfl
  rotate_left
  ·simp only [Act.put,zS1,zS2,zS3,i64_w,i32_w];rfl
  refine take_ (i:=7) (N:=some 14) (v:=?_) (a':=?_) #[true,true,true,true,true,true,true,true,false,false,false,false,false,false,false,false] rfl rfl (take_ofW HT_.out HW_.out (by kernel_rfl)) (fun _ _ _ h=>h) (Or.inl ⟨by rfl,?_⟩) hHeld ?_ ?_;rotate_left
  ·rintro w' ⟨s0,s1,s2⟩;go_simp;with_reducible rfl
  rotate_left
  ·simp only [Act.put,zS1,zS2,zS3,i64_w,i32_w];rfl
  refine one_ (i:=8) (N:=some 15) #[true,true,true,true,true,true,true,true,true,false,false,false,false,false,false,false] rfl rfl (one_of HT_.out (by kernel_rfl)) (by decide) (fun K hK=>?_);refine goes_ Try.func80 (by kernel_rfl) rfl #[.string s0_0,.int .i64 s0_1] (by rfl) rfl rfl (by (try simp only [List.map_toArray,List.map_cons,List.map_nil]);first | done | rfl | (simp only [List.length_drop,List.length_take];rfl)) ?_;with_reducible refine (spec_ReadVar.calls k s0_0 s0_1 t663 t664 true _ A2.out).mono ?_
  rintro e w9 ⟨rfl,hb⟩;refine ⟨_,rfl,?_⟩;have n0_:=zMk (IsS99.below (by repeat (first | (with_reducible first | exact HI0.out | apply IsS99.alloc | apply IsS99.drewN | apply IsS99.drew | apply IsS99.set_0 | apply IsS99.set_1 | apply IsS99.set_2) | exact HI0.out)) hb);have n1_:=zMk (KeepBut.trans (by repeat (first | (with_reducible first | exact HK.out | apply KeepBut.set_ | apply keep_drewN | apply keep_drew | apply keep_alloc) | exact HK.out)) (KeepBut.of_below hb g none) (.inl rfl));have n2_:=zMk (below_step (by repeat (first | (with_reducible first | exact HB.out | apply below_alloc | apply pw_below_drewN | apply below_drew1 | refine below_set ?_ (IsS99.ge HI0.out)) | exact HB.out)) hb);clear HI0;clear HK;clear HB;have HI0:=n0_;have HK:=n1_;have HB:=n2_;clear n0_ n1_ n2_
  (try clear hb)
  (try clear hb2)
  (try clear hk)
  (try clear hi)
  refine hK.out _ _ ⟨cellS99_0 HI0.out.1,cellS99_1 HI0.out.1,cellS99_2 HI0.out.1⟩ (fun hHeld=>?_);clear hK K;refine norm_ (a':=?_) ?_ ?_;rotate_left
  ·show Act.put _ (some 15) _ = _;simp only [Act.put,zS1,zS2,zS3,i64_w,i32_w];rfl
  refine pure_ (i:=9) (N:=some 6) (v:=?_) (a':=?_) #[true,true,true,true,true,true,true,true,true,true,false,false,false,false,false,false] rfl rfl (any_of HT_.out (by kernel_rfl)) (fun _ _ _ h=>h) (Or.inl ⟨by rfl,?_⟩) ?_ ?_;rotate_left
  ·intro w';go_simp;with_reducible rfl
  rotate_left
  ·simp only [Act.put,zS1,zS2,zS3,i64_w,i32_w];rfl
  refine pure_ (i:=10) (N:=some 16) (v:=?_) (a':=?_) #[true,true,true,true,true,true,true,true,true,true,true,false,false,false,false,false] rfl rfl (any_of HT_.out (by kernel_rfl)) (fun _ _ _ h=>h) (Or.inl ⟨by rfl,?_⟩) ?_ ?_;rotate_left
  ·intro w';go_simp;with_reducible rfl
  rotate_left
  ·simp only [Act.put,zS1,zS2,zS3,i64_w,i32_w];rfl
  refine pure_ (i:=11) (N:=some 17) (v:=?_) (a':=?_) #[true,true,true,true,true,true,true,true,true,true,true,true,false,false,false,false] rfl rfl (any_of HT_.out (by kernel_rfl)) (fun _ _ _ h=>h) (Or.inl ⟨by rfl,?_⟩) ?_ ?_;rotate_left
  ·intro w';go_simp;with_reducible rfl
  rotate_left
  ·simp only [Act.put,zS1,zS2,zS3,i64_w,i32_w];rfl
  refine pure_ (i:=12) (N:=some 18) (v:=?_) (a':=?_) #[true,true,true,true,true,true,true,true,true,true,true,true,true,false,false,false] rfl rfl (any_of HT_.out (by kernel_rfl)) (fun _ _ _ h=>h) (Or.inl ⟨by rfl,?_⟩) ?_ ?_;rotate_left
  ·intro w';go_simp;with_reducible rfl
  rotate_left
  ·simp only [Act.put,zS1,zS2,zS3,i64_w,i32_w];rfl
  refine pure_ (i:=13) (N:=some 3) (v:=?_) (a':=?_) #[true,true,true,true,true,true,true,true,true,true,true,true,true,true,false,false] rfl rfl (any_of HT_.out (by kernel_rfl)) (fun _ _ _ h=>h) (Or.inl ⟨by rfl,?_⟩) ?_ ?_;rotate_left
  ·intro w';go_simp;with_reducible rfl
  rotate_left
  ·simp only [Act.put,zS1,zS2,zS3,i64_w,i32_w];rfl
  refine pure_ (i:=14) (N:=some 4) (v:=?_) (a':=?_) #[true,true,true,true,true,true,true,true,true,true,true,true,true,true,true,false] rfl rfl (any_of HT_.out (by kernel_rfl)) (fun _ _ _ h=>h) (Or.inl ⟨by rfl,?_⟩) ?_ ?_;rotate_left
  ·intro w';go_simp;with_reducible rfl
  rotate_left
  ·simp only [Act.put,zS1,zS2,zS3,i64_w,i32_w];rfl
  refine pure_ (i:=15) (N:=some 5) (v:=?_) (a':=?_) #[true,true,true,true,true,true,true,true,true,true,true,true,true,true,true,true] rfl rfl (any_of HT_.out (by kernel_rfl)) (fun _ _ _ h=>h) (Or.inl ⟨by rfl,?_⟩) ?_ ?_;rotate_left
  ·intro w';go_simp;with_reducible rfl
  rotate_left
  ·simp only [Act.put,zS1,zS2,zS3,i64_w,i32_w];rfl
  refine done_ (done_of HT_.out (by kernel_rfl)) ?_;obtain ⟨HGz10,hgz10⟩:=HI0.out;have hcz10_0:=cellS99_0 HGz10;have hcz10_1:=cellS99_1 HGz10;have hcz10_2:=cellS99_2 HGz10;have hfz10_0:=zFr HGz10 0;have hfz10_1:=zFr HGz10 1;have hfz10_2:=zFr HGz10 2;clear HGz10 hgz10
  try go_wp2
  go_ret
  exact ⟨by first | rfl | (simp [errW_none,errW_some] <;> rfl) | (simp [*,errW_none,errW_some] <;> rfl),by repeat (first | (with_reducible first | exact HI0.out | apply IsS99.alloc | apply IsS99.drewN | apply IsS99.drew | apply IsS99.set_0 | apply IsS99.set_1 | apply IsS99.set_2) | exact HI0.out),by repeat (first | (with_reducible first | exact HB.out | apply below_alloc | apply pw_below_drewN | apply below_drew1 | refine below_set ?_ (IsS99.ge HI0.out)) | exact HB.out),by repeat (first | (with_reducible first | exact HK.out | apply KeepBut.set_ | apply keep_drewN | apply keep_drew | apply keep_alloc) | exact HK.out)⟩
 replace c7:=Bool.eq_false_iff.mpr c7;subst c7;have H1 : (some (0,s0_0,s0_1,true)) = some (r1,r2,r3,r4):=by rw [if_neg (show ¬ (false = true) by decide)] at H;exact H
 clear H;have H:=H1;clear H1;simp only [Option.some.injEq,Prod.mk.injEq] at H;obtain ⟨rfl,rfl,rfl,rfl⟩:=H
 go_enter Try.func67,Try.ntmps67
 try go_wp2
 have n0_:=zMk (IsS99.drew HI0.out);have n1_:=zMk (keep_drew HK.out);have n2_:=zMk (below_drew1 HB.out);clear HI0;clear HK;clear HB;have HI0:=n0_;have HK:=n1_;have HB:=n2_;clear n0_ n1_ n2_;refine start_ (n:=16) (S:=fun w'=>w'.cell? ⟨g,0,none⟩ = some (.string s0_0) ∧ w'.cell? ⟨g,1,none⟩ = some (.int .i64 s0_1) ∧ w'.cell? ⟨g,2,none⟩ = some (.bool false)) (ds:=[]) #[false,false,false,false,false,false,false,false,false,false,false,false,false,false,false,false] (by kernel_rfl) rfl rfl ⟨cellS99_0 HI0.out.1,cellS99_1 HI0.out.1,cellS99_2 HI0.out.1⟩ (fun hHeld=>?_);refine with_tabW spec_l06Var.tab1 spec_l06Var.bits1 (fun HT_ HW_=>?_);generalize w.drew = w11 at HI0 HK HB hHeld ⊢;refine pure_ (i:=0) (N:=some 7) (v:=?_) (a':=?_) #[true,false,false,false,false,false,false,false,false,false,false,false,false,false,false,false] rfl rfl (any_of HT_.out (by kernel_rfl)) (fun _ _ _ h=>h) (Or.inl ⟨by rfl,?_⟩) ?_ ?_;rotate_left
 ·intro w';go_simp;with_reducible rfl
 rotate_left
 ·simp only [Act.put,zS1,zS2,zS3,i64_w,i32_w];rfl
 refine pure_ (i:=1) (N:=some 8) (v:=?_) (a':=?_) #[true,true,false,false,false,false,false,false,false,false,false,false,false,false,false,false] rfl rfl (any_of HT_.out (by kernel_rfl)) (fun _ _ _ h=>h) (Or.inl ⟨by rfl,?_⟩) ?_ ?_;rotate_left
 ·intro w';go_simp;with_reducible rfl
 rotate_left
 ·simp only [Act.put,zS1,zS2,zS3,i64_w,i32_w];rfl
 refine pure_ (i:=2) (N:=some 9) (v:=?_) (a':=?_) #[true,true,true,false,false,false,false,false,false,false,false,false,false,false,false,false] rfl rfl (any_of HT_.out (by kernel_rfl)) (fun _ _ _ h=>h) (Or.inl ⟨by rfl,?_⟩) ?_ ?_;rotate_left
 ·intro w';go_simp;with_reducible rfl
 rotate_left
 ·simp only [Act.put,zS1,zS2,zS3,i64_w,i32_w];rfl
 refine pure_ (i:=4) (N:=some 11) (v:=?_) (a':=?_) #[true,true,true,false,true,false,false,false,false,false,false,false,false,false,false,false] rfl rfl (any_of HT_.out (by kernel_rfl)) (fun _ _ _ h=>h) (Or.inl ⟨by rfl,?_⟩) ?_ ?_;rotate_left
 ·intro w';go_simp;with_reducible rfl
 rotate_left
 ·simp only [Act.put,zS1,zS2,zS3,i64_w,i32_w];rfl
 refine pure_ (i:=5) (N:=some 12) (v:=?_) (a':=?_) #[true,true,true,false,true,true,false,false,false,false,false,false,false,false,false,false] rfl rfl (any_of HT_.out (by kernel_rfl)) (fun _ _ _ h=>h) (Or.inl ⟨by rfl,?_⟩) ?_ ?_;rotate_left
 ·intro w';go_simp;with_reducible rfl
 rotate_left
 ·simp only [Act.put,zS1,zS2,zS3,i64_w,i32_w];rfl
 refine pure_ (i:=6) (N:=some 13) (v:=?_) (a':=?_) #[true,true,true,false,true,true,true,false,false,false,false,false,false,false,false,false] rfl rfl (any_of HT_.out (by kernel_rfl)) (fun _ _ _ h=>h) (Or.inl ⟨by rfl,?_⟩) ?_ ?_;rotate_left
 ·intro w';go_simp;with_reducible rfl
 rotate_left
 ·simp only [Act.put,zS1,zS2,zS3,i64_w,i32_w];rfl
 refine take_ (i:=3) (N:=some 10) (v:=?_) (a':=?_) #[true,true,true,true,true,true,true,false,false,false,false,false,false,false,false,false] rfl rfl (take_ofW HT_.out HW_.out (by kernel_rfl)) (fun _ _ _ h=>h) (Or.inl ⟨by rfl,?_⟩) hHeld ?_ ?_;rotate_left
 ·rintro w' ⟨s0,s1,s2⟩;go_simp;with_reducible rfl
 rotate_left
 ·simp only [Act.put,zS1,zS2,zS3,i64_w,i32_w];rfl
 refine take_ (i:=7) (N:=some 14) (v:=?_) (a':=?_) #[true,true,true,true,true,true,true,true,false,false,false,false,false,false,false,false] rfl rfl (take_ofW HT_.out HW_.out (by kernel_rfl)) (fun _ _ _ h=>h) (Or.inl ⟨by rfl,?_⟩) hHeld ?_ ?_;rotate_left
 ·rintro w' ⟨s0,s1,s2⟩;go_simp;with_reducible rfl
 rotate_left
 ·simp only [Act.put,zS1,zS2,zS3,i64_w,i32_w];rfl
 refine one_ (i:=8) (N:=some 15) #[true,true,true,true,true,true,true,true,true,false,false,false,false,false,false,false] rfl rfl (one_of HT_.out (by kernel_rfl)) (by decide) (fun K hK=>?_);refine goes_ Try.func80 (by kernel_rfl) rfl #[.string s0_0,.int .i64 s0_1] (by rfl) rfl rfl (by (try simp only [List.map_toArray,List.map_cons,List.map_nil]);first | done | rfl | (simp only [List.length_drop,List.length_take];rfl)) ?_;with_reducible refine (spec_ReadVar.calls k s0_0 s0_1 t663 t664 false _ A2.out).mono ?_
 rintro e w12 ⟨rfl,hb⟩;refine ⟨_,rfl,?_⟩;have n0_:=zMk (IsS99.below (by repeat (first | (with_reducible first | exact HI0.out | apply IsS99.alloc | apply IsS99.drewN | apply IsS99.drew | apply IsS99.set_0 | apply IsS99.set_1 | apply IsS99.set_2) | exact HI0.out)) hb);have n1_:=zMk (KeepBut.trans (by repeat (first | (with_reducible first | exact HK.out | apply KeepBut.set_ | apply keep_drewN | apply keep_drew | apply keep_alloc) | exact HK.out)) (KeepBut.of_below hb g none) (.inl rfl));have n2_:=zMk (below_step (by repeat (first | (with_reducible first | exact HB.out | apply below_alloc | apply pw_below_drewN | apply below_drew1 | refine below_set ?_ (IsS99.ge HI0.out)) | exact HB.out)) hb);clear HI0;clear HK;clear HB;have HI0:=n0_;have HK:=n1_;have HB:=n2_;clear n0_ n1_ n2_
 (try clear hb)
 (try clear hb2)
 (try clear hk)
 (try clear hi)
 refine hK.out _ _ ⟨cellS99_0 HI0.out.1,cellS99_1 HI0.out.1,cellS99_2 HI0.out.1⟩ (fun hHeld=>?_);clear hK K;refine norm_ (a':=?_) ?_ ?_;rotate_left
 ·show Act.put _ (some 15) _ = _;simp only [Act.put,zS1,zS2,zS3,i64_w,i32_w];rfl
 refine pure_ (i:=9) (N:=some 6) (v:=?_) (a':=?_) #[true,true,true,true,true,true,true,true,true,true,false,false,false,false,false,false] rfl rfl (any_of HT_.out (by kernel_rfl)) (fun _ _ _ h=>h) (Or.inl ⟨by rfl,?_⟩) ?_ ?_;rotate_left
 ·intro w';go_simp;with_reducible rfl
 rotate_left
 ·simp only [Act.put,zS1,zS2,zS3,i64_w,i32_w];rfl
 refine pure_ (i:=10) (N:=some 16) (v:=?_) (a':=?_) #[true,true,true,true,true,true,true,true,true,true,true,false,false,false,false,false] rfl rfl (any_of HT_.out (by kernel_rfl)) (fun _ _ _ h=>h) (Or.inl ⟨by rfl,?_⟩) ?_ ?_;rotate_left
 ·intro w';go_simp;with_reducible rfl
 rotate_left
 ·simp only [Act.put,zS1,zS2,zS3,i64_w,i32_w];rfl
 refine pure_ (i:=11) (N:=some 17) (v:=?_) (a':=?_) #[true,true,true,true,true,true,true,true,true,true,true,true,false,false,false,false] rfl rfl (any_of HT_.out (by kernel_rfl)) (fun _ _ _ h=>h) (Or.inl ⟨by rfl,?_⟩) ?_ ?_;rotate_left
 ·intro w';go_simp;with_reducible rfl
 rotate_left
 ·simp only [Act.put,zS1,zS2,zS3,i64_w,i32_w];rfl
 refine pure_ (i:=12) (N:=some 18) (v:=?_) (a':=?_) #[true,true,true,true,true,true,true,true,true,true,true,true,true,false,false,false] rfl rfl (any_of HT_.out (by kernel_rfl)) (fun _ _ _ h=>h) (Or.inl ⟨by rfl,?_⟩) ?_ ?_;rotate_left
 ·intro w';go_simp;with_reducible rfl
 rotate_left
 ·simp only [Act.put,zS1,zS2,zS3,i64_w,i32_w];rfl
 refine pure_ (i:=13) (N:=some 3) (v:=?_) (a':=?_) #[true,true,true,true,true,true,true,true,true,true,true,true,true,true,false,false] rfl rfl (any_of HT_.out (by kernel_rfl)) (fun _ _ _ h=>h) (Or.inl ⟨by rfl,?_⟩) ?_ ?_;rotate_left
 ·intro w';go_simp;with_reducible rfl
 rotate_left
 ·simp only [Act.put,zS1,zS2,zS3,i64_w,i32_w];rfl
 refine pure_ (i:=14) (N:=some 4) (v:=?_) (a':=?_) #[true,true,true,true,true,true,true,true,true,true,true,true,true,true,true,false] rfl rfl (any_of HT_.out (by kernel_rfl)) (fun _ _ _ h=>h) (Or.inl ⟨by rfl,?_⟩) ?_ ?_;rotate_left
 ·intro w';go_simp;with_reducible rfl
 rotate_left
 ·simp only [Act.put,zS1,zS2,zS3,i64_w,i32_w];rfl
 refine pure_ (i:=15) (N:=some 5) (v:=?_) (a':=?_) #[true,true,true,true,true,true,true,true,true,true,true,true,true,true,true,true] rfl rfl (any_of HT_.out (by kernel_rfl)) (fun _ _ _ h=>h) (Or.inl ⟨by rfl,?_⟩) ?_ ?_;rotate_left
 ·intro w';go_simp;with_reducible rfl
 rotate_left
 ·simp only [Act.put,zS1,zS2,zS3,i64_w,i32_w];rfl
 refine done_ (done_of HT_.out (by kernel_rfl)) ?_;obtain ⟨HGz13,hgz13⟩:=HI0.out;have hcz13_0:=cellS99_0 HGz13;have hcz13_1:=cellS99_1 HGz13;have hcz13_2:=cellS99_2 HGz13;have hfz13_0:=zFr HGz13 0;have hfz13_1:=zFr HGz13 1;have hfz13_2:=zFr HGz13 2;clear HGz13 hgz13
 try go_wp2
 go_ret
 exact ⟨by first | rfl | (simp [errW_none,errW_some] <;> rfl) | (simp [*,errW_none,errW_some] <;> rfl),by repeat (first | (with_reducible first | exact HI0.out | apply IsS99.alloc | apply IsS99.drewN | apply IsS99.drew | apply IsS99.set_0 | apply IsS99.set_1 | apply IsS99.set_2) | exact HI0.out),by repeat (first | (with_reducible first | exact HB.out | apply below_alloc | apply pw_below_drewN | apply below_drew1 | refine below_set ?_ (IsS99.ge HI0.out)) | exact HB.out),by repeat (first | (with_reducible first | exact HK.out | apply KeepBut.set_ | apply keep_drewN | apply keep_drew | apply keep_alloc) | exact HK.out)⟩
end Go.Proofs.Ytodokejcmbjpbaa.PK
