/- FnExactStoreOk: functions of the translation as Lean functions with what their calls come to, plain lemmas on them, and, at the end, the row. Parts of one proof, merged by a program of this session; each part's own sentence stands at its head. -/
import Derived.ChangeArms
import Derived.DataReads
import Derived.Test.YtdolplcbokioaaaRows
import Derived.WalkKit
import Derived.ProofKit
import Derived.OpenShut
import Derived.ShutString
import Derived.ChangeOld
import Derived.Below
import Derived.SizedLaws
import Derived.Test.YtdolplcbokioaaaMFnExactStoreOke
namespace Go.Proofs.Ytdolplcbokioaaa.PB
open Go.RowKit Go.Proofs.YtdolplcbokioaaaW.PrintWords Go.Proofs.YtdolplcbokioaaaW.PrintLast Go.Proofs.YtdolplcbokioaaaW.PrintMore
attribute [local go_sem] max2_int min2_int max_two min_two max_three min_three max_four min_four   -- for this text's walks alone
set_option linter.unusedVariables false
set_option linter.unusedSimpArgs false
def laws_FnExactStoreOk.f (k : Nat) (l0_0 : List (S184)) (l0_1 : List (S175)) (a0_2 : Int) : Option (Bool):=(laws_szStore.f k l0_0 l0_1 a0_2 1048576).bind fun t1727=>(if t1727 < 0 then (some true) else ((laws_toStore.f k l0_0 l0_1 a0_2).bind fun bt1728=>((spec_StoreOk.f k bt1728.1 bt1728.2.1 bt1728.2.2).bind fun t1735=>((laws_toStore.f k l0_0 l0_1 a0_2).bind fun bt1736=>((impl_StoreOk.f k bt1736.1 bt1736.2.1 bt1736.2.2).bind fun t1744=>(if (t1744 != t1735) = true then (some false) else ((laws_toStore.f k l0_0 l0_1 a0_2).bind fun bt1745=>((laws_eqStore.f k bt1736.1 bt1736.2.1 bt1736.2.2 bt1745.1 bt1745.2.1 bt1745.2.2).bind fun t1752=>(if t1752 = true then (some true) else (some false))))))))))
theorem laws_FnExactStoreOk.mono : ∀ a0 a1 a2 k,LeO (laws_FnExactStoreOk.f k a0 a1 a2) (laws_FnExactStoreOk.f (k + 1) a0 a1 a2):=by
 intro a0 a1 a2 k;unfold laws_FnExactStoreOk.f
 repeat' first
   | (with_reducible exact impl_StoreOk.mono _ _ _ _)
   | (with_reducible exact laws_eqStore.mono _ _ _ _ _ _ _)
   | (with_reducible exact laws_szStore.mono _ _ _ _ _)
   | (with_reducible exact laws_toStore.mono _ _ _ _)
   | (with_reducible exact spec_StoreOk.mono _ _ _ _)
   | (with_reducible exact LeO.refl _)
   | (with_reducible exact LeO.none _)
   | (with_reducible refine LeO.ite ?_ ?_)
   | (with_reducible refine LeO.bind ?_ (fun _=>?_))
   | exact impl_StoreOk.mono _ _ _ _
   | exact laws_eqStore.mono _ _ _ _ _ _ _
   | exact laws_szStore.mono _ _ _ _ _
   | exact laws_toStore.mono _ _ _ _
   | exact spec_StoreOk.mono _ _ _ _
   | exact LeO.none _
   | refine LeO.ite ?_ ?_
   | refine LeO.bind ?_ (fun _=>?_)
set_option maxHeartbeats 8000000 in
set_option maxRecDepth 100000 in
theorem laws_FnExactStoreOk.calls (k : Nat) (A0_0 : Option Addr) (c0_0 : Nat) (l0_0 : List (S184)) (A0_1 : Option Addr) (c0_1 : Nat) (l0_1 : List (S175)) (a0_2 : Int) (r : Bool) (hT : Aside0 (r = true)) (w : World) (hr0_0 : Kd.C k184 w A0_0 l0_0.length l0_0) (hc0_0 : l0_0.length ≤ c0_0) (hr0_1 : Kd.C k175 w A0_1 l0_1.length l0_1) (hc0_1 : l0_1.length ≤ c0_1) (h : laws_FnExactStoreOk.f k l0_0 l0_1 a0_2 = some r) :
  Calls Try.prog 14 #[.agg #[.slice A0_0 l0_0.length c0_0,.slice A0_1 l0_1.length c0_1,.int .i64 a0_2]] w fun e w'=>e = .returned (.bool r) ∧ Below w.heap.size w w':=by
 have hu78:=Try.underlying78;have hu83:=Try.underlying83;have HR0_0:=Aside0.mk hr0_0;have HC0_0:=Aside0.mk hc0_0;clear hr0_0 hc0_0;have HR0_1:=Aside0.mk hr0_1;have HC0_1:=Aside0.mk hc0_1;clear hr0_1 hc0_1;have HB:=Aside0.mk (Below.refl w.heap.size w);have H : ((laws_szStore.f k l0_0 l0_1 a0_2 1048576).bind fun t1727=>(if t1727 < 0 then (some true) else ((laws_toStore.f k l0_0 l0_1 a0_2).bind fun bt1728=>((spec_StoreOk.f k bt1728.1 bt1728.2.1 bt1728.2.2).bind fun t1735=>((laws_toStore.f k l0_0 l0_1 a0_2).bind fun bt1736=>((impl_StoreOk.f k bt1736.1 bt1736.2.1 bt1736.2.2).bind fun t1744=>(if (t1744 != t1735) = true then (some false) else ((laws_toStore.f k l0_0 l0_1 a0_2).bind fun bt1745=>((laws_eqStore.f k bt1736.1 bt1736.2.1 bt1736.2.2 bt1745.1 bt1745.2.1 bt1745.2.2).bind fun t1752=>(if t1752 = true then (some true) else (some false))))))))))) = some r:=h;clear h;replace H:=Option.bind_eq_some_iff.mp H;obtain ⟨t1727,A20,H⟩:=H;replace H : (if t1727 < 0 then (some true) else ((laws_toStore.f k l0_0 l0_1 a0_2).bind fun bt1728=>((spec_StoreOk.f k bt1728.1 bt1728.2.1 bt1728.2.2).bind fun t1735=>((laws_toStore.f k l0_0 l0_1 a0_2).bind fun bt1736=>((impl_StoreOk.f k bt1736.1 bt1736.2.1 bt1736.2.2).bind fun t1744=>(if (t1744 != t1735) = true then (some false) else ((laws_toStore.f k l0_0 l0_1 a0_2).bind fun bt1745=>((laws_eqStore.f k bt1736.1 bt1736.2.1 bt1736.2.2 bt1745.1 bt1745.2.1 bt1745.2.2).bind fun t1752=>(if t1752 = true then (some true) else (some false)))))))))) = some r:=H;have A2:=Aside0.mk A20;clear A20
 by_cases c3 : t1727 < 0
 ·rw [if_pos c3] at H;have c3b0 : decide (t1727 < 0) = true:=decide_eq_true c3;clear c3;obtain rfl:=Option.some.inj H
  go_enter Try.func14,Try.ntmps14
  go_wp2_with (first | ((with_reducible refine gate_dst (N:=1) rfl ?_);refine box_event ?hg (N:=1) ?hd (cs:=#[.slice A0_0 l0_0.length c0_0,.slice A0_1 l0_1.length c0_1,.int .i64 a0_2]) (t:=78) ?hr ?_;(case hd=>rfl);(case hg=>rfl);(case hr=>first | (go_simp;done) | (go_simp;rfl));intro gb1726 hg w4 hbox hb;have n0_:=Aside0.mk (below_step (hs HB) hb);have n1_:=Aside0.mk (hbox);have n2_:=Aside0.mk ((by rw [hg];exact (below_size (hs HB)) : w.heap.size ≤ gb1726));have n3_:=Aside0.mk ((by rw [hg];exact (below_size (hs HB)) : w.heap.size ≤ gb1726));clear HB;have HB:=n0_;have BK1726:=n1_;have GW1726:=n2_;have GE1726:=n3_;clear n0_ n1_ n2_ n3_;clear hb hbox hg;have hcz5_0 : w4.cell? ⟨gb1726,0,none⟩ = some (.slice A0_0 l0_0.length c0_0):=(blk_cell BK1726.out 0).trans rfl;have hcz5_1 : w4.cell? ⟨gb1726,1,none⟩ = some (.slice A0_1 l0_1.length c0_1):=(blk_cell BK1726.out 1).trans rfl;have hcz5_2 : w4.cell? ⟨gb1726,2,none⟩ = some (.int .i64 a0_2):=(blk_cell BK1726.out 2).trans rfl;have hfz5_0:=blk_frozen BK1726.out 0;have hfz5_1:=blk_frozen BK1726.out 1;have hfz5_2:=blk_frozen BK1726.out 2) | ((with_reducible refine gate_callee (f:=44) rfl ?_);refine goesL_ (some 9) rfl rfl Try.func44 (by kernel_rfl) rfl #[.agg #[.slice A0_0 l0_0.length c0_0,.slice A0_1 l0_1.length c0_1,.int .i64 a0_2],.int .i64 1048576] rfl (by (try simp only [List.map_toArray,List.map_cons,List.map_nil]);first | done | rfl | (simp only [List.length_drop,List.length_take];rfl)) ?_;(with_reducible refine (laws_szStore.calls k _ _ l0_0 _ _ l0_1 a0_2 1048576 t1727 _ ?side1 ?side2 ?side3 ?side4 A2.out).mono ?_);(case side1=>repeat (first | exact (Kd.C_below HR0_0.out HB.out) | (with_reducible refine Kd.C_alloc ?_ _) | (with_reducible refine Kd.C_drewN ?_ _) | (with_reducible refine Kd.C_drew ?_)));(case side2=>exact HC0_0.out);(case side3=>repeat (first | exact (Kd.C_below HR0_1.out HB.out) | (with_reducible refine Kd.C_alloc ?_ _) | (with_reducible refine Kd.C_drewN ?_ _) | (with_reducible refine Kd.C_drew ?_)));(case side4=>exact HC0_1.out);rintro e w6 ⟨rfl,hb⟩;refine ⟨_,rfl,?_⟩;have n0_:=Aside0.mk (blk_below (g:=gb1726) (o:=.cells #[.slice A0_0 l0_0.length c0_0,.slice A0_1 l0_1.length c0_1,.int .i64 a0_2] 78 (0,0)) (bs BK1726) hb);have n1_:=Aside0.mk (below_step (hs1 HB GE1726) hb);clear BK1726;clear HB;have BK1726:=n0_;have HB:=n1_;clear n0_ n1_;(try clear hb);(try clear hb2);(try clear hk);(try clear hi)))
  go_ret
  exact ⟨by first | rfl | (simp [errW_none,errW_some] <;> rfl) | (simp [*,errW_none,errW_some] <;> rfl),hs1 HB GE1726⟩
 rw [if_neg c3] at H;have c3b0 : decide (t1727 < 0) = false:=decide_eq_false c3;clear c3;replace H:=Option.bind_eq_some_iff.mp H;obtain ⟨⟨t1728,t1731,t1734⟩,A70,H⟩:=H;replace H : ((spec_StoreOk.f k t1728 t1731 t1734).bind fun t1735=>((laws_toStore.f k l0_0 l0_1 a0_2).bind fun bt1736=>((impl_StoreOk.f k bt1736.1 bt1736.2.1 bt1736.2.2).bind fun t1744=>(if (t1744 != t1735) = true then (some false) else ((laws_toStore.f k l0_0 l0_1 a0_2).bind fun bt1745=>((laws_eqStore.f k bt1736.1 bt1736.2.1 bt1736.2.2 bt1745.1 bt1745.2.1 bt1745.2.2).bind fun t1752=>(if t1752 = true then (some true) else (some false)))))))) = some r:=H;have A7:=Aside0.mk A70;clear A70;replace H:=Option.bind_eq_some_iff.mp H;obtain ⟨t1735,A80,H⟩:=H;replace H : ((laws_toStore.f k l0_0 l0_1 a0_2).bind fun bt1736=>((impl_StoreOk.f k bt1736.1 bt1736.2.1 bt1736.2.2).bind fun t1744=>(if (t1744 != t1735) = true then (some false) else ((laws_toStore.f k l0_0 l0_1 a0_2).bind fun bt1745=>((laws_eqStore.f k bt1736.1 bt1736.2.1 bt1736.2.2 bt1745.1 bt1745.2.1 bt1745.2.2).bind fun t1752=>(if t1752 = true then (some true) else (some false))))))) = some r:=H;have A8:=Aside0.mk A80;clear A80;replace H:=Option.bind_eq_some_iff.mp H;obtain ⟨⟨t1736,t1739,t1742⟩,A90,H⟩:=H;replace H : ((impl_StoreOk.f k t1736 t1739 t1742).bind fun t1744=>(if (t1744 != t1735) = true then (some false) else ((laws_toStore.f k l0_0 l0_1 a0_2).bind fun bt1745=>((laws_eqStore.f k t1736 t1739 t1742 bt1745.1 bt1745.2.1 bt1745.2.2).bind fun t1752=>(if t1752 = true then (some true) else (some false)))))) = some r:=H;have A9:=Aside0.mk A90;clear A90;replace H:=Option.bind_eq_some_iff.mp H;obtain ⟨t1744,A100,H⟩:=H;replace H : (if (t1744 != t1735) = true then (some false) else ((laws_toStore.f k l0_0 l0_1 a0_2).bind fun bt1745=>((laws_eqStore.f k t1736 t1739 t1742 bt1745.1 bt1745.2.1 bt1745.2.2).bind fun t1752=>(if t1752 = true then (some true) else (some false))))) = some r:=H;have A10:=Aside0.mk A100;clear A100
 by_cases c11 : (t1744 != t1735) = true
 ·rw [if_pos c11] at H;have c11b0 : (t1744 != t1735) = true:=c11
  (try (have c11b1 : decide (t1744 = t1735) = false:=by simpa using c11))
  (try (have c11b2 : (t1744 == t1735) = false:=by simpa using c11))
  (try (have c11b3 : ¬ (t1744 = t1735):=by simpa using c11))
  clear c11;exact absurd ((Option.some.inj H).trans hT.out) (by decide)
 rw [if_neg c11] at H;have c11b0 : (t1744 != t1735) = false:=by simpa using c11
 (try (have c11b1 : decide (t1744 = t1735) = true:=by simpa using c11))
 (try (have c11b2 : (t1744 == t1735) = true:=by simpa using c11))
 clear c11;replace H:=Option.bind_eq_some_iff.mp H;obtain ⟨⟨t1745,t1748,t1751⟩,A120,H⟩:=H;replace H : ((laws_eqStore.f k t1736 t1739 t1742 t1745 t1748 t1751).bind fun t1752=>(if t1752 = true then (some true) else (some false))) = some r:=H;have A12:=Aside0.mk A120;clear A120;replace H:=Option.bind_eq_some_iff.mp H;obtain ⟨t1752,A130,H⟩:=H;replace H : (if t1752 = true then (some true) else (some false)) = some r:=H;have A13:=Aside0.mk A130;clear A130
 by_cases c14 : t1752 = true
 ·subst c14;have H1 : (some true) = some r:=by rw [if_pos rfl] at H;exact H
  clear H;have H:=H1;clear H1;obtain rfl:=Option.some.inj H
  go_enter Try.func14,Try.ntmps14
  try go_wp2_with (first | ((with_reducible refine gate_dst (N:=1) rfl ?_);refine box_event ?hg (N:=1) ?hd (cs:=#[.slice A0_0 l0_0.length c0_0,.slice A0_1 l0_1.length c0_1,.int .i64 a0_2]) (t:=78) ?hr ?_;(case hd=>rfl);(case hg=>rfl);(case hr=>first | (go_simp;done) | (go_simp;rfl));intro gb1726 hg w15 hbox hb;have n0_:=Aside0.mk (below_step (hs HB) hb);have n1_:=Aside0.mk (hbox);have n2_:=Aside0.mk ((by rw [hg];exact (below_size (hs HB)) : w.heap.size ≤ gb1726));have n3_:=Aside0.mk ((by rw [hg];exact (below_size (hs HB)) : w.heap.size ≤ gb1726));clear HB;have HB:=n0_;have BK1726:=n1_;have GW1726:=n2_;have GE1726:=n3_;clear n0_ n1_ n2_ n3_;clear hb hbox hg;have hcz16_0 : w15.cell? ⟨gb1726,0,none⟩ = some (.slice A0_0 l0_0.length c0_0):=(blk_cell BK1726.out 0).trans rfl;have hcz16_1 : w15.cell? ⟨gb1726,1,none⟩ = some (.slice A0_1 l0_1.length c0_1):=(blk_cell BK1726.out 1).trans rfl;have hcz16_2 : w15.cell? ⟨gb1726,2,none⟩ = some (.int .i64 a0_2):=(blk_cell BK1726.out 2).trans rfl;have hfz16_0:=blk_frozen BK1726.out 0;have hfz16_1:=blk_frozen BK1726.out 1;have hfz16_2:=blk_frozen BK1726.out 2) | ((with_reducible refine gate_callee (f:=44) rfl ?_);refine goesL_ (some 9) rfl rfl Try.func44 (by kernel_rfl) rfl #[.agg #[.slice A0_0 l0_0.length c0_0,.slice A0_1 l0_1.length c0_1,.int .i64 a0_2],.int .i64 1048576] rfl (by (try simp only [List.map_toArray,List.map_cons,List.map_nil]);first | done | rfl | (simp only [List.length_drop,List.length_take];rfl)) ?_;(with_reducible refine (laws_szStore.calls k _ _ l0_0 _ _ l0_1 a0_2 1048576 t1727 _ ?side1 ?side2 ?side3 ?side4 A2.out).mono ?_);(case side1=>repeat (first | exact (Kd.C_below HR0_0.out HB.out) | (with_reducible refine Kd.C_alloc ?_ _) | (with_reducible refine Kd.C_drewN ?_ _) | (with_reducible refine Kd.C_drew ?_)));(case side2=>exact HC0_0.out);(case side3=>repeat (first | exact (Kd.C_below HR0_1.out HB.out) | (with_reducible refine Kd.C_alloc ?_ _) | (with_reducible refine Kd.C_drewN ?_ _) | (with_reducible refine Kd.C_drew ?_)));(case side4=>exact HC0_1.out);rintro e w17 ⟨rfl,hb⟩;refine ⟨_,rfl,?_⟩;have n0_:=Aside0.mk (blk_below (g:=gb1726) (o:=.cells #[.slice A0_0 l0_0.length c0_0,.slice A0_1 l0_1.length c0_1,.int .i64 a0_2] 78 (0,0)) (bs BK1726) hb);have n1_:=Aside0.mk (below_step (hs1 HB GE1726) hb);clear BK1726;clear HB;have BK1726:=n0_;have HB:=n1_;clear n0_ n1_;(try clear hb);(try clear hb2);(try clear hk);(try clear hi);have hcz18_0 : w17.cell? ⟨gb1726,0,none⟩ = some (.slice A0_0 l0_0.length c0_0):=(blk_cell BK1726.out 0).trans rfl;have hcz18_1 : w17.cell? ⟨gb1726,1,none⟩ = some (.slice A0_1 l0_1.length c0_1):=(blk_cell BK1726.out 1).trans rfl;have hcz18_2 : w17.cell? ⟨gb1726,2,none⟩ = some (.int .i64 a0_2):=(blk_cell BK1726.out 2).trans rfl;have hfz18_0:=blk_frozen BK1726.out 0;have hfz18_1:=blk_frozen BK1726.out 1;have hfz18_2:=blk_frozen BK1726.out 2) | ((with_reducible refine gate_callee (f:=46) rfl ?_);refine goesL_ (some 13) rfl rfl Try.func46 (by kernel_rfl) rfl #[.agg #[.slice A0_0 l0_0.length c0_0,.slice A0_1 l0_1.length c0_1,.int .i64 a0_2]] rfl (by (try simp only [List.map_toArray,List.map_cons,List.map_nil]);first | done | rfl | (simp only [List.length_drop,List.length_take];rfl)) ?_;(with_reducible refine (laws_toStore.calls k _ _ l0_0 _ _ l0_1 a0_2 t1728 t1731 t1734 _ ?side1 ?side2 ?side3 ?side4 A7.out).mono ?_);(case side1=>repeat (first | exact (Kd.C_below HR0_0.out HB.out) | (with_reducible refine Kd.C_alloc ?_ _) | (with_reducible refine Kd.C_drewN ?_ _) | (with_reducible refine Kd.C_drew ?_)));(case side2=>exact HC0_0.out);(case side3=>repeat (first | exact (Kd.C_below HR0_1.out HB.out) | (with_reducible refine Kd.C_alloc ?_ _) | (with_reducible refine Kd.C_drewN ?_ _) | (with_reducible refine Kd.C_drew ?_)));(case side4=>exact HC0_1.out);rintro e w19 ⟨v1729,v1732,rfl,ho0,ho1,hb⟩;refine ⟨_,rfl,?_⟩;have n0_:=Aside0.mk (Kd.R_lower ho0 (below_size (hs1 HB GE1726)));have n1_:=Aside0.mk (Kd.S_lower ho1 (below_size (hs1 HB GE1726)));have n2_:=Aside0.mk (blk_below (g:=gb1726) (o:=.cells #[.slice A0_0 l0_0.length c0_0,.slice A0_1 l0_1.length c0_1,.int .i64 a0_2] 78 (0,0)) (bs BK1726) hb);have n3_:=Aside0.mk (below_step (hs1 HB GE1726) hb);clear BK1726;clear HB;have HO1730:=n0_;have HO1733:=n1_;have BK1726:=n2_;have HB:=n3_;clear n0_ n1_ n2_ n3_;(try clear hb);(try clear hb2);(try clear hk);(try clear hi);(try clear ho0);(try clear ho1);obtain ⟨Ao20,co20,eo20⟩:=Kd.R_slice HO1730.out;subst eo20;obtain ⟨Ao21,co21,eo21⟩:=Kd.S_slice HO1733.out;subst eo21) | ((with_reducible refine gate_callee (f:=77) rfl ?_);refine goesL_ (some 14) rfl rfl Try.func77 (by kernel_rfl) rfl #[.agg #[.slice Ao20 t1728.length co20,.slice Ao21 t1731.length co21,.int .i64 t1734]] rfl (by (try simp only [List.map_toArray,List.map_cons,List.map_nil]);first | done | rfl | (simp only [List.length_drop,List.length_take];rfl)) ?_;(with_reducible refine (spec_StoreOk.calls k _ _ t1728 _ _ t1731 t1734 t1735 _ ?side1 ?side2 ?side3 ?side4 A8.out).mono ?_);(case side1=>repeat (first | exact (Kd.R_reads' HO1730.out).2.2 | (with_reducible refine Kd.C_alloc ?_ _) | (with_reducible refine Kd.C_drewN ?_ _) | (with_reducible refine Kd.C_drew ?_)));(case side2=>exact (Kd.R_reads' HO1730.out).2.1);(case side3=>repeat (first | exact (Kd.S_reads' HO1733.out).2.2 | (with_reducible refine Kd.C_alloc ?_ _) | (with_reducible refine Kd.C_drewN ?_ _) | (with_reducible refine Kd.C_drew ?_)));(case side4=>exact (Kd.S_reads' HO1733.out).2.1);rintro e w22 ⟨rfl,hb⟩;refine ⟨_,rfl,?_⟩;have n0_:=Aside0.mk (Kd.R_below (rs HO1730) hb);have n1_:=Aside0.mk (Kd.S_below (ss HO1733) hb);have n2_:=Aside0.mk (blk_below (g:=gb1726) (o:=.cells #[.slice A0_0 l0_0.length c0_0,.slice A0_1 l0_1.length c0_1,.int .i64 a0_2] 78 (0,0)) (bs BK1726) hb);have n3_:=Aside0.mk (below_step (hs1 HB GE1726) hb);clear HO1730;clear HO1733;clear BK1726;clear HB;have HO1730:=n0_;have HO1733:=n1_;have BK1726:=n2_;have HB:=n3_;clear n0_ n1_ n2_ n3_;(try clear hb);(try clear hb2);(try clear hk);(try clear hi);have hcz23_0 : w22.cell? ⟨gb1726,0,none⟩ = some (.slice A0_0 l0_0.length c0_0):=(blk_cell BK1726.out 0).trans rfl;have hcz23_1 : w22.cell? ⟨gb1726,1,none⟩ = some (.slice A0_1 l0_1.length c0_1):=(blk_cell BK1726.out 1).trans rfl;have hcz23_2 : w22.cell? ⟨gb1726,2,none⟩ = some (.int .i64 a0_2):=(blk_cell BK1726.out 2).trans rfl;have hfz23_0:=blk_frozen BK1726.out 0;have hfz23_1:=blk_frozen BK1726.out 1;have hfz23_2:=blk_frozen BK1726.out 2) | ((with_reducible refine gate_callee (f:=46) rfl ?_);refine goesL_ (some 16) rfl rfl Try.func46 (by kernel_rfl) rfl #[.agg #[.slice A0_0 l0_0.length c0_0,.slice A0_1 l0_1.length c0_1,.int .i64 a0_2]] rfl (by (try simp only [List.map_toArray,List.map_cons,List.map_nil]);first | done | rfl | (simp only [List.length_drop,List.length_take];rfl)) ?_;(with_reducible refine (laws_toStore.calls k _ _ l0_0 _ _ l0_1 a0_2 t1736 t1739 t1742 _ ?side1 ?side2 ?side3 ?side4 A9.out).mono ?_);(case side1=>repeat (first | exact (Kd.C_below HR0_0.out HB.out) | (with_reducible refine Kd.C_alloc ?_ _) | (with_reducible refine Kd.C_drewN ?_ _) | (with_reducible refine Kd.C_drew ?_)));(case side2=>exact HC0_0.out);(case side3=>repeat (first | exact (Kd.C_below HR0_1.out HB.out) | (with_reducible refine Kd.C_alloc ?_ _) | (with_reducible refine Kd.C_drewN ?_ _) | (with_reducible refine Kd.C_drew ?_)));(case side4=>exact HC0_1.out);rintro e w24 ⟨v1737,v1740,rfl,ho0,ho1,hb⟩;refine ⟨_,rfl,?_⟩;have n0_:=Aside0.mk (Kd.R_elder' (rs HO1730) (Kd.R_base ho0) hb);have n1_:=Aside0.mk (Kd.S_elder' (ss HO1733) (Kd.S_base ho1) hb);have n2_:=Aside0.mk (Kd.R_lower (Kd.R_new' ho0 (Kd.R_lt (rs HO1730))) (below_size (hs1 HB GE1726)));have n3_:=Aside0.mk (Kd.S_lower (Kd.S_new' ho1 (Kd.S_lt (ss HO1733))) (below_size (hs1 HB GE1726)));have n4_:=Aside0.mk (blk_below (g:=gb1726) (o:=.cells #[.slice A0_0 l0_0.length c0_0,.slice A0_1 l0_1.length c0_1,.int .i64 a0_2] 78 (0,0)) (bs BK1726) hb);have n5_:=Aside0.mk (below_step (hs1 HB GE1726) hb);clear HO1730;clear HO1733;clear BK1726;clear HB;have HO1730:=n0_;have HO1733:=n1_;have HO1738:=n2_;have HO1741:=n3_;have BK1726:=n4_;have HB:=n5_;clear n0_ n1_ n2_ n3_ n4_ n5_;(try clear hb);(try clear hb2);(try clear hk);(try clear hi);(try clear ho0);(try clear ho1)) | ((with_reducible refine gate_dst (N:=5) rfl ?_);refine box_event ?hg (N:=5) ?hd (cs:=#[.slice none 0 0,.slice none 0 0,.int .i64 0]) (t:=83) ?hr ?_;(case hd=>rfl);(case hg=>rfl);(case hr=>first | (go_simp;done) | (go_simp;rfl));intro gb1743 hg w25 hbox hb;have n0_:=Aside0.mk (Kd.R_below (rs HO1730) hb);have n1_:=Aside0.mk (Kd.S_below (ss HO1733) hb);have n2_:=Aside0.mk (Kd.R_below (rs HO1738) hb);have n3_:=Aside0.mk (Kd.S_below (ss HO1741) hb);have n4_:=Aside0.mk (blk_below (g:=gb1726) (o:=.cells #[.slice A0_0 l0_0.length c0_0,.slice A0_1 l0_1.length c0_1,.int .i64 a0_2] 78 (0,0)) (bs BK1726) hb);have n5_:=Aside0.mk (below_step (hs1 HB GE1726) hb);have n6_:=Aside0.mk (hbox);have n7_:=Aside0.mk ((by rw [hg];exact (below_size (hs1 HB GE1726)) : w.heap.size ≤ gb1743));have n8_:=Aside0.mk ((by rw [hg];exact (below_size (hs1 HB GE1726)) : w.heap.size ≤ gb1743));have n9_:=Aside0.mk ((by rw [hg];exact Nat.ne_of_lt (blk_lt (g:=gb1726) (o:=.cells #[.slice A0_0 l0_0.length c0_0,.slice A0_1 l0_1.length c0_1,.int .i64 a0_2] 78 (0,0)) (bs BK1726)) : gb1726 ≠ gb1743));have n10_:=Aside0.mk ((by rw [hg];exact Nat.ne_of_gt (blk_lt (g:=gb1726) (o:=.cells #[.slice A0_0 l0_0.length c0_0,.slice A0_1 l0_1.length c0_1,.int .i64 a0_2] 78 (0,0)) (bs BK1726)) : gb1743 ≠ gb1726));clear HO1730;clear HO1733;clear HO1738;clear HO1741;clear BK1726;clear HB;have HO1730:=n0_;have HO1733:=n1_;have HO1738:=n2_;have HO1741:=n3_;have BK1726:=n4_;have HB:=n5_;have BK1743:=n6_;have GW1743:=n7_;have GE1743:=n8_;have NB1726_1743:=n9_;have NB1743_1726:=n10_;clear n0_ n1_ n2_ n3_ n4_ n5_ n6_ n7_ n8_ n9_ n10_;clear hb hbox hg;obtain ⟨Ao26,co26,eo26⟩:=Kd.R_slice HO1738.out;subst eo26;have hnb27:=NB1743_1726.out;have hnc27:=NB1726_1743.out;have hcz28_0 : w25.cell? ⟨gb1743,0,none⟩ = some (.slice none 0 0):=(blk_cell BK1743.out 0).trans rfl;have hcz28_1 : w25.cell? ⟨gb1743,1,none⟩ = some (.slice none 0 0):=(blk_cell BK1743.out 1).trans rfl;have hcz28_2 : w25.cell? ⟨gb1743,2,none⟩ = some (.int .i64 0):=(blk_cell BK1743.out 2).trans rfl;have hfz28_0:=blk_frozen BK1743.out 0;have hfz28_1:=blk_frozen BK1743.out 1;have hfz28_2:=blk_frozen BK1743.out 2;obtain ⟨Ao29,co29,eo29⟩:=Kd.S_slice HO1741.out;subst eo29) | ((with_reducible refine gate_callee (f:=78) rfl ?_);refine goesL_ (some 18) rfl rfl Try.func78 (by kernel_rfl) rfl #[.agg #[.slice Ao26 t1736.length co26,.slice Ao29 t1739.length co29,.int .i64 t1742]] rfl (by (try simp only [List.map_toArray,List.map_cons,List.map_nil]);first | done | rfl | (simp only [List.length_drop,List.length_take];rfl)) ?_;(with_reducible refine (impl_StoreOk.calls k _ _ t1736 _ _ t1739 t1742 t1744 _ ?side1 ?side2 ?side3 ?side4 A10.out).mono ?_);(case side1=>refine (Kd.R_reads' (e:=147) (base:=w.heap.size) (ok:=fun k_=>(True ∧ some k_ ≠ (.slice Ao20 t1728.length co20 : Value).ownBlock)) (n:=t1736.length) (c:=co26) ?_).2.2;exact (by (with_reducible repeat (first | apply Kd.R_alloc | apply Kd.R_drewN | apply Kd.R_drew));exact (Kd.R_mono (Kd.R_far (p:=⟨gb1743,2,none⟩) (Kd.R_far (p:=⟨gb1743,1,none⟩) (Kd.R_far (p:=⟨gb1743,0,none⟩) (Kd.R_types HO1738.out BK1743.out (by decide)) (fun _ hk=>hk.2) (.slice Ao26 t1736.length co26)) (fun _ hk=>hk.2) (.slice Ao29 t1739.length co29)) (fun _ hk=>hk.2) (.int .i64 t1742)) (fun _ h_=>h_.1))));(case side2=>exact (Kd.R_reads' HO1738.out).2.1);(case side3=>refine (Kd.S_reads' (e:=133) (base:=w.heap.size) (ok:=fun k_=>(True ∧ some k_ ≠ (.slice Ao21 t1731.length co21 : Value).ownBlock)) (n:=t1739.length) (c:=co29) ?_).2.2;exact (by (with_reducible repeat (first | apply Kd.S_alloc | apply Kd.S_drewN | apply Kd.S_drew));exact (Kd.S_mono (Kd.S_far (p:=⟨gb1743,2,none⟩) (Kd.S_far (p:=⟨gb1743,1,none⟩) (Kd.S_far (p:=⟨gb1743,0,none⟩) (Kd.S_types HO1741.out BK1743.out (by decide)) (fun _ hk=>hk.2) (.slice Ao26 t1736.length co26)) (fun _ hk=>hk.2) (.slice Ao29 t1739.length co29)) (fun _ hk=>hk.2) (.int .i64 t1742)) (fun _ h_=>h_.1))));(case side4=>exact (Kd.S_reads' HO1741.out).2.1);rintro e w30 ⟨rfl,hb⟩;refine ⟨_,rfl,?_⟩;have n0_:=Aside0.mk (Kd.R_below (by (with_reducible repeat (first | apply Kd.R_alloc | apply Kd.R_drewN | apply Kd.R_drew));exact (Kd.R_mono (Kd.R_far (p:=⟨gb1743,2,none⟩) (Kd.R_far (p:=⟨gb1743,1,none⟩) (Kd.R_far (p:=⟨gb1743,0,none⟩) (Kd.R_types HO1730.out BK1743.out (by decide)) (fun _ hk=>hk.2) (.slice Ao26 t1736.length co26)) (fun _ hk=>hk.2) (.slice Ao29 t1739.length co29)) (fun _ hk=>hk.2) (.int .i64 t1742)) (fun _ h_=>h_.1))) hb);have n1_:=Aside0.mk (Kd.S_below (by (with_reducible repeat (first | apply Kd.S_alloc | apply Kd.S_drewN | apply Kd.S_drew));exact (Kd.S_mono (Kd.S_far (p:=⟨gb1743,2,none⟩) (Kd.S_far (p:=⟨gb1743,1,none⟩) (Kd.S_far (p:=⟨gb1743,0,none⟩) (Kd.S_types HO1733.out BK1743.out (by decide)) (fun _ hk=>hk.2) (.slice Ao26 t1736.length co26)) (fun _ hk=>hk.2) (.slice Ao29 t1739.length co29)) (fun _ hk=>hk.2) (.int .i64 t1742)) (fun _ h_=>h_.1))) hb);have n2_:=Aside0.mk (Kd.R_below (by (with_reducible repeat (first | apply Kd.R_alloc | apply Kd.R_drewN | apply Kd.R_drew));exact (Kd.R_mono (Kd.R_far (p:=⟨gb1743,2,none⟩) (Kd.R_far (p:=⟨gb1743,1,none⟩) (Kd.R_far (p:=⟨gb1743,0,none⟩) (Kd.R_types HO1738.out BK1743.out (by decide)) (fun _ hk=>hk.2) (.slice Ao26 t1736.length co26)) (fun _ hk=>hk.2) (.slice Ao29 t1739.length co29)) (fun _ hk=>hk.2) (.int .i64 t1742)) (fun _ h_=>h_.1))) hb);have n3_:=Aside0.mk (Kd.S_below (by (with_reducible repeat (first | apply Kd.S_alloc | apply Kd.S_drewN | apply Kd.S_drew));exact (Kd.S_mono (Kd.S_far (p:=⟨gb1743,2,none⟩) (Kd.S_far (p:=⟨gb1743,1,none⟩) (Kd.S_far (p:=⟨gb1743,0,none⟩) (Kd.S_types HO1741.out BK1743.out (by decide)) (fun _ hk=>hk.2) (.slice Ao26 t1736.length co26)) (fun _ hk=>hk.2) (.slice Ao29 t1739.length co29)) (fun _ hk=>hk.2) (.int .i64 t1742)) (fun _ h_=>h_.1))) hb);have n4_:=Aside0.mk (blk_below (g:=gb1726) (o:=.cells #[.slice A0_0 l0_0.length c0_0,.slice A0_1 l0_1.length c0_1,.int .i64 a0_2] 78 (0,0)) (by (with_reducible repeat (first | refine blk_drewN ?_ _ | refine blk_drew ?_ | refine blk_alloc ?_ _));refine blk_far ?_ NB1726_1743.out _;(with_reducible repeat (first | refine blk_drewN ?_ _ | refine blk_drew ?_ | refine blk_alloc ?_ _));refine blk_far ?_ NB1726_1743.out _;(with_reducible repeat (first | refine blk_drewN ?_ _ | refine blk_drew ?_ | refine blk_alloc ?_ _));refine blk_far ?_ NB1726_1743.out _;(with_reducible repeat (first | refine blk_drewN ?_ _ | refine blk_drew ?_ | refine blk_alloc ?_ _));exact BK1726.out) hb);have n5_:=Aside0.mk (blk_below (g:=gb1743) (o:=.cells #[.slice Ao26 t1736.length co26,.slice Ao29 t1739.length co29,.int .i64 t1742] 83 (0,0)) (by (with_reducible repeat (first | refine blk_drewN ?_ _ | refine blk_drew ?_ | refine blk_alloc ?_ _));refine blk_put (cs:=#[.slice Ao26 t1736.length co26,.slice Ao29 t1739.length co29,.int .i64 0]) ?_ 2 _ rfl;(with_reducible repeat (first | refine blk_drewN ?_ _ | refine blk_drew ?_ | refine blk_alloc ?_ _));refine blk_put (cs:=#[.slice Ao26 t1736.length co26,.slice none 0 0,.int .i64 0]) ?_ 1 _ rfl;(with_reducible repeat (first | refine blk_drewN ?_ _ | refine blk_drew ?_ | refine blk_alloc ?_ _));refine blk_put (cs:=#[.slice none 0 0,.slice none 0 0,.int .i64 0]) ?_ 0 _ rfl;(with_reducible repeat (first | refine blk_drewN ?_ _ | refine blk_drew ?_ | refine blk_alloc ?_ _));exact BK1743.out) hb);have n6_:=Aside0.mk (below_step (hs2 HB GE1726 GE1743) hb);clear HO1730;clear HO1733;clear HO1738;clear HO1741;clear BK1726;clear BK1743;clear HB;have HO1730:=n0_;have HO1733:=n1_;have HO1738:=n2_;have HO1741:=n3_;have BK1726:=n4_;have BK1743:=n5_;have HB:=n6_;clear n0_ n1_ n2_ n3_ n4_ n5_ n6_;(try clear hb);(try clear hb2);(try clear hk);(try clear hi)))
  have n0_:=Aside0.mk (Kd.R_drew HO1730.out);have n1_:=Aside0.mk (Kd.S_drew HO1733.out);have n2_:=Aside0.mk (Kd.R_drew HO1738.out);have n3_:=Aside0.mk (Kd.S_drew HO1741.out);have n4_:=Aside0.mk (blk_drew BK1726.out);have n5_:=Aside0.mk (blk_drew BK1743.out);have n6_:=Aside0.mk (below_drew1 HB.out);clear HO1730;clear HO1733;clear HO1738;clear HO1741;clear BK1726;clear BK1743;clear HB;have HO1730:=n0_;have HO1733:=n1_;have HO1738:=n2_;have HO1741:=n3_;have BK1726:=n4_;have BK1743:=n5_;have HB:=n6_;clear n0_ n1_ n2_ n3_ n4_ n5_ n6_;refine start_ (n:=5) (S:=fun w'=>w'.cell? ⟨gb1743,0,none⟩ = some (.slice Ao26 t1736.length co26) ∧ w'.cell? ⟨gb1743,1,none⟩ = some (.slice Ao29 t1739.length co29) ∧ w'.cell? ⟨gb1743,2,none⟩ = some (.int .i64 t1742) ∧ w'.cell? ⟨gb1726,0,none⟩ = some (.slice A0_0 l0_0.length c0_0) ∧ w'.cell? ⟨gb1726,1,none⟩ = some (.slice A0_1 l0_1.length c0_1) ∧ w'.cell? ⟨gb1726,2,none⟩ = some (.int .i64 a0_2)) (ds:=[]) #[false,false,false,false,false] (by kernel_rfl) rfl rfl ⟨(blk_cell BK1743.out 0).trans rfl,(blk_cell BK1743.out 1).trans rfl,(blk_cell BK1743.out 2).trans rfl,(blk_cell BK1726.out 0).trans rfl,(blk_cell BK1726.out 1).trans rfl,(blk_cell BK1726.out 2).trans rfl⟩ (fun hHeld=>?_);generalize w30.drew = w31 at HO1730 HO1733 HO1738 HO1741 BK1726 BK1743 HB hHeld ⊢;refine take_ (i:=0) (N:=some 22) (v:=?_) (a':=?_) #[true,false,false,false,false] rfl rfl (by kernel_rfl) (fun _ _ _ h=>h) (Or.inl ⟨by rfl,?_⟩) hHeld ?_ ?_;rotate_left
  ·rintro w' ⟨s0,s1,s2,s3,s4,s5⟩;go_simp;with_reducible rfl
  rotate_left
  ·simp only [Act.put,List.setIfInBounds_toArray,List.set_cons_zero,List.set_cons_succ,i64_w,i32_w];rfl
  refine take_ (i:=1) (N:=some 23) (v:=?_) (a':=?_) #[true,true,false,false,false] rfl rfl (by kernel_rfl) (fun _ _ _ h=>h) (Or.inl ⟨by rfl,?_⟩) hHeld ?_ ?_;rotate_left
  ·rintro w' ⟨s0,s1,s2,s3,s4,s5⟩;go_simp;with_reducible rfl
  rotate_left
  ·simp only [Act.put,List.setIfInBounds_toArray,List.set_cons_zero,List.set_cons_succ,i64_w,i32_w];rfl
  refine one_ (i:=2) (N:=some 24) #[true,true,true,false,false] rfl rfl (by kernel_rfl) (by decide) (fun K hK=>?_);refine goes_ Try.func46 (by kernel_rfl) rfl #[.agg #[.slice A0_0 l0_0.length c0_0,.slice A0_1 l0_1.length c0_1,.int .i64 a0_2]] (by rfl) rfl rfl (by (try simp only [List.map_toArray,List.map_cons,List.map_nil]);first | done | rfl | (simp only [List.length_drop,List.length_take];rfl)) ?_;with_reducible refine (laws_toStore.calls k _ _ l0_0 _ _ l0_1 a0_2 t1745 t1748 t1751 _ ?side1 ?side2 ?side3 ?side4 A12.out).mono ?_
  (case side1=>repeat (first | exact (Kd.C_below HR0_0.out HB.out) | (with_reducible refine Kd.C_alloc ?_ _) | (with_reducible refine Kd.C_drewN ?_ _) | (with_reducible refine Kd.C_drew ?_)))
  (case side2=>exact HC0_0.out)
  (case side3=>repeat (first | exact (Kd.C_below HR0_1.out HB.out) | (with_reducible refine Kd.C_alloc ?_ _) | (with_reducible refine Kd.C_drewN ?_ _) | (with_reducible refine Kd.C_drew ?_)))
  (case side4=>exact HC0_1.out)
  rintro e w32 ⟨v1746,v1749,rfl,ho0,ho1,hb⟩;refine ⟨_,rfl,?_⟩;have n0_:=Aside0.mk (Kd.R_elder' (rs HO1730) (Kd.R_base ho0) hb);have n1_:=Aside0.mk (Kd.S_elder' (ss HO1733) (Kd.S_base ho1) hb);have n2_:=Aside0.mk (Kd.R_elder' (rs HO1738) (Kd.R_base ho0) hb);have n3_:=Aside0.mk (Kd.S_elder' (ss HO1741) (Kd.S_base ho1) hb);have n4_:=Aside0.mk (Kd.R_lower (Kd.R_new' (Kd.R_new' ho0 (Kd.R_lt (rs HO1730))) (Kd.R_lt (rs HO1738))) (below_size (hs2 HB GE1726 GE1743)));have n5_:=Aside0.mk (Kd.S_lower (Kd.S_new' (Kd.S_new' ho1 (Kd.S_lt (ss HO1733))) (Kd.S_lt (ss HO1741))) (below_size (hs2 HB GE1726 GE1743)));have n6_:=Aside0.mk (blk_below (g:=gb1726) (o:=.cells #[.slice A0_0 l0_0.length c0_0,.slice A0_1 l0_1.length c0_1,.int .i64 a0_2] 78 (0,0)) (bs BK1726) hb);have n7_:=Aside0.mk (blk_below (g:=gb1743) (o:=.cells #[.slice Ao26 t1736.length co26,.slice Ao29 t1739.length co29,.int .i64 t1742] 83 (0,0)) (bs BK1743) hb);have n8_:=Aside0.mk (below_step (hs2 HB GE1726 GE1743) hb);clear HO1730;clear HO1733;clear HO1738;clear HO1741;clear BK1726;clear BK1743;clear HB;have HO1730:=n0_;have HO1733:=n1_;have HO1738:=n2_;have HO1741:=n3_;have HO1747:=n4_;have HO1750:=n5_;have BK1726:=n6_;have BK1743:=n7_;have HB:=n8_;clear n0_ n1_ n2_ n3_ n4_ n5_ n6_ n7_ n8_
  (try clear hb)
  (try clear hb2)
  (try clear hk)
  (try clear hi)
  (try clear ho0)
  (try clear ho1)
  obtain ⟨Ao33,co33,eo33⟩:=Kd.R_slice HO1747.out
  (first | subst eo33 | (injection eo33 with f1_ f2_ f3_;have f4_:=f1_.symm;have f5_:=f3_.symm;clear f1_ f2_ f3_;subst f4_;subst f5_))
  obtain ⟨Ao34,co34,eo34⟩:=Kd.S_slice HO1750.out
  (first | subst eo34 | (injection eo34 with f1_ f2_ f3_;have f4_:=f1_.symm;have f5_:=f3_.symm;clear f1_ f2_ f3_;subst f4_;subst f5_))
  refine hK.out _ _ ⟨(blk_cell BK1743.out 0).trans rfl,(blk_cell BK1743.out 1).trans rfl,(blk_cell BK1743.out 2).trans rfl,(blk_cell BK1726.out 0).trans rfl,(blk_cell BK1726.out 1).trans rfl,(blk_cell BK1726.out 2).trans rfl⟩ (fun hHeld=>?_);clear hK K;refine norm_ (a':=?_) ?_ ?_;rotate_left
  ·show Act.put _ (some 24) _ = _;simp only [Act.put,List.setIfInBounds_toArray,List.set_cons_zero,List.set_cons_succ,i64_w,i32_w];rfl
  refine one_ (i:=3) (N:=some 25) #[true,true,true,true,false] rfl rfl (by kernel_rfl) (by decide) (fun K hK=>?_);refine goes_ Try.func48 (by kernel_rfl) rfl #[.agg #[.slice Ao26 t1736.length co26,.slice Ao29 t1739.length co29,.int .i64 t1742],.agg #[.slice Ao33 t1745.length co33,.slice Ao34 t1748.length co34,.int .i64 t1751]] (by rfl) rfl rfl (by (try simp only [List.map_toArray,List.map_cons,List.map_nil]);first | done | rfl | (simp only [List.length_drop,List.length_take];rfl)) ?_;with_reducible refine (laws_eqStore.calls k _ _ t1736 _ _ t1739 t1742 _ _ t1745 _ _ t1748 t1751 true _ ?side1 ?side2 ?side3 ?side4 ?side5 ?side6 ?side7 ?side8 A13.out).mono ?_
  (case side1=>repeat (first | exact (Kd.R_reads' HO1738.out).2.2 | (with_reducible refine Kd.C_alloc ?_ _) | (with_reducible refine Kd.C_drewN ?_ _) | (with_reducible refine Kd.C_drew ?_)))
  (case side2=>exact (Kd.R_reads' HO1738.out).2.1)
  (case side3=>repeat (first | exact (Kd.S_reads' HO1741.out).2.2 | (with_reducible refine Kd.C_alloc ?_ _) | (with_reducible refine Kd.C_drewN ?_ _) | (with_reducible refine Kd.C_drew ?_)))
  (case side4=>exact (Kd.S_reads' HO1741.out).2.1)
  (case side5=>repeat (first | exact (Kd.R_reads' HO1747.out).2.2 | (with_reducible refine Kd.C_alloc ?_ _) | (with_reducible refine Kd.C_drewN ?_ _) | (with_reducible refine Kd.C_drew ?_)))
  (case side6=>exact (Kd.R_reads' HO1747.out).2.1)
  (case side7=>repeat (first | exact (Kd.S_reads' HO1750.out).2.2 | (with_reducible refine Kd.C_alloc ?_ _) | (with_reducible refine Kd.C_drewN ?_ _) | (with_reducible refine Kd.C_drew ?_)))
  (case side8=>exact (Kd.S_reads' HO1750.out).2.1)
  rintro e w35 ⟨rfl,hb⟩;refine ⟨_,rfl,?_⟩;have n0_:=Aside0.mk (Kd.R_below (rs HO1730) hb);have n1_:=Aside0.mk (Kd.S_below (ss HO1733) hb);have n2_:=Aside0.mk (Kd.R_below (rs HO1738) hb);have n3_:=Aside0.mk (Kd.S_below (ss HO1741) hb);have n4_:=Aside0.mk (Kd.R_below (rs HO1747) hb);have n5_:=Aside0.mk (Kd.S_below (ss HO1750) hb);have n6_:=Aside0.mk (blk_below (g:=gb1726) (o:=.cells #[.slice A0_0 l0_0.length c0_0,.slice A0_1 l0_1.length c0_1,.int .i64 a0_2] 78 (0,0)) (bs BK1726) hb);have n7_:=Aside0.mk (blk_below (g:=gb1743) (o:=.cells #[.slice Ao26 t1736.length co26,.slice Ao29 t1739.length co29,.int .i64 t1742] 83 (0,0)) (bs BK1743) hb);have n8_:=Aside0.mk (below_step (hs2 HB GE1726 GE1743) hb);clear HO1730;clear HO1733;clear HO1738;clear HO1741;clear HO1747;clear HO1750;clear BK1726;clear BK1743;clear HB;have HO1730:=n0_;have HO1733:=n1_;have HO1738:=n2_;have HO1741:=n3_;have HO1747:=n4_;have HO1750:=n5_;have BK1726:=n6_;have BK1743:=n7_;have HB:=n8_;clear n0_ n1_ n2_ n3_ n4_ n5_ n6_ n7_ n8_
  (try clear hb)
  (try clear hb2)
  (try clear hk)
  (try clear hi)
  refine hK.out _ _ ⟨(blk_cell BK1743.out 0).trans rfl,(blk_cell BK1743.out 1).trans rfl,(blk_cell BK1743.out 2).trans rfl,(blk_cell BK1726.out 0).trans rfl,(blk_cell BK1726.out 1).trans rfl,(blk_cell BK1726.out 2).trans rfl⟩ (fun hHeld=>?_);clear hK K;refine norm_ (a':=?_) ?_ ?_;rotate_left
  ·show Act.put _ (some 25) _ = _;simp only [Act.put,List.setIfInBounds_toArray,List.set_cons_zero,List.set_cons_succ,i64_w,i32_w];rfl
  refine pure_ (i:=4) (N:=some 26) (v:=?_) (a':=?_) #[true,true,true,true,true] rfl rfl (by kernel_rfl) (fun _ _ _ h=>h) (Or.inl ⟨by rfl,?_⟩) ?_ ?_;rotate_left
  ·intro w';go_simp;with_reducible rfl
  rotate_left
  ·simp only [Act.put,List.setIfInBounds_toArray,List.set_cons_zero,List.set_cons_succ,i64_w,i32_w];rfl
  refine done_ (by kernel_rfl) ?_
  try go_wp2
  go_ret
  exact ⟨by first | rfl | (simp [errW_none,errW_some] <;> rfl) | (simp [*,errW_none,errW_some] <;> rfl),hs2 HB GE1726 GE1743⟩
 replace c14:=Bool.eq_false_iff.mpr c14;subst c14;have H1 : (some false) = some r:=by rw [if_neg (show ¬ (false = true) by decide)] at H;exact H
 clear H;have H:=H1;clear H1;exact absurd ((Option.some.inj H).trans hT.out) (by decide)
end Go.Proofs.Ytdolplcbokioaaa.PB

/- What a law's arguments, read as data, are as the print's kinds. -/
namespace Go.Proofs.Ytdolplcbokioaaa.Open
open Go.RowKit Go.Proofs.YtdolplcbokioaaaW.PrintWords

/-- A datum that is read at type t is of kind d, and each such y meets wf. -/
def Opn {α : Type} (P : Program) (t : TypeId) (d : Kd α) (wf : α → Prop) : Prop :=
  ∀ (H : Type) (enc : TypeId × Value → H) (w : World) (base : Nat) (spare : Nat → Bool) (held : Bool) (fuel : Nat) (cs : List Value) (x : DataW H × List MemPlace),
    DataW.trod enc P w base spare held fuel t cs = some x → ∃ y : α, d.K w y cs ∧ wf y

theorem opn_int {P : Program} {t : TypeId} {k : IntKind} (hu : P.underlying t = some (.int k)) : Opn P t (Kd.int k) (fun n => (Lit.int k n).wf = true) := by
  intro H enc w base spare held fuel cs x h
  obtain ⟨n, rfl, _, hw⟩ := DataW.trod_int hu h
  exact ⟨n, rfl, hw⟩
theorem opn_bool {P : Program} {t : TypeId} (hu : P.underlying t = some .bool) : Opn P t Kd.bool (fun _ => True) := by
  intro H enc w base spare held fuel cs x h
  obtain ⟨n, rfl, _⟩ := DataW.trod_bool hu h
  exact ⟨n, rfl, trivial⟩
theorem opn_string {P : Program} {t : TypeId} (hu : P.underlying t = some .string) : Opn P t Kd.string (fun s => s.size ≤ maxLen) := by
  intro H enc w base spare held fuel cs x h
  obtain ⟨n, rfl, _, hw⟩ := DataW.trod_string hu h
  exact ⟨n, rfl, hw⟩
theorem choose_list {α : Type} {Q : Nat → α → Prop} : ∀ (n : Nat), (∀ i, i < n → ∃ y, Q i y) → ∃ ys : List α, ys.length = n ∧ ∀ i y, ys[i]? = some y → Q i y
  | 0, _ => ⟨[], rfl, fun i y h => by simp at h⟩
  | n + 1, h => by
    obtain ⟨ys, hl, hq⟩ := choose_list n (fun i hi => h i (by omega))
    obtain ⟨y, hy⟩ := h n (by omega)
    refine ⟨ys ++ [y], by simp [hl], fun i z hz => ?_⟩
    rcases Nat.lt_or_ge i ys.length with hi | hi
    · rw [List.getElem?_append_left hi] at hz
      exact hq i z hz
    · rw [List.getElem?_append_right hi] at hz
      have hi2 : i - ys.length = 0 := by
        have := (List.getElem?_eq_some_iff.1 hz).1
        simp at this
        omega
      rw [hi2] at hz
      have : i = n := by omega
      subst this
      simp at hz
      subst hz
      exact hy
theorem adds (a : Addr) (m n : Nat) : (a.add m).add n = a.add (m + n) := by
  unfold Addr.add
  by_cases h1 : m = 0 <;> by_cases h2 : n = 0 <;> simp_all [Nat.add_assoc]
theorem opn_slice {α : Type} {P : Program} {t e : TypeId} {d : Kd α} {wf : α → Prop} (hu : P.underlying t = some (.slice e)) (hc : P.cellsOf e = d.sz) (ho : Opn P e d wf) :
    Opn P t (Kd.slice e d) (fun xs => xs.length ≤ maxLen ∧ ∀ x ∈ xs, wf x) := by
  intro H enc w base spare held fuel cs x h
  rcases DataW.trod_slice hu h with ⟨rfl, _⟩ | ⟨a, len, cap, elems, rest, n, _, rfl, _, hb, hl, hm, hlen, hel, _, _⟩
  · refine ⟨[], ⟨none, 0, rfl, Nat.le_refl _, rfl, by simp, fun h0 => absurd h0 (by simp)⟩, by simp, fun x hx => absurd hx (by simp)⟩
  · have each : ∀ i, i < len → ∃ y : α, ∃ c : List Value, (c.length = d.sz ∧ d.K w y c ∧ ∀ j u, c[j]? = some u → w.cell? (a.add (i * d.sz + j)) = some u) ∧ wf y := by
      intro i hi
      have h1 := hel i hi
      rw [List.getElem?_eq_getElem (by omega), Option.bind_eq_some_iff, hc] at h1
      obtain ⟨c, h2, h3⟩ := h1
      obtain ⟨_, hcl, hcell⟩ := World.cells?_some h2
      obtain ⟨y, hk, hw⟩ := ho H enc w base spare held n c _ h3
      refine ⟨y, c, ⟨hcl, hk, fun j u hj => ?_⟩, hw⟩
      have hjl : j < c.length := (List.getElem?_eq_some_iff.1 hj).1
      rw [← adds, hcell j (by omega), hj]
    obtain ⟨ys, hyl, hys⟩ := choose_list len each
    have hml : len ≤ maxLen := Nat.le_trans hl hm
    refine ⟨ys, ⟨some a, cap, by rw [hyl], by rw [hyl]; exact hl, rfl, by rw [hyl]; simpa only [maxLen] using hml, fun _ => ⟨a, rfl, fun j p hj => ?_⟩⟩, by rw [hyl]; exact hml, fun y hy => ?_⟩
    · obtain ⟨c, hq, _⟩ := hys j p hj
      exact ⟨c, hq⟩
    · obtain ⟨j, hj, he⟩ := List.getElem_of_mem hy
      obtain ⟨_, _, hw⟩ := hys j y (by rw [List.getElem?_eq_getElem hj, he])
      exact hw

/-- The fields fs, read off the cells from off on, are of kind d. -/
def OpnF {α : Type} (P : Program) (fs : List Field) (off : Nat) (d : Kd α) (wf : α → Prop) : Prop :=
  ∀ (H : Type) (enc : TypeId × Value → H) (w : World) (base : Nat) (spare : Nat → Bool) (held : Bool) (fuel : Nat) (cs : List Value), cs.length = off + d.sz →
    (∀ f ∈ fs, ∃ x, DataW.trod enc P w base spare held fuel f.type ((cs.drop f.offset).take (P.cellsOf f.type)) = some x) → ∃ y : α, d.K w y (cs.drop off) ∧ wf y
theorem opnF_one {α : Type} {P : Program} {f : Field} {off : Nat} {d : Kd α} {wf : α → Prop} (hoff : f.offset = off) (hc : P.cellsOf f.type = d.sz) (ho : Opn P f.type d wf) : OpnF P [f] off d wf := by
  intro H enc w base spare held fuel cs hl h
  obtain ⟨x, hx⟩ := h f (by simp)
  obtain ⟨y, hk, hw⟩ := ho H enc w base spare held fuel _ x hx
  rw [hoff, hc, List.take_of_length_le (by rw [List.length_drop]; omega)] at hk
  exact ⟨y, hk, hw⟩
theorem opnF_cons {α β : Type} {P : Program} {f : Field} {fs : List Field} {off : Nat} {a : Kd α} {b : Kd β} {wa : α → Prop} {wb : β → Prop} (hoff : f.offset = off) (hc : P.cellsOf f.type = a.sz) (ho : Opn P f.type a wa) (hr : OpnF P fs (off + a.sz) b wb) :
    OpnF P (f :: fs) off (Kd.pair a b) (fun p => wa p.1 ∧ wb p.2) := by
  intro H enc w base spare held fuel cs hl h
  obtain ⟨x, hx⟩ := h f (by simp)
  obtain ⟨y, hk, hw⟩ := ho H enc w base spare held fuel _ x hx
  have hsz : (Kd.pair a b).sz = a.sz + b.sz := rfl
  obtain ⟨z, hk2, hw2⟩ := hr H enc w base spare held fuel cs (by omega) (fun g hg => h g (List.mem_cons_of_mem _ hg))
  rw [hoff, hc] at hk
  refine ⟨(y, z), ⟨(cs.drop off).take a.sz, cs.drop (off + a.sz), ?_, hk, hk2⟩, hw, hw2⟩
  rw [← List.drop_drop, List.take_append_drop]
theorem opn_tuple {α : Type} {P : Program} {t : TypeId} {fs : List Field} {d : Kd α} {wf : α → Prop} (hu : P.underlying t = some (.struct fs.toArray)) (hc : P.cellsOf t = d.sz) (ho : OpnF P fs 0 d wf) :
    Opn P t d wf := by
  intro H enc w base spare held fuel cs x h
  obtain ⟨xs, n, _, _, hl, hlen, hf⟩ := DataW.trod_struct hu h
  obtain ⟨y, hk, hw⟩ := ho H enc w base spare held n cs (by omega) (fun fl hfl => by
    obtain ⟨i, hi, he⟩ := List.getElem_of_mem hfl
    have h1 := hf i fl (by simpa using (List.getElem?_eq_getElem hi).trans (congrArg some he))
    have hlen2 : xs.length = fs.length := by simpa using hlen
    exact ⟨xs[i]'(by omega), by rw [h1, List.getElem?_eq_getElem]⟩)
  exact ⟨y, by simpa using hk, hw⟩
theorem opn_struct {α β : Type} {P : Program} {t : TypeId} {fs : List Field} {d : Kd α} {wf : α → Prop} (f : β → α) (g : α → β) (hfg : ∀ a, f (g a) = a) (hu : P.underlying t = some (.struct fs.toArray)) (hc : P.cellsOf t = d.sz) (ho : OpnF P fs 0 d wf) :
    Opn P t (Kd.iso d f) (fun y => wf (f y)) := by
  intro H enc w base spare held fuel cs x h
  obtain ⟨xs, n, _, _, hl, hlen, hf⟩ := DataW.trod_struct hu h
  obtain ⟨y, hk, hw⟩ := ho H enc w base spare held n cs (by omega) (fun fl hfl => by
    obtain ⟨i, hi, he⟩ := List.getElem_of_mem hfl
    have h1 := hf i fl (by simpa using (List.getElem?_eq_getElem hi).trans (congrArg some he))
    have hlen2 : xs.length = fs.length := by simpa using hlen
    exact ⟨xs[i]'(by omega), by rw [h1, List.getElem?_eq_getElem]⟩)
  exact ⟨g y, by show d.K w (f (g y)) cs; rw [hfg]; simpa using hk, by show wf (f (g y)); rw [hfg]; exact hw⟩
end Go.Proofs.Ytdolplcbokioaaa.Open

/- Plain facts on rounds, lists and whole numbers, for the pure statements. -/
namespace Go.Proofs.Ytdolplcbokioaaa.Pu
set_option linter.unusedVariables false
set_option linter.unusedSimpArgs false
open Go.RowKit Go.Proofs.YtdolplcbokioaaaW.PrintWords

theorem w64 {x : Int} (h1 : -9223372036854775808 ≤ x) (h2 : x ≤ 9223372036854775807) : wrap64 x = x := by
  unfold wrap64; omega
theorem wsucc {i n : Nat} (h : i < n) (hn : n ≤ 9223372036854775807) : wrap64 ((i : Int) + 1) = ((i + 1 : Nat) : Int) := by
  rw [w64 (by omega) (by omega)]; rfl
theorem wf_i64 {n : Int} (h : (Lit.int .i64 n).wf = true) : -9223372036854775808 ≤ n ∧ n ≤ 9223372036854775807 := by
  simp only [Lit.wf, Bool.and_eq_true, decide_eq_true_eq] at h
  have h1 : IntKind.min .i64 = -9223372036854775808 := by decide
  have h2 : IntKind.max .i64 = 9223372036854775807 := by decide
  omega

/-- Rounds: what is told, a step on. -/
theorem ev_some {α : Type} {g : Nat → Option α} {r : α} (h : ∀ k, g (k + 1) = some r) : Ev g r := Ev.step h (Ev.now r)
theorem ev_const {α : Type} {o : Option α} {r : α} (h : o = some r) : Ev (fun _ => o) r := ⟨0, fun _ _ => h⟩
theorem ev_bind {α β : Type} {g : Nat → Option α} {f : Nat → α → Option β} {a : α} {r : β} (h : Ev g a) (k : Ev (fun n => f n a) r) : Ev (fun n => (g n).bind (f n)) r := Ev.bind h k
theorem ev_uniq {α : Type} {g : Nat → Option α} {a b : α} (h : Ev g a) (k : Ev g b) : a = b := by
  obtain ⟨K, hK⟩ := h
  obtain ⟨M, hM⟩ := k
  have h1 := hK (max K M) (Nat.le_max_left _ _)
  rw [hM (max K M) (Nat.le_max_right _ _)] at h1
  injection h1 with h1
  exact h1.symm
theorem ev_ext {α : Type} {g f : Nat → Option α} {r : α} (h : ∀ k, g k = f k) (k : Ev f r) : Ev g r := Ev.congr h k

/-- A row that is made and filled, place by place. -/
theorem ev_fill {β : Type} {L : Nat → List β → Int → Option (List β)} {E : Nat → Int → Option β} {n : Nat} {e : Nat → β} (hn : n ≤ 9223372036854775807)
    (hs : ∀ k xs i, L (k + 1) xs i = if i < (n : Int) then (if 0 ≤ i then ((E k i).bind fun b => if i < (xs.length : Int) then L k (xs.set i.toNat b) (wrap64 (i + 1)) else none) else none) else some xs)
    (hE : ∀ i, i < n → Ev (fun k => E k (i : Int)) (e i)) :
    ∀ (d i : Nat) (xs : List β), xs.length = n → i + d = n → Ev (fun k => L k xs (i : Int)) (xs.take i ++ (List.range' i d).map e) := by
  intro d
  induction d with
  | zero =>
    intro i xs hl hi
    refine ev_some fun k => ?_
    rw [hs, if_neg (by omega)]
    simp [List.take_of_length_le (show xs.length ≤ i by omega)]
  | succ d ih =>
    intro i xs hl hi
    refine Ev.step (f := fun k => (E k (i : Int)).bind fun b => L k (xs.set i b) ((i + 1 : Nat) : Int)) (fun k => ?_) ?_
    · rw [hs, if_pos (by omega), if_pos (by omega), wsucc (n := n) (by omega) hn]
      congr 1
      funext b
      rw [if_pos (by omega)]
      rfl
    · refine ev_bind (hE i (by omega)) ?_
      have h := ih (i + 1) (xs.set i (e i)) (by rw [List.length_set]; exact hl) (by omega)
      have e1 : (xs.set i (e i)).take (i + 1) ++ (List.range' (i + 1) d).map e = xs.take i ++ (List.range' i (d + 1)).map e := by
        rw [List.range'_succ, List.map_cons, List.take_succ_eq_append_getElem (by rw [List.length_set]; omega), List.getElem_set_self, List.take_set_of_le (Nat.le_refl _)]
        simp
      rw [e1] at h
      exact h
theorem map_range {α β : Type} (l : List α) (z : α) (g : α → β) : (List.range' 0 l.length).map (fun i => g (l.getD i z)) = l.map g := by
  apply List.ext_getElem
  · simp
  · intro i h1 h2
    simp only [List.length_map] at h2
    simp [List.getD_eq_getElem?_getD, List.getElem?_eq_getElem h2]
theorem ev_fill_all {α β : Type} {L : Nat → List β → Int → Option (List β)} {E : Nat → Int → Option β} {l : List α} {z : α} {g : α → β} {xs : List β} (hn : l.length ≤ 9223372036854775807)
    (hs : ∀ k xs i, L (k + 1) xs i = if i < (l.length : Int) then (if 0 ≤ i then ((E k i).bind fun b => if i < (xs.length : Int) then L k (xs.set i.toNat b) (wrap64 (i + 1)) else none) else none) else some xs)
    (hE : ∀ i, i < l.length → Ev (fun k => E k (i : Int)) (g (l.getD i z))) (hx : xs.length = l.length) : Ev (fun k => L k xs 0) (l.map g) := by
  have h := ev_fill (e := fun i => g (l.getD i z)) hn hs hE l.length 0 xs hx (by omega)
  rw [map_range] at h
  simpa using h

/-- Every place meets a test, tried place by place. -/
theorem ev_all {L E : Nat → Int → Option Bool} {n m : Nat} (hn : n ≤ 9223372036854775807) (hnm : n ≤ m)
    (hs : ∀ k i, L (k + 1) i = if i < (n : Int) then (if 0 ≤ i then (if i < (m : Int) then ((E k i).bind fun b => if b = true then L k (wrap64 (i + 1)) else some false) else none) else none) else some true)
    (hE : ∀ i, i < n → Ev (fun k => E k (i : Int)) true) : ∀ (d i : Nat), i + d = n → Ev (fun k => L k (i : Int)) true := by
  intro d
  induction d with
  | zero => intro i hi; exact ev_some fun k => by rw [hs, if_neg (by omega)]
  | succ d ih =>
    intro i hi
    refine Ev.step (f := fun k => (E k (i : Int)).bind fun b => if b = true then L k ((i + 1 : Nat) : Int) else some false) (fun k => ?_) (ev_bind (hE i (by omega)) (by simpa using ih (i + 1) (by omega)))
    rw [hs, if_pos (by omega), if_pos (by omega), if_pos (by omega), wsucc (n := n) (by omega) hn]

/-- What is left of a number, place by place, as long as it is not below 0. -/
theorem ev_size {L E : Nat → Int → Int → Option Int} {n : Nat} {P : Nat → Prop} (hn : n ≤ 9223372036854775807)
    (hs : ∀ k a i, L (k + 1) a i = if i < (n : Int) then (if 0 ≤ i then ((E k i a).bind fun t => if t < 0 then some (-1) else L k t (wrap64 (i + 1))) else none) else some a)
    (hE : ∀ i a, i < n → 0 ≤ a → a ≤ 1048576 → ∃ t, Ev (fun k => E k (i : Int) a) t ∧ t ≤ a ∧ (0 ≤ t → P i)) :
    ∀ (d i : Nat) (a : Int), i + d = n → 0 ≤ a → a ≤ 1048576 → ∃ r, Ev (fun k => L k a (i : Int)) r ∧ r ≤ a ∧ (0 ≤ r → ∀ m, i ≤ m → m < n → P m) := by
  intro d
  induction d with
  | zero => intro i a hi h0 h1; exact ⟨a, ev_some fun k => by rw [hs, if_neg (by omega)], Int.le_refl _, fun _ m h2 h3 => by omega⟩
  | succ d ih =>
    intro i a hi h0 h1
    obtain ⟨t, ht, hta, hp⟩ := hE i a (by omega) h0 h1
    have hst : ∀ k, L (k + 1) a (i : Int) = (E k (i : Int) a).bind fun t => if t < 0 then some (-1) else L k t ((i + 1 : Nat) : Int) := fun k => by
      rw [hs, if_pos (by omega), if_pos (by omega), wsucc (n := n) (by omega) hn]
    by_cases hneg : t < 0
    · exact ⟨-1, Ev.step hst (ev_bind ht (by simp only [if_pos hneg]; exact Ev.now _)), by omega, fun h => by omega⟩
    · obtain ⟨r, hr, hra, hq⟩ := ih (i + 1) t (by omega) (by omega) (by omega)
      refine ⟨r, Ev.step hst (ev_bind ht (by simp only [if_neg hneg]; exact hr)), by omega, fun h0r m h2 h3 => ?_⟩
      by_cases e : m = i
      · subst e; exact hp (by omega)
      · exact hq h0r m (by omega) h3
end Go.Proofs.Ytdolplcbokioaaa.Pu

/- What the functions on arenas answer: sizes, copies, comparison, and when an arena is right. -/
namespace Go.Proofs.Ytdolplcbokioaaa.Pu
set_option linter.unusedVariables false
set_option linter.unusedSimpArgs false
open Go.RowKit Go.Proofs.Ytdolplcbokioaaa.PB Go.Proofs.YtdolplcbokioaaaW.PrintWords

theorem rd_nat (l : List Int) (i : Nat) : rd l (i : Int) = l.getD i 0 := rfl
theorem rdLK_nat (l : List S175) (i : Nat) : rd_T175 l (i : Int) = l.getD i z175 := rfl
theorem rdIK_nat (l : List S133) (i : Nat) : rd_T133 l (i : Int) = l.getD i z133 := rfl

def toK (x : S175) : S133 := ⟨x.f0, x.f1⟩
def toA (l : List S175) : List S133 := l.map toK

theorem toIntS_ev (l : List Int) (h : l.length ≤ 35184372088832) : Ev (fun k => laws_toIntS.f k l) l := by
  have hn : l.length ≤ 9223372036854775807 := by omega
  have h1 := ev_fill_all (E := fun _ i => some (rd l i)) (l := l) (z := 0) (g := fun x => x) (xs := List.replicate l.length 0) (L := fun k xs i => laws_toIntS.l0 k l xs i) hn (fun k xs i => by
    simp only [laws_toIntS.l0, Option.bind_some]) (fun i _ => by rw [rd_nat]; exact Ev.now _) (by simp)
  rw [List.map_id'] at h1
  refine ev_ext (fun k => ?_) h1
  unfold laws_toIntS.f
  rw [if_pos (by omega), if_pos (by simpa using h)]
  simp
theorem toKnot_ev (b : Bool) (l : List Int) (h : l.length ≤ 35184372088832) : Ev (fun k => laws_toKnot.f k b l) (b, l) := by
  unfold laws_toKnot.f
  exact ev_bind (toIntS_ev l h) (Ev.now _)
theorem toKnotS_ev (l : List S175) (h : l.length ≤ 8796093022208) (hk : ∀ x ∈ l, x.f1.length ≤ 35184372088832) : Ev (fun k => laws_toKnotS.f k l) (toA l) := by
  have hn : l.length ≤ 9223372036854775807 := by omega
  have h1 := ev_fill_all (E := fun k i => (laws_toKnot.f k (rd_T175 l i).f0 (rd_T175 l i).f1).bind fun bt => some (⟨bt.1, bt.2⟩ : S133)) (l := l) (z := z175) (g := toK) (xs := List.replicate l.length z133) (L := fun k xs i => laws_toKnotS.l0 k l xs i) hn (fun k xs i => by
    simp only [laws_toKnotS.l0, Option.bind_assoc, Option.bind_some]) (fun i hi => by
      rw [rdLK_nat]
      have hm : l.getD i z175 ∈ l := by rw [List.getD_eq_getElem?_getD, List.getElem?_eq_getElem hi]; exact List.getElem_mem hi
      exact ev_bind (toKnot_ev _ _ (hk _ hm)) (Ev.now _)) (by simp)
  refine ev_ext (fun k => ?_) h1
  unfold laws_toKnotS.f
  rw [if_pos (by omega), if_pos (by simpa using h)]
  simp
theorem toArena_ev (l : List S175) (h : l.length ≤ 8796093022208) (hk : ∀ x ∈ l, x.f1.length ≤ 35184372088832) : Ev (fun k => laws_toArena.f k l) (toA l) := by
  unfold laws_toArena.f
  exact ev_bind (toKnotS_ev l h hk) (Ev.now _)

theorem eqIntS_ev (l : List Int) (hn : l.length ≤ 9223372036854775807) : Ev (fun k => laws_eqIntS.f k l l) true := by
  have h1 := ev_all (n := l.length) (m := l.length) (L := fun k i => laws_eqIntS.l0 k l l i) (E := fun _ _ => some true) hn (Nat.le_refl _) (fun k i => by simp [laws_eqIntS.l0]) (fun i _ => Ev.now _) l.length 0 (by omega)
  refine ev_ext (fun k => ?_) h1
  unfold laws_eqIntS.f
  rw [if_pos rfl]; rfl
theorem eqKnot_ev (b : Bool) (l : List Int) (hn : l.length ≤ 9223372036854775807) : Ev (fun k => laws_eqKnot.f k b l b l) true := by
  unfold laws_eqKnot.f
  simp only [bne_self_eq_false, Bool.false_eq_true, if_false]
  exact ev_bind (eqIntS_ev l hn) (by simp only [if_true]; exact Ev.now _)
theorem eqKnotS_ev (l : List S133) (hn : l.length ≤ 9223372036854775807) (hk : ∀ x ∈ l, x.f1.length ≤ 9223372036854775807) : Ev (fun k => laws_eqKnotS.f k l l) true := by
  have h1 := ev_all (n := l.length) (m := l.length) (L := fun k i => laws_eqKnotS.l0 k l l i) (E := fun k i => laws_eqKnot.f k (rd_T133 l i).f0 (rd_T133 l i).f1 (rd_T133 l i).f0 (rd_T133 l i).f1) hn (Nat.le_refl _) (fun k i => by simp only [laws_eqKnotS.l0]) (fun i hi => by
    rw [rdIK_nat]
    have hm : l.getD i z133 ∈ l := by rw [List.getD_eq_getElem?_getD, List.getElem?_eq_getElem hi]; exact List.getElem_mem hi
    exact eqKnot_ev _ _ (hk _ hm)) l.length 0 (by omega)
  refine ev_ext (fun k => ?_) h1
  unfold laws_eqKnotS.f
  rw [if_pos rfl]; rfl
theorem eqArena_ev (l : List S133) (hn : l.length ≤ 9223372036854775807) (hk : ∀ x ∈ l, x.f1.length ≤ 9223372036854775807) : Ev (fun k => laws_eqArena.f k l l) true := by
  unfold laws_eqArena.f
  exact ev_bind (eqKnotS_ev l hn hk) (by simp only [if_true]; exact Ev.now _)

theorem szIntS_eq (l : List Int) (a : Int) (h0 : 0 ≤ a) (h1 : a ≤ 1048576) (hn : l.length ≤ 9223372036854775807) : ∃ t, laws_szIntS.f l a = some t ∧ t ≤ a ∧ (0 ≤ t → (l.length : Int) ≤ a) := by
  unfold laws_szIntS.f
  rw [w64 (by omega) (by omega)]
  by_cases h : a - (l.length : Int) < 0
  · exact ⟨-1, by rw [if_pos h], by omega, fun h2 => by omega⟩
  · exact ⟨_, by rw [if_neg h], by omega, fun _ => by omega⟩
theorem szKnot_eq (b : Bool) (l : List Int) (a : Int) (h0 : 0 ≤ a) (h1 : a ≤ 1048576) (hn : l.length ≤ 9223372036854775807) : ∃ t, laws_szKnot.f b l a = some t ∧ t ≤ a ∧ (0 ≤ t → (l.length : Int) ≤ a) := by
  obtain ⟨t, ht, hta, hp⟩ := szIntS_eq l a h0 h1 hn
  unfold laws_szKnot.f
  rw [ht]
  simp only [Option.bind_some]
  by_cases h : t < 0
  · exact ⟨-1, by rw [if_pos h], by omega, fun h2 => by omega⟩
  · exact ⟨t, by rw [if_neg h], hta, hp⟩
theorem szKnotS_ev (l : List S175) (a : Int) (h0 : 0 ≤ a) (h1 : a ≤ 1048576) (hn : l.length ≤ 9223372036854775807) (hk : ∀ x ∈ l, x.f1.length ≤ 9223372036854775807) :
    ∃ r, Ev (fun k => laws_szKnotS.f k l a) r ∧ r ≤ a ∧ (0 ≤ r → (l.length : Int) ≤ a ∧ ∀ x ∈ l, (x.f1.length : Int) ≤ 1048576) := by
  by_cases h : a - (l.length : Int) < 0
  · refine ⟨-1, ⟨0, fun k _ => ?_⟩, by omega, fun h2 => by omega⟩
    show laws_szKnotS.f k l a = _
    unfold laws_szKnotS.f
    rw [w64 (by omega) (by omega), if_pos h]
  · obtain ⟨r, hr, hra, hq⟩ := ev_size (n := l.length) (L := fun k a i => laws_szKnotS.l0 k l a i) (E := fun _ i a => laws_szKnot.f (rd_T175 l i).f0 (rd_T175 l i).f1 a) (P := fun i => ((l.getD i z175).f1.length : Int) ≤ 1048576) hn (fun k a i => by simp only [laws_szKnotS.l0])
      (fun i a hi h2 h3 => by
        have hm : l.getD i z175 ∈ l := by rw [List.getD_eq_getElem?_getD, List.getElem?_eq_getElem hi]; exact List.getElem_mem hi
        obtain ⟨t, ht, hta, hp⟩ := szKnot_eq (rd_T175 l i).f0 (rd_T175 l i).f1 a h2 h3 (by rw [rdLK_nat]; exact hk _ hm)
        exact ⟨t, ev_const ht, hta, fun h4 => by have := hp h4; rw [rdLK_nat] at this; omega⟩) l.length 0 (a - (l.length : Int)) (by omega) (by omega) (by omega)
    refine ⟨r, ev_ext (fun k => ?_) hr, by omega, fun h2 => ⟨by omega, fun x hx => ?_⟩⟩
    · unfold laws_szKnotS.f
      rw [w64 (by omega) (by omega), if_neg h]; rfl
    · obtain ⟨i, hi, rfl⟩ := List.getElem_of_mem hx
      have := hq h2 i (by omega) hi
      rwa [List.getD_eq_getElem?_getD, List.getElem?_eq_getElem hi] at this
theorem szArena_ev (l : List S175) (a : Int) (h0 : 0 ≤ a) (h1 : a ≤ 1048576) (hn : l.length ≤ 9223372036854775807) (hk : ∀ x ∈ l, x.f1.length ≤ 9223372036854775807) :
    ∃ r, Ev (fun k => laws_szArena.f k l a) r ∧ r ≤ a ∧ (0 ≤ r → (l.length : Int) ≤ a ∧ ∀ x ∈ l, (x.f1.length : Int) ≤ 1048576) := by
  obtain ⟨r, hr, hra, hq⟩ := szKnotS_ev l a h0 h1 hn hk
  by_cases h : r < 0
  · exact ⟨-1, by unfold laws_szArena.f; exact ev_bind hr (by simp only [if_pos h]; exact Ev.now _), by omega, fun h2 => by omega⟩
  · exact ⟨r, by unfold laws_szArena.f; exact ev_bind hr (by simp only [if_neg h]; exact Ev.now _), hra, hq⟩
end Go.Proofs.Ytdolplcbokioaaa.Pu

/- When an arena is right, as one test; the program's and the reference's ArenaOk answer it. -/
namespace Go.Proofs.Ytdolplcbokioaaa.Pu
set_option linter.unusedVariables false
set_option linter.unusedSimpArgs false
open Go.RowKit Go.Proofs.Ytdolplcbokioaaa.PB Go.Proofs.YtdolplcbokioaaaW.PrintWords

theorem in_eq (a l h : Int) : impl_in.f a l h = some (decide (l ≤ a ∧ a ≤ h)) := by
  unfold impl_in.f
  by_cases h1 : a ≥ l
  · rw [if_pos h1]; congr 1; simp; omega
  · rw [if_neg h1]; congr 1; simp; omega
theorem l01In_eq (a l h : Int) : spec_l01In.f a l h = some (decide (l ≤ a ∧ a ≤ h)) := by
  unfold spec_l01In.f
  by_cases h1 : a ≥ l
  · rw [if_pos h1]; congr 1; simp; omega
  · rw [if_neg h1]; congr 1; simp; omega

/-- A kid of the knot at place i. -/
def kidB (l : List S133) (i : Nat) (leaf : Bool) (n : Int) : Bool :=
  if leaf = true then decide (0 ≤ n) else decide (n = -1) || (decide (0 ≤ n ∧ n ≤ (i : Int) - 1) && (l.getD n.toNat z133).f0)
def knotB (l : List S133) (i : Nat) (x : S133) : Bool := decide (x.f1.length = 4) && x.f1.all (kidB l i x.f0)
def arenaB (l : List S133) : Bool := (List.range' 0 l.length).all fun i => knotB l i (l.getD i z133)

theorem sArena_step (k : Nat) (kids : List Int) (i j : Nat) (a : List S133) (leaf : Bool) (hi : i < a.length) (hn : a.length ≤ 9223372036854775807) (hj : j < 4) (hk : kids.length = 4) :
    spec_ArenaOk.l1 (k + 1) i j a leaf kids = if kidB a i leaf (kids.getD j 0) = true then spec_ArenaOk.l1 k i ((j + 1 : Nat) : Int) a leaf kids else some false := by
  simp only [spec_ArenaOk.l1]
  rw [if_pos (by omega), if_pos (by omega), if_pos (by omega), wsucc (n := 4) hj (by omega), w64 (x := (i : Int) - 1) (by omega) (by omega), rd_nat]
  generalize kids.getD j 0 = n
  unfold kidB
  cases leaf with
  | true => by_cases h : n < 0 <;> simp [h] <;> omega
  | false =>
    simp only [Bool.false_eq_true, if_false, l01In_eq, Option.bind_some, decide_eq_true_eq]
    by_cases h1 : n = -1
    · simp [h1]
    · by_cases h2 : 0 ≤ n ∧ n ≤ (i : Int) - 1
      · rw [if_neg h1, if_pos h2, if_pos h2.1, if_pos (by omega)]
        simp [h1, h2, rd_T133]
      · simp [h1, h2]
theorem iArena_step (k : Nat) (kids : List Int) (i j : Nat) (a : List S133) (leaf : Bool) (hi : i < a.length) (hn : a.length ≤ 9223372036854775807) (hj : j < 4) (hk : kids.length = 4) :
    impl_ArenaOk.l1 (k + 1) i a a.length i kids kids.length j a leaf kids = if kidB a i leaf (kids.getD j 0) = true then impl_ArenaOk.l1 k i a a.length i kids kids.length ((j + 1 : Nat) : Int) a leaf kids else some false := by
  simp only [impl_ArenaOk.l1]
  rw [if_pos (by omega), if_pos (by omega), if_pos (by omega), wsucc (n := 4) hj (by omega), w64 (x := (i : Int) - 1) (by omega) (by omega), rd_nat]
  generalize kids.getD j 0 = n
  unfold kidB
  cases leaf with
  | true => by_cases h : n < 0 <;> simp [h] <;> omega
  | false =>
    simp only [Bool.false_eq_true, if_false, in_eq, Option.bind_some, decide_eq_true_eq]
    by_cases h1 : n = -1
    · simp [h1]
    · by_cases h2 : 0 ≤ n ∧ n ≤ (i : Int) - 1
      · rw [if_neg h1, if_pos h2, if_pos h2.1, if_pos (by omega)]
        simp [h1, h2, rd_T133]
      · simp [h1, h2]
/-- The kids of one knot, tried in order; then what comes. -/
theorem ev_kids {L : Nat → Int → Option Bool} {g : Nat → Option Bool} {kids : List Int} {T : Int → Bool} {r : Bool} (hk : kids.length = 4)
    (hs : ∀ k j, j < 4 → L (k + 1) ((j : Nat) : Int) = if T (kids.getD j 0) = true then L k ((j + 1 : Nat) : Int) else some false) (he : ∀ k, L (k + 1) 4 = g k) (hr : Ev g r) :
    ∀ (d j : Nat), j + d = 4 → Ev (fun k => L k (j : Int)) ((kids.drop j).all T && r) := by
  intro d
  induction d with
  | zero =>
    intro j hj
    obtain rfl : j = 4 := by omega
    refine Ev.step (f := g) (fun k => he k) ?_
    rw [List.drop_eq_nil_of_le (by omega)]
    exact hr
  | succ d ih =>
    intro j hj
    have hjl : j < kids.length := by omega
    rw [List.drop_eq_getElem_cons hjl, List.all_cons]
    have e : kids.getD j 0 = kids[j] := by rw [List.getD_eq_getElem?_getD, List.getElem?_eq_getElem hjl]; rfl
    by_cases h : T kids[j] = true
    · rw [h, Bool.true_and]
      exact Ev.step (f := fun k => L k ((j + 1 : Nat) : Int)) (fun k => by rw [hs k j (by omega), e, if_pos h]) (ih (j + 1) (by omega))
    · rw [Bool.eq_false_iff.mpr h, Bool.false_and, Bool.false_and]
      exact ev_some fun k => by rw [hs k j (by omega), e, if_neg h]
theorem sArena_ev (a : List S133) (hn : a.length ≤ 9223372036854775807) : Ev (fun k => spec_ArenaOk.f k a) (arenaB a) := by
  have main : ∀ (d i : Nat), i + d = a.length → Ev (fun k => spec_ArenaOk.l0 k (i : Int) a) ((List.range' i d).all fun i => knotB a i (a.getD i z133)) := by
    intro d
    induction d with
    | zero => intro i hi; exact ev_some fun k => by simp only [spec_ArenaOk.l0]; rw [if_neg (by omega)]; rfl
    | succ d ih =>
      intro i hi
      rw [List.range'_succ, List.all_cons]
      unfold knotB
      by_cases h4 : (a.getD i z133).f1.length = 4
      · rw [decide_eq_true h4, Bool.true_and]
        have h := ev_kids (L := fun k j => spec_ArenaOk.l1 k i j a (a.getD i z133).f0 (a.getD i z133).f1) (T := kidB a i (a.getD i z133).f0) h4 (fun k j hj => sArena_step k (a.getD i z133).f1 i j a _ (by omega) hn hj h4)
          (g := fun k => spec_ArenaOk.l0 k ((i + 1 : Nat) : Int) a) (fun k => by simp only [spec_ArenaOk.l1]; rw [if_neg (by omega), wsucc (n := a.length) (by omega) hn]) (ih (i + 1) (by omega)) 4 0 rfl
        refine Ev.step (fun k => ?_) h
        simp only [spec_ArenaOk.l0]
        rw [if_pos (by omega), if_pos (by omega), rdIK_nat, if_pos (by omega)]
        rfl
      · rw [decide_eq_false h4, Bool.false_and, Bool.false_and]
        refine ev_some fun k => ?_
        simp only [spec_ArenaOk.l0]
        rw [if_pos (by omega), if_pos (by omega), rdIK_nat, if_neg (by omega)]
  exact main a.length 0 (by omega)
theorem iArena_ev (a : List S133) (hn : a.length ≤ 9223372036854775807) : Ev (fun k => impl_ArenaOk.f k a) (arenaB a) := by
  have main : ∀ (d i : Nat), i + d = a.length → Ev (fun k => impl_ArenaOk.l0 k a a.length (i : Int) a) ((List.range' i d).all fun i => knotB a i (a.getD i z133)) := by
    intro d
    induction d with
    | zero => intro i hi; exact ev_some fun k => by simp only [impl_ArenaOk.l0]; rw [if_neg (by omega)]; rfl
    | succ d ih =>
      intro i hi
      rw [List.range'_succ, List.all_cons]
      unfold knotB
      by_cases h4 : (a.getD i z133).f1.length = 4
      · rw [decide_eq_true h4, Bool.true_and]
        have h := ev_kids (L := fun k j => impl_ArenaOk.l1 k i a a.length i (a.getD i z133).f1 (a.getD i z133).f1.length j a (a.getD i z133).f0 (a.getD i z133).f1) (T := kidB a i (a.getD i z133).f0) h4 (fun k j hj => iArena_step k (a.getD i z133).f1 i j a _ (by omega) hn hj h4)
          (g := fun k => impl_ArenaOk.l0 k a a.length ((i + 1 : Nat) : Int) a) (fun k => by simp only [impl_ArenaOk.l1]; rw [if_neg (by omega), wsucc (n := a.length) (by omega) hn]) (ih (i + 1) (by omega)) 4 0 rfl
        refine Ev.step (fun k => ?_) h
        simp only [impl_ArenaOk.l0]
        rw [if_pos (by omega), if_pos (by omega), if_pos (by omega), rdIK_nat, if_pos (by omega)]
        rfl
      · rw [decide_eq_false h4, Bool.false_and, Bool.false_and]
        refine ev_some fun k => ?_
        simp only [impl_ArenaOk.l0]
        rw [if_pos (by omega), if_pos (by omega), if_pos (by omega), rdIK_nat, if_neg (by omega)]
  exact main a.length 0 (by omega)
end Go.Proofs.Ytdolplcbokioaaa.Pu

namespace Go.Proofs.Ytdolplcbokioaaa.PB
open Go.RowKit Go.Proofs.YtdolplcbokioaaaW.PrintWords Go.Proofs.YtdolplcbokioaaaW.PrintLast Go.Proofs.YtdolplcbokioaaaW.PrintMore
attribute [local go_sem] max2_int min2_int max_two min_two max_three min_three max_four min_four   -- for this text's walks alone
set_option linter.unusedVariables false
set_option linter.unusedSimpArgs false
def impl_numberAt.f (l0_0 : List (S133)) (a1 : Int) (a2 : Int) : Option (Int):=if 0 ≤ a1 then (if a1 < (l0_0.length : Int) then (if 0 ≤ (wrap64 (Int.tdiv a2 4)) then (if (wrap64 (Int.tdiv a2 4)) < (((rd_T133 l0_0 a1).f1).length : Int) then (if (rd ((rd_T133 l0_0 a1).f1) (wrap64 (Int.tdiv a2 4))) < 0 then (some 0) else (if 0 ≤ (rd ((rd_T133 l0_0 a1).f1) (wrap64 (Int.tdiv a2 4))) then (if (rd ((rd_T133 l0_0 a1).f1) (wrap64 (Int.tdiv a2 4))) < (l0_0.length : Int) then (if 0 ≤ (Int.tmod a2 4) then (if (Int.tmod a2 4) < (((rd_T133 l0_0 (rd ((rd_T133 l0_0 a1).f1) (wrap64 (Int.tdiv a2 4)))).f1).length : Int) then (some (rd ((rd_T133 l0_0 (rd ((rd_T133 l0_0 a1).f1) (wrap64 (Int.tdiv a2 4)))).f1) (Int.tmod a2 4))) else (none)) else (none)) else (none)) else (none))) else (none)) else (none)) else (none)) else (none)
set_option maxHeartbeats 8000000 in
set_option maxRecDepth 100000 in
theorem impl_numberAt.calls (A0_0 : Option Addr) (c0_0 : Nat) (l0_0 : List (S133)) (a1 : Int) (a2 : Int) (r : Int) (w : World) (hr0_0 : Kd.C k133 w A0_0 l0_0.length l0_0) (hc0_0 : l0_0.length ≤ c0_0) (h : impl_numberAt.f l0_0 a1 a2 = some r) :
  Calls Try.prog 142 #[.agg #[.slice A0_0 l0_0.length c0_0],.int .i64 a1,.int .i64 a2] w fun e w'=>e = .returned (.int .i64 r) ∧ Below w.heap.size w w':=by
 have hu44:=Try.underlying44;have HR0_0:=Aside0.mk hr0_0;have HC0_0:=Aside0.mk hc0_0;clear hr0_0 hc0_0;have HB:=Aside0.mk (Below.refl w.heap.size w);have H : (if 0 ≤ a1 then (if a1 < (l0_0.length : Int) then (if 0 ≤ (wrap64 (Int.tdiv a2 4)) then (if (wrap64 (Int.tdiv a2 4)) < (((rd_T133 l0_0 a1).f1).length : Int) then (if (rd ((rd_T133 l0_0 a1).f1) (wrap64 (Int.tdiv a2 4))) < 0 then (some 0) else (if 0 ≤ (rd ((rd_T133 l0_0 a1).f1) (wrap64 (Int.tdiv a2 4))) then (if (rd ((rd_T133 l0_0 a1).f1) (wrap64 (Int.tdiv a2 4))) < (l0_0.length : Int) then (if 0 ≤ (Int.tmod a2 4) then (if (Int.tmod a2 4) < (((rd_T133 l0_0 (rd ((rd_T133 l0_0 a1).f1) (wrap64 (Int.tdiv a2 4)))).f1).length : Int) then (some (rd ((rd_T133 l0_0 (rd ((rd_T133 l0_0 a1).f1) (wrap64 (Int.tdiv a2 4)))).f1) (Int.tmod a2 4))) else (none)) else (none)) else (none)) else (none))) else (none)) else (none)) else (none)) else (none)) = some r:=h;clear h
 by_cases c4 : 0 ≤ a1
 ·rw [if_pos c4] at H;have c4b0 : decide (0 ≤ a1) = true:=decide_eq_true c4;clear c4
  by_cases c5 : a1 < (l0_0.length : Int)
  ·rw [if_pos c5] at H;have c5b0 : decide (a1 < (l0_0.length : Int)) = true:=decide_eq_true c5;clear c5;obtain ⟨ji6,hji6⟩ : ∃ j_ : Int,(wrap64 (Int.tdiv a2 4)) = j_:=⟨_,rfl⟩;replace H : (if 0 ≤ (ji6) then (if (ji6) < (((rd_T133 l0_0 a1).f1).length : Int) then (if (rd ((rd_T133 l0_0 a1).f1) (ji6)) < 0 then (some 0) else (if 0 ≤ (rd ((rd_T133 l0_0 a1).f1) (ji6)) then (if (rd ((rd_T133 l0_0 a1).f1) (ji6)) < (l0_0.length : Int) then (if 0 ≤ (Int.tmod a2 4) then (if (Int.tmod a2 4) < (((rd_T133 l0_0 (rd ((rd_T133 l0_0 a1).f1) (ji6))).f1).length : Int) then (some (rd ((rd_T133 l0_0 (rd ((rd_T133 l0_0 a1).f1) (ji6))).f1) (Int.tmod a2 4))) else (none)) else (none)) else (none)) else (none))) else (none)) else (none)) = some r:=by first | (rw [hji6] at H;exact H) | (simp only [hji6] at H ⊢;exact H)
   have hji6w : (IntKind.i64.wrap (Int.tdiv a2 4)) = ji6:=(i64_w _).trans hji6
   by_cases c7 : 0 ≤ (ji6)
   ·rw [if_pos c7] at H;have c7b0 : decide (0 ≤ (ji6)) = true:=decide_eq_true c7;clear c7
    by_cases c8 : (ji6) < (((rd_T133 l0_0 a1).f1).length : Int)
    ·rw [if_pos c8] at H;have c8b0 : decide ((ji6) < (((rd_T133 l0_0 a1).f1).length : Int)) = true:=decide_eq_true c8;clear c8
     by_cases c9 : (rd ((rd_T133 l0_0 a1).f1) (ji6)) < 0
     ·rw [if_pos c9] at H;have c9b0 : decide ((rd ((rd_T133 l0_0 a1).f1) (ji6)) < 0) = true:=decide_eq_true c9;clear c9;obtain rfl:=Option.some.inj H
      go_enter Try.func142,Try.ntmps142
      go_wp2_with (first | ((with_reducible refine gate_dst (N:=3) rfl ?_);refine box_event ?hg (N:=3) ?hd (cs:=#[.slice A0_0 l0_0.length c0_0]) (t:=44) ?hr ?_;(case hd=>rfl);(case hg=>rfl);(case hr=>first | (go_simp;done) | (go_simp;rfl));intro gb684 hg w10 hbox hb;have n0_:=Aside0.mk (below_step (hs HB) hb);have n1_:=Aside0.mk (hbox);have n2_:=Aside0.mk ((by rw [hg];exact (below_size (hs HB)) : w.heap.size ≤ gb684));have n3_:=Aside0.mk ((by rw [hg];exact (below_size (hs HB)) : w.heap.size ≤ gb684));clear HB;have HB:=n0_;have BK684:=n1_;have GW684:=n2_;have GE684:=n3_;clear n0_ n1_ n2_ n3_;clear hb hbox hg;have hcz11_0 : w10.cell? ⟨gb684,0,none⟩ = some (.slice A0_0 l0_0.length c0_0):=(blk_cell BK684.out 0).trans rfl;have hfz11_0:=blk_frozen BK684.out 0;have p685 : 0 ≤ (a1 : Int):=of_decide_eq_true (by first | (with_reducible assumption) | assumption);have q685 : a1 < (l0_0.length : Int):=of_decide_eq_true (by first | (with_reducible assumption) | assumption);obtain ⟨ad685,A685_1,c685_1,e685,hx685_0,hx685_1,hl685_1,hi685_1⟩:=at_T133 HR0_0.out a1 p685 q685;cases e685;replace hx685_0:=(HB.out.cell (World.block_lt_of_cell? w _ hx685_0)).trans hx685_0;replace hx685_1:=(HB.out.cell (World.block_lt_of_cell? w _ hx685_1)).trans hx685_1;have HR685_1:=Aside0.mk hi685_1;have HC685_1:=Aside0.mk hl685_1;clear hi685_1 hl685_1;replace p685:=eq_true p685;replace q685:=eq_true q685;have p686 : 0 ≤ ((ji6) : Int):=of_decide_eq_true (by first | (with_reducible assumption) | assumption);have q686 : (ji6) < (((rd_T133 l0_0 a1).f1).length : Int):=of_decide_eq_true (by first | (with_reducible assumption) | assumption);obtain ⟨ad686,e686,hx686_0⟩:=Kd.at_int HR685_1.out (ji6) p686 q686;cases e686;replace hx686_0:=(HB.out.cell (World.block_lt_of_cell? w _ hx686_0)).trans hx686_0;replace p686:=eq_true p686;replace q686:=eq_true q686))
      go_ret
      exact ⟨by first | rfl | (simp [errW_none,errW_some] <;> rfl) | (simp only [← hji6];first | rfl | (simp [errW_none,errW_some] <;> rfl)) | (simp [*,errW_none,errW_some] <;> rfl),hs1 HB GE684⟩
     rw [if_neg c9] at H;have c9b0 : decide ((rd ((rd_T133 l0_0 a1).f1) (ji6)) < 0) = false:=decide_eq_false c9;clear c9
     by_cases c12 : 0 ≤ (rd ((rd_T133 l0_0 a1).f1) (ji6))
     ·rw [if_pos c12] at H;have c12b0 : decide (0 ≤ (rd ((rd_T133 l0_0 a1).f1) (ji6))) = true:=decide_eq_true c12;clear c12
      by_cases c13 : (rd ((rd_T133 l0_0 a1).f1) (ji6)) < (l0_0.length : Int)
      ·rw [if_pos c13] at H;have c13b0 : decide ((rd ((rd_T133 l0_0 a1).f1) (ji6)) < (l0_0.length : Int)) = true:=decide_eq_true c13;clear c13;obtain ⟨ji14,hji14⟩ : ∃ j_ : Int,(Int.tmod a2 4) = j_:=⟨_,rfl⟩;replace H : (if 0 ≤ (ji14) then (if (ji14) < (((rd_T133 l0_0 (rd ((rd_T133 l0_0 a1).f1) (ji6))).f1).length : Int) then (some (rd ((rd_T133 l0_0 (rd ((rd_T133 l0_0 a1).f1) (ji6))).f1) (ji14))) else (none)) else (none)) = some r:=by first | (rw [hji14] at H;exact H) | (simp only [hji14] at H ⊢;exact H)
       by_cases c15 : 0 ≤ (ji14)
       ·rw [if_pos c15] at H;have c15b0 : decide (0 ≤ (ji14)) = true:=decide_eq_true c15;clear c15
        by_cases c16 : (ji14) < (((rd_T133 l0_0 (rd ((rd_T133 l0_0 a1).f1) (ji6))).f1).length : Int)
        ·rw [if_pos c16] at H;have c16b0 : decide ((ji14) < (((rd_T133 l0_0 (rd ((rd_T133 l0_0 a1).f1) (ji6))).f1).length : Int)) = true:=decide_eq_true c16;clear c16;obtain rfl:=Option.some.inj H
         go_enter Try.func142,Try.ntmps142
         go_wp2_with (first | ((with_reducible refine gate_dst (N:=3) rfl ?_);refine box_event ?hg (N:=3) ?hd (cs:=#[.slice A0_0 l0_0.length c0_0]) (t:=44) ?hr ?_;(case hd=>rfl);(case hg=>rfl);(case hr=>first | (go_simp;done) | (go_simp;rfl));intro gb684 hg w17 hbox hb;have n0_:=Aside0.mk (below_step (hs HB) hb);have n1_:=Aside0.mk (hbox);have n2_:=Aside0.mk ((by rw [hg];exact (below_size (hs HB)) : w.heap.size ≤ gb684));have n3_:=Aside0.mk ((by rw [hg];exact (below_size (hs HB)) : w.heap.size ≤ gb684));clear HB;have HB:=n0_;have BK684:=n1_;have GW684:=n2_;have GE684:=n3_;clear n0_ n1_ n2_ n3_;clear hb hbox hg;have hcz18_0 : w17.cell? ⟨gb684,0,none⟩ = some (.slice A0_0 l0_0.length c0_0):=(blk_cell BK684.out 0).trans rfl;have hfz18_0:=blk_frozen BK684.out 0;have p685 : 0 ≤ (a1 : Int):=of_decide_eq_true (by first | (with_reducible assumption) | assumption);have q685 : a1 < (l0_0.length : Int):=of_decide_eq_true (by first | (with_reducible assumption) | assumption);obtain ⟨ad685,A685_1,c685_1,e685,hx685_0,hx685_1,hl685_1,hi685_1⟩:=at_T133 HR0_0.out a1 p685 q685;cases e685;replace hx685_0:=(HB.out.cell (World.block_lt_of_cell? w _ hx685_0)).trans hx685_0;replace hx685_1:=(HB.out.cell (World.block_lt_of_cell? w _ hx685_1)).trans hx685_1;have HR685_1:=Aside0.mk hi685_1;have HC685_1:=Aside0.mk hl685_1;clear hi685_1 hl685_1;replace p685:=eq_true p685;replace q685:=eq_true q685;have p686 : 0 ≤ ((ji6) : Int):=of_decide_eq_true (by first | (with_reducible assumption) | assumption);have q686 : (ji6) < (((rd_T133 l0_0 a1).f1).length : Int):=of_decide_eq_true (by first | (with_reducible assumption) | assumption);obtain ⟨ad686,e686,hx686_0⟩:=Kd.at_int HR685_1.out (ji6) p686 q686;cases e686;replace hx686_0:=(HB.out.cell (World.block_lt_of_cell? w _ hx686_0)).trans hx686_0;replace p686:=eq_true p686;replace q686:=eq_true q686;have p687 : 0 ≤ ((rd ((rd_T133 l0_0 a1).f1) (ji6)) : Int):=of_decide_eq_true (by first | (with_reducible assumption) | assumption);have q687 : (rd ((rd_T133 l0_0 a1).f1) (ji6)) < (l0_0.length : Int):=of_decide_eq_true (by first | (with_reducible assumption) | assumption);obtain ⟨ad687,A687_1,c687_1,e687,hx687_0,hx687_1,hl687_1,hi687_1⟩:=at_T133 HR0_0.out (rd ((rd_T133 l0_0 a1).f1) (ji6)) p687 q687;obtain rfl : ad685 = ad687:=(by injection e687);replace hx687_0:=(HB.out.cell (World.block_lt_of_cell? w _ hx687_0)).trans hx687_0;replace hx687_1:=(HB.out.cell (World.block_lt_of_cell? w _ hx687_1)).trans hx687_1;have HR687_1:=Aside0.mk hi687_1;have HC687_1:=Aside0.mk hl687_1;clear hi687_1 hl687_1;replace p687:=eq_true p687;replace q687:=eq_true q687;have p688 : 0 ≤ ((ji14) : Int):=of_decide_eq_true (by first | (with_reducible assumption) | assumption);have q688 : (ji14) < (((rd_T133 l0_0 (rd ((rd_T133 l0_0 a1).f1) (ji6))).f1).length : Int):=of_decide_eq_true (by first | (with_reducible assumption) | assumption);obtain ⟨ad688,e688,hx688_0⟩:=Kd.at_int HR687_1.out (ji14) p688 q688;cases e688;replace hx688_0:=(HB.out.cell (World.block_lt_of_cell? w _ hx688_0)).trans hx688_0;replace p688:=eq_true p688;replace q688:=eq_true q688))
         go_ret
         exact ⟨by first | rfl | (simp [errW_none,errW_some] <;> rfl) | (simp only [← hji6,← hji14];first | rfl | (simp [errW_none,errW_some] <;> rfl)) | (simp [*,errW_none,errW_some] <;> rfl),hs1 HB GE684⟩
        rw [if_neg c16] at H;exact absurd H (by simp)
       rw [if_neg c15] at H;exact absurd H (by simp)
      rw [if_neg c13] at H;exact absurd H (by simp)
     rw [if_neg c12] at H;exact absurd H (by simp)
    rw [if_neg c8] at H;exact absurd H (by simp)
   rw [if_neg c7] at H;exact absurd H (by simp)
  rw [if_neg c5] at H;exact absurd H (by simp)
 rw [if_neg c4] at H;exact absurd H (by simp)
end Go.Proofs.Ytdolplcbokioaaa.PB

namespace Go.Proofs.Ytdolplcbokioaaa.PB
open Go.RowKit Go.Proofs.YtdolplcbokioaaaW.PrintWords Go.Proofs.YtdolplcbokioaaaW.PrintLast Go.Proofs.YtdolplcbokioaaaW.PrintMore
attribute [local go_sem] max2_int min2_int max_two min_two max_three min_three max_four min_four   -- for this text's walks alone
set_option linter.unusedVariables false
set_option linter.unusedSimpArgs false
def impl_GetAt.f (k : Nat) (l0_0 : List (S133)) (a1 : Int) (a2 : Int) : Option (Int):=(impl_in.f a2 0 15).bind fun t690=>(if t690 = true then ((impl_isRoot.f l0_0 a1).bind fun t691=>(if t691 = true then ((impl_ArenaOk.f k l0_0).bind fun t692=>(if t692 = true then ((impl_numberAt.f l0_0 a1 a2).bind fun t693=>(some t693)) else (some 0))) else (some 0))) else (some 0))
theorem impl_GetAt.mono : ∀ a0 a1 a2 k,LeO (impl_GetAt.f k a0 a1 a2) (impl_GetAt.f (k + 1) a0 a1 a2):=by
 intro a0 a1 a2 k;unfold impl_GetAt.f
 repeat' first
   | (with_reducible exact impl_ArenaOk.mono _ _)
   | (with_reducible exact LeO.refl _)
   | (with_reducible exact LeO.none _)
   | (with_reducible refine LeO.ite ?_ ?_)
   | (with_reducible refine LeO.bind ?_ (fun _=>?_))
   | exact impl_ArenaOk.mono _ _
   | exact LeO.none _
   | refine LeO.ite ?_ ?_
   | refine LeO.bind ?_ (fun _=>?_)
set_option maxHeartbeats 8000000 in
set_option maxRecDepth 100000 in
theorem impl_GetAt.calls (k : Nat) (A0_0 : Option Addr) (c0_0 : Nat) (l0_0 : List (S133)) (a1 : Int) (a2 : Int) (r : Int) (w : World) (hr0_0 : Kd.C k133 w A0_0 l0_0.length l0_0) (hc0_0 : l0_0.length ≤ c0_0) (h : impl_GetAt.f k l0_0 a1 a2 = some r) :
  Calls Try.prog 95 #[.agg #[.slice A0_0 l0_0.length c0_0],.int .i64 a1,.int .i64 a2] w fun e w'=>e = .returned (.int .i64 r) ∧ Below w.heap.size w w':=by
 have hu44:=Try.underlying44;have HR0_0:=Aside0.mk hr0_0;have HC0_0:=Aside0.mk hc0_0;clear hr0_0 hc0_0;have HB:=Aside0.mk (Below.refl w.heap.size w);have H : ((impl_in.f a2 0 15).bind fun t690=>(if t690 = true then ((impl_isRoot.f l0_0 a1).bind fun t691=>(if t691 = true then ((impl_ArenaOk.f k l0_0).bind fun t692=>(if t692 = true then ((impl_numberAt.f l0_0 a1 a2).bind fun t693=>(some t693)) else (some 0))) else (some 0))) else (some 0))) = some r:=h;clear h;replace H:=Option.bind_eq_some_iff.mp H;obtain ⟨t690,A40,H⟩:=H;replace H : (if t690 = true then ((impl_isRoot.f l0_0 a1).bind fun t691=>(if t691 = true then ((impl_ArenaOk.f k l0_0).bind fun t692=>(if t692 = true then ((impl_numberAt.f l0_0 a1 a2).bind fun t693=>(some t693)) else (some 0))) else (some 0))) else (some 0)) = some r:=H;have A4:=Aside0.mk A40;clear A40
 by_cases c5 : t690 = true
 ·subst c5;have H1 : ((impl_isRoot.f l0_0 a1).bind fun t691=>(if t691 = true then ((impl_ArenaOk.f k l0_0).bind fun t692=>(if t692 = true then ((impl_numberAt.f l0_0 a1 a2).bind fun t693=>(some t693)) else (some 0))) else (some 0))) = some r:=by rw [if_pos rfl] at H;exact H
  clear H;have H:=H1;clear H1;replace H:=Option.bind_eq_some_iff.mp H;obtain ⟨t691,A60,H⟩:=H;replace H : (if t691 = true then ((impl_ArenaOk.f k l0_0).bind fun t692=>(if t692 = true then ((impl_numberAt.f l0_0 a1 a2).bind fun t693=>(some t693)) else (some 0))) else (some 0)) = some r:=H;have A6:=Aside0.mk A60;clear A60
  by_cases c7 : t691 = true
  ·subst c7;have H1 : ((impl_ArenaOk.f k l0_0).bind fun t692=>(if t692 = true then ((impl_numberAt.f l0_0 a1 a2).bind fun t693=>(some t693)) else (some 0))) = some r:=by rw [if_pos rfl] at H;exact H
   clear H;have H:=H1;clear H1;replace H:=Option.bind_eq_some_iff.mp H;obtain ⟨t692,A80,H⟩:=H;replace H : (if t692 = true then ((impl_numberAt.f l0_0 a1 a2).bind fun t693=>(some t693)) else (some 0)) = some r:=H;have A8:=Aside0.mk A80;clear A80
   by_cases c9 : t692 = true
   ·subst c9;have H1 : ((impl_numberAt.f l0_0 a1 a2).bind fun t693=>(some t693)) = some r:=by rw [if_pos rfl] at H;exact H
    clear H;have H:=H1;clear H1;replace H:=Option.bind_eq_some_iff.mp H;obtain ⟨t693,A100,H⟩:=H;replace H : (some t693) = some r:=H;have A10:=Aside0.mk A100;clear A100;obtain rfl:=Option.some.inj H
    go_enter Try.func95,Try.ntmps95
    go_wp2_with (first | ((with_reducible refine gate_dst (N:=3) rfl ?_);refine box_event ?hg (N:=3) ?hd (cs:=#[.slice A0_0 l0_0.length c0_0]) (t:=44) ?hr ?_;(case hd=>rfl);(case hg=>rfl);(case hr=>first | (go_simp;done) | (go_simp;rfl));intro gb689 hg w11 hbox hb;have n0_:=Aside0.mk (below_step (hs HB) hb);have n1_:=Aside0.mk (hbox);have n2_:=Aside0.mk ((by rw [hg];exact (below_size (hs HB)) : w.heap.size ≤ gb689));have n3_:=Aside0.mk ((by rw [hg];exact (below_size (hs HB)) : w.heap.size ≤ gb689));clear HB;have HB:=n0_;have BK689:=n1_;have GW689:=n2_;have GE689:=n3_;clear n0_ n1_ n2_ n3_;clear hb hbox hg) | ((with_reducible refine gate_callee (f:=84) rfl ?_);refine goesL_ (some 8) rfl rfl Try.func84 (by kernel_rfl) rfl #[.int .i64 a2,.int .i64 0,.int .i64 15] rfl (by (try simp only [List.map_toArray,List.map_cons,List.map_nil]);first | done | rfl | (simp only [List.length_drop,List.length_take];rfl)) ?_;(with_reducible refine (impl_in.calls a2 0 15 true _ A4.out).mono ?_);rintro e w' ⟨rfl,⟨nd,rfl⟩⟩;refine ⟨_,rfl,?_⟩;have hcz12_0 : w11.cell? ⟨gb689,0,none⟩ = some (.slice A0_0 l0_0.length c0_0):=(blk_cell BK689.out 0).trans rfl;have hfz12_0:=blk_frozen BK689.out 0) | (go_at_call 92;(with_reducible refine (impl_isRoot.calls _ _ l0_0 a1 true _ ?side1 ?side2 A6.out).mono ?_);(case side1=>repeat (first | exact (Kd.C_below HR0_0.out (hs1 HB GE689)) | (with_reducible refine Kd.C_alloc ?_ _) | (with_reducible refine Kd.C_drewN ?_ _) | (with_reducible refine Kd.C_drew ?_)));(case side2=>exact HC0_0.out);rintro e w13 ⟨rfl,hb⟩;have n0_:=Aside0.mk (blk_below (g:=gb689) (o:=.cells #[.slice A0_0 l0_0.length c0_0] 44 (0,0)) (bs BK689) hb);have n1_:=Aside0.mk (below_step (hs1 HB GE689) hb);clear BK689;clear HB;have BK689:=n0_;have HB:=n1_;clear n0_ n1_;(try clear hb);(try clear hb2);(try clear hk);(try clear hi);have hcz14_0 : w13.cell? ⟨gb689,0,none⟩ = some (.slice A0_0 l0_0.length c0_0):=(blk_cell BK689.out 0).trans rfl;have hfz14_0:=blk_frozen BK689.out 0) | (go_at_call 25;(with_reducible refine (impl_ArenaOk.calls k _ _ l0_0 true _ ?side1 ?side2 A8.out).mono ?_);(case side1=>repeat (first | exact (Kd.C_below HR0_0.out HB.out) | (with_reducible refine Kd.C_alloc ?_ _) | (with_reducible refine Kd.C_drewN ?_ _) | (with_reducible refine Kd.C_drew ?_)));(case side2=>exact HC0_0.out);rintro e w15 ⟨rfl,hb⟩;have n0_:=Aside0.mk (blk_below (g:=gb689) (o:=.cells #[.slice A0_0 l0_0.length c0_0] 44 (0,0)) (bs BK689) hb);have n1_:=Aside0.mk (below_step (hs1 HB GE689) hb);clear BK689;clear HB;have BK689:=n0_;have HB:=n1_;clear n0_ n1_;(try clear hb);(try clear hb2);(try clear hk);(try clear hi);have hcz16_0 : w15.cell? ⟨gb689,0,none⟩ = some (.slice A0_0 l0_0.length c0_0):=(blk_cell BK689.out 0).trans rfl;have hfz16_0:=blk_frozen BK689.out 0) | ((with_reducible refine gate_callee (f:=142) rfl ?_);refine goesL_ (some 24) rfl rfl Try.func142 (by kernel_rfl) rfl #[.agg #[.slice A0_0 l0_0.length c0_0],.int .i64 a1,.int .i64 a2] rfl (by (try simp only [List.map_toArray,List.map_cons,List.map_nil]);first | done | rfl | (simp only [List.length_drop,List.length_take];rfl)) ?_;(with_reducible refine (impl_numberAt.calls _ _ l0_0 a1 a2 t693 _ ?side1 ?side2 A10.out).mono ?_);(case side1=>repeat (first | exact (Kd.C_below HR0_0.out HB.out) | (with_reducible refine Kd.C_alloc ?_ _) | (with_reducible refine Kd.C_drewN ?_ _) | (with_reducible refine Kd.C_drew ?_)));(case side2=>exact HC0_0.out);rintro e w17 ⟨rfl,hb⟩;refine ⟨_,rfl,?_⟩;have n0_:=Aside0.mk (blk_below (g:=gb689) (o:=.cells #[.slice A0_0 l0_0.length c0_0] 44 (0,0)) (bs BK689) hb);have n1_:=Aside0.mk (below_step (hs1 HB GE689) hb);clear BK689;clear HB;have BK689:=n0_;have HB:=n1_;clear n0_ n1_;(try clear hb);(try clear hb2);(try clear hk);(try clear hi)))
    go_ret
    exact ⟨by first | rfl | (simp [errW_none,errW_some] <;> rfl) | (simp [*,errW_none,errW_some] <;> rfl),hs1 HB GE689⟩
   replace c9:=Bool.eq_false_iff.mpr c9;subst c9;have H1 : (some 0) = some r:=by rw [if_neg (show ¬ (false = true) by decide)] at H;exact H
   clear H;have H:=H1;clear H1;obtain rfl:=Option.some.inj H
   go_enter Try.func95,Try.ntmps95
   go_wp2_with (first | ((with_reducible refine gate_dst (N:=3) rfl ?_);refine box_event ?hg (N:=3) ?hd (cs:=#[.slice A0_0 l0_0.length c0_0]) (t:=44) ?hr ?_;(case hd=>rfl);(case hg=>rfl);(case hr=>first | (go_simp;done) | (go_simp;rfl));intro gb689 hg w18 hbox hb;have n0_:=Aside0.mk (below_step (hs HB) hb);have n1_:=Aside0.mk (hbox);have n2_:=Aside0.mk ((by rw [hg];exact (below_size (hs HB)) : w.heap.size ≤ gb689));have n3_:=Aside0.mk ((by rw [hg];exact (below_size (hs HB)) : w.heap.size ≤ gb689));clear HB;have HB:=n0_;have BK689:=n1_;have GW689:=n2_;have GE689:=n3_;clear n0_ n1_ n2_ n3_;clear hb hbox hg) | ((with_reducible refine gate_callee (f:=84) rfl ?_);refine goesL_ (some 8) rfl rfl Try.func84 (by kernel_rfl) rfl #[.int .i64 a2,.int .i64 0,.int .i64 15] rfl (by (try simp only [List.map_toArray,List.map_cons,List.map_nil]);first | done | rfl | (simp only [List.length_drop,List.length_take];rfl)) ?_;(with_reducible refine (impl_in.calls a2 0 15 true _ A4.out).mono ?_);rintro e w' ⟨rfl,⟨nd,rfl⟩⟩;refine ⟨_,rfl,?_⟩;have hcz19_0 : w18.cell? ⟨gb689,0,none⟩ = some (.slice A0_0 l0_0.length c0_0):=(blk_cell BK689.out 0).trans rfl;have hfz19_0:=blk_frozen BK689.out 0) | (go_at_call 92;(with_reducible refine (impl_isRoot.calls _ _ l0_0 a1 true _ ?side1 ?side2 A6.out).mono ?_);(case side1=>repeat (first | exact (Kd.C_below HR0_0.out (hs1 HB GE689)) | (with_reducible refine Kd.C_alloc ?_ _) | (with_reducible refine Kd.C_drewN ?_ _) | (with_reducible refine Kd.C_drew ?_)));(case side2=>exact HC0_0.out);rintro e w20 ⟨rfl,hb⟩;have n0_:=Aside0.mk (blk_below (g:=gb689) (o:=.cells #[.slice A0_0 l0_0.length c0_0] 44 (0,0)) (bs BK689) hb);have n1_:=Aside0.mk (below_step (hs1 HB GE689) hb);clear BK689;clear HB;have BK689:=n0_;have HB:=n1_;clear n0_ n1_;(try clear hb);(try clear hb2);(try clear hk);(try clear hi);have hcz21_0 : w20.cell? ⟨gb689,0,none⟩ = some (.slice A0_0 l0_0.length c0_0):=(blk_cell BK689.out 0).trans rfl;have hfz21_0:=blk_frozen BK689.out 0) | (go_at_call 25;(with_reducible refine (impl_ArenaOk.calls k _ _ l0_0 false _ ?side1 ?side2 A8.out).mono ?_);(case side1=>repeat (first | exact (Kd.C_below HR0_0.out HB.out) | (with_reducible refine Kd.C_alloc ?_ _) | (with_reducible refine Kd.C_drewN ?_ _) | (with_reducible refine Kd.C_drew ?_)));(case side2=>exact HC0_0.out);rintro e w22 ⟨rfl,hb⟩;have n0_:=Aside0.mk (blk_below (g:=gb689) (o:=.cells #[.slice A0_0 l0_0.length c0_0] 44 (0,0)) (bs BK689) hb);have n1_:=Aside0.mk (below_step (hs1 HB GE689) hb);clear BK689;clear HB;have BK689:=n0_;have HB:=n1_;clear n0_ n1_;(try clear hb);(try clear hb2);(try clear hk);(try clear hi)))
   go_ret
   exact ⟨by first | rfl | (simp [errW_none,errW_some] <;> rfl) | (simp [*,errW_none,errW_some] <;> rfl),hs1 HB GE689⟩
  replace c7:=Bool.eq_false_iff.mpr c7;subst c7;have H1 : (some 0) = some r:=by rw [if_neg (show ¬ (false = true) by decide)] at H;exact H
  clear H;have H:=H1;clear H1;obtain rfl:=Option.some.inj H
  go_enter Try.func95,Try.ntmps95
  go_wp2_with (first | ((with_reducible refine gate_dst (N:=3) rfl ?_);refine box_event ?hg (N:=3) ?hd (cs:=#[.slice A0_0 l0_0.length c0_0]) (t:=44) ?hr ?_;(case hd=>rfl);(case hg=>rfl);(case hr=>first | (go_simp;done) | (go_simp;rfl));intro gb689 hg w23 hbox hb;have n0_:=Aside0.mk (below_step (hs HB) hb);have n1_:=Aside0.mk (hbox);have n2_:=Aside0.mk ((by rw [hg];exact (below_size (hs HB)) : w.heap.size ≤ gb689));have n3_:=Aside0.mk ((by rw [hg];exact (below_size (hs HB)) : w.heap.size ≤ gb689));clear HB;have HB:=n0_;have BK689:=n1_;have GW689:=n2_;have GE689:=n3_;clear n0_ n1_ n2_ n3_;clear hb hbox hg) | ((with_reducible refine gate_callee (f:=84) rfl ?_);refine goesL_ (some 8) rfl rfl Try.func84 (by kernel_rfl) rfl #[.int .i64 a2,.int .i64 0,.int .i64 15] rfl (by (try simp only [List.map_toArray,List.map_cons,List.map_nil]);first | done | rfl | (simp only [List.length_drop,List.length_take];rfl)) ?_;(with_reducible refine (impl_in.calls a2 0 15 true _ A4.out).mono ?_);rintro e w' ⟨rfl,⟨nd,rfl⟩⟩;refine ⟨_,rfl,?_⟩;have hcz24_0 : w23.cell? ⟨gb689,0,none⟩ = some (.slice A0_0 l0_0.length c0_0):=(blk_cell BK689.out 0).trans rfl;have hfz24_0:=blk_frozen BK689.out 0) | (go_at_call 92;(with_reducible refine (impl_isRoot.calls _ _ l0_0 a1 false _ ?side1 ?side2 A6.out).mono ?_);(case side1=>repeat (first | exact (Kd.C_below HR0_0.out (hs1 HB GE689)) | (with_reducible refine Kd.C_alloc ?_ _) | (with_reducible refine Kd.C_drewN ?_ _) | (with_reducible refine Kd.C_drew ?_)));(case side2=>exact HC0_0.out);rintro e w25 ⟨rfl,hb⟩;have n0_:=Aside0.mk (blk_below (g:=gb689) (o:=.cells #[.slice A0_0 l0_0.length c0_0] 44 (0,0)) (bs BK689) hb);have n1_:=Aside0.mk (below_step (hs1 HB GE689) hb);clear BK689;clear HB;have BK689:=n0_;have HB:=n1_;clear n0_ n1_;(try clear hb);(try clear hb2);(try clear hk);(try clear hi)))
  go_ret
  exact ⟨by first | rfl | (simp [errW_none,errW_some] <;> rfl) | (simp [*,errW_none,errW_some] <;> rfl),hs1 HB GE689⟩
 replace c5:=Bool.eq_false_iff.mpr c5;subst c5;have H1 : (some 0) = some r:=by rw [if_neg (show ¬ (false = true) by decide)] at H;exact H
 clear H;have H:=H1;clear H1;obtain rfl:=Option.some.inj H
 go_enter Try.func95,Try.ntmps95
 go_wp2_with (first | ((with_reducible refine gate_dst (N:=3) rfl ?_);refine box_event ?hg (N:=3) ?hd (cs:=#[.slice A0_0 l0_0.length c0_0]) (t:=44) ?hr ?_;(case hd=>rfl);(case hg=>rfl);(case hr=>first | (go_simp;done) | (go_simp;rfl));intro gb689 hg w26 hbox hb;have n0_:=Aside0.mk (below_step (hs HB) hb);have n1_:=Aside0.mk (hbox);have n2_:=Aside0.mk ((by rw [hg];exact (below_size (hs HB)) : w.heap.size ≤ gb689));have n3_:=Aside0.mk ((by rw [hg];exact (below_size (hs HB)) : w.heap.size ≤ gb689));clear HB;have HB:=n0_;have BK689:=n1_;have GW689:=n2_;have GE689:=n3_;clear n0_ n1_ n2_ n3_;clear hb hbox hg) | ((with_reducible refine gate_callee (f:=84) rfl ?_);refine goesL_ (some 8) rfl rfl Try.func84 (by kernel_rfl) rfl #[.int .i64 a2,.int .i64 0,.int .i64 15] rfl (by (try simp only [List.map_toArray,List.map_cons,List.map_nil]);first | done | rfl | (simp only [List.length_drop,List.length_take];rfl)) ?_;(with_reducible refine (impl_in.calls a2 0 15 false _ A4.out).mono ?_);rintro e w' ⟨rfl,⟨nd,rfl⟩⟩;refine ⟨_,rfl,?_⟩))
 go_ret
 exact ⟨by first | rfl | (simp [errW_none,errW_some] <;> rfl) | (simp [*,errW_none,errW_some] <;> rfl),hs1 HB GE689⟩
end Go.Proofs.Ytdolplcbokioaaa.PB

namespace Go.Proofs.Ytdolplcbokioaaa.PB
open Go.RowKit Go.Proofs.YtdolplcbokioaaaW.PrintWords Go.Proofs.YtdolplcbokioaaaW.PrintLast Go.Proofs.YtdolplcbokioaaaW.PrintMore
attribute [local go_sem] max2_int min2_int max_two min_two max_three min_three max_four min_four   -- for this text's walks alone
set_option linter.unusedVariables false
set_option linter.unusedSimpArgs false
def spec_GetAt.f (k : Nat) (l0_0 : List (S133)) (a1 : Int) (a2 : Int) : Option (Int):=(spec_ArenaOk.f k l0_0).bind fun t705=>(if t705 = true then ((spec_l11Root.f l0_0 a1).bind fun t706=>(if t706 = true then ((spec_l01In.f a2 0 15).bind fun t707=>(if t707 = true then ((spec_l11Get.f l0_0 a1 a2).bind fun t708=>(some t708)) else (some 0))) else (some 0))) else (some 0))
theorem spec_GetAt.mono : ∀ a0 a1 a2 k,LeO (spec_GetAt.f k a0 a1 a2) (spec_GetAt.f (k + 1) a0 a1 a2):=by
 intro a0 a1 a2 k;unfold spec_GetAt.f
 repeat' first
   | (with_reducible exact spec_ArenaOk.mono _ _)
   | (with_reducible exact LeO.refl _)
   | (with_reducible exact LeO.none _)
   | (with_reducible refine LeO.ite ?_ ?_)
   | (with_reducible refine LeO.bind ?_ (fun _=>?_))
   | exact spec_ArenaOk.mono _ _
   | exact LeO.none _
   | refine LeO.ite ?_ ?_
   | refine LeO.bind ?_ (fun _=>?_)
set_option maxHeartbeats 8000000 in
set_option maxRecDepth 100000 in
theorem spec_GetAt.calls (k : Nat) (A0_0 : Option Addr) (c0_0 : Nat) (l0_0 : List (S133)) (a1 : Int) (a2 : Int) (r : Int) (w : World) (hr0_0 : Kd.C k133 w A0_0 l0_0.length l0_0) (hc0_0 : l0_0.length ≤ c0_0) (h : spec_GetAt.f k l0_0 a1 a2 = some r) :
  Calls Try.prog 96 #[.agg #[.slice A0_0 l0_0.length c0_0],.int .i64 a1,.int .i64 a2] w fun e w'=>e = .returned (.int .i64 r) ∧ Below w.heap.size w w':=by
 have hu44:=Try.underlying44;have HR0_0:=Aside0.mk hr0_0;have HC0_0:=Aside0.mk hc0_0;clear hr0_0 hc0_0;have HB:=Aside0.mk (Below.refl w.heap.size w);have H : ((spec_ArenaOk.f k l0_0).bind fun t705=>(if t705 = true then ((spec_l11Root.f l0_0 a1).bind fun t706=>(if t706 = true then ((spec_l01In.f a2 0 15).bind fun t707=>(if t707 = true then ((spec_l11Get.f l0_0 a1 a2).bind fun t708=>(some t708)) else (some 0))) else (some 0))) else (some 0))) = some r:=h;clear h;replace H:=Option.bind_eq_some_iff.mp H;obtain ⟨t705,A40,H⟩:=H;replace H : (if t705 = true then ((spec_l11Root.f l0_0 a1).bind fun t706=>(if t706 = true then ((spec_l01In.f a2 0 15).bind fun t707=>(if t707 = true then ((spec_l11Get.f l0_0 a1 a2).bind fun t708=>(some t708)) else (some 0))) else (some 0))) else (some 0)) = some r:=H;have A4:=Aside0.mk A40;clear A40
 by_cases c5 : t705 = true
 ·subst c5;have H1 : ((spec_l11Root.f l0_0 a1).bind fun t706=>(if t706 = true then ((spec_l01In.f a2 0 15).bind fun t707=>(if t707 = true then ((spec_l11Get.f l0_0 a1 a2).bind fun t708=>(some t708)) else (some 0))) else (some 0))) = some r:=by rw [if_pos rfl] at H;exact H
  clear H;have H:=H1;clear H1;replace H:=Option.bind_eq_some_iff.mp H;obtain ⟨t706,A60,H⟩:=H;replace H : (if t706 = true then ((spec_l01In.f a2 0 15).bind fun t707=>(if t707 = true then ((spec_l11Get.f l0_0 a1 a2).bind fun t708=>(some t708)) else (some 0))) else (some 0)) = some r:=H;have A6:=Aside0.mk A60;clear A60
  by_cases c7 : t706 = true
  ·subst c7;have H1 : ((spec_l01In.f a2 0 15).bind fun t707=>(if t707 = true then ((spec_l11Get.f l0_0 a1 a2).bind fun t708=>(some t708)) else (some 0))) = some r:=by rw [if_pos rfl] at H;exact H
   clear H;have H:=H1;clear H1;replace H:=Option.bind_eq_some_iff.mp H;obtain ⟨t707,A80,H⟩:=H;replace H : (if t707 = true then ((spec_l11Get.f l0_0 a1 a2).bind fun t708=>(some t708)) else (some 0)) = some r:=H;have A8:=Aside0.mk A80;clear A80
   by_cases c9 : t707 = true
   ·subst c9;have H1 : ((spec_l11Get.f l0_0 a1 a2).bind fun t708=>(some t708)) = some r:=by rw [if_pos rfl] at H;exact H
    clear H;have H:=H1;clear H1;replace H:=Option.bind_eq_some_iff.mp H;obtain ⟨t708,A100,H⟩:=H;replace H : (some t708) = some r:=H;have A10:=Aside0.mk A100;clear A100;obtain rfl:=Option.some.inj H
    go_enter Try.func96,Try.ntmps96
    go_wp2_with (first | ((with_reducible refine gate_dst (N:=3) rfl ?_);refine box_event ?hg (N:=3) ?hd (cs:=#[.slice A0_0 l0_0.length c0_0]) (t:=44) ?hr ?_;(case hd=>rfl);(case hg=>rfl);(case hr=>first | (go_simp;done) | (go_simp;rfl));intro gb704 hg w11 hbox hb;have n0_:=Aside0.mk (below_step (hs HB) hb);have n1_:=Aside0.mk (hbox);have n2_:=Aside0.mk ((by rw [hg];exact (below_size (hs HB)) : w.heap.size ≤ gb704));have n3_:=Aside0.mk ((by rw [hg];exact (below_size (hs HB)) : w.heap.size ≤ gb704));clear HB;have HB:=n0_;have BK704:=n1_;have GW704:=n2_;have GE704:=n3_;clear n0_ n1_ n2_ n3_;clear hb hbox hg;have hcz12_0 : w11.cell? ⟨gb704,0,none⟩ = some (.slice A0_0 l0_0.length c0_0):=(blk_cell BK704.out 0).trans rfl;have hfz12_0:=blk_frozen BK704.out 0) | ((with_reducible refine gate_callee (f:=99) rfl ?_);refine goesL_ (some 8) rfl rfl Try.func99 (by kernel_rfl) rfl #[.agg #[.slice A0_0 l0_0.length c0_0]] rfl (by (try simp only [List.map_toArray,List.map_cons,List.map_nil]);first | done | rfl | (simp only [List.length_drop,List.length_take];rfl)) ?_;(with_reducible refine (spec_ArenaOk.calls k _ _ l0_0 true _ ?side1 ?side2 A4.out).mono ?_);(case side1=>repeat (first | exact (Kd.C_below HR0_0.out HB.out) | (with_reducible refine Kd.C_alloc ?_ _) | (with_reducible refine Kd.C_drewN ?_ _) | (with_reducible refine Kd.C_drew ?_)));(case side2=>exact HC0_0.out);rintro e w13 ⟨rfl,hb⟩;refine ⟨_,rfl,?_⟩;have n0_:=Aside0.mk (blk_below (g:=gb704) (o:=.cells #[.slice A0_0 l0_0.length c0_0] 44 (0,0)) (bs BK704) hb);have n1_:=Aside0.mk (below_step (hs1 HB GE704) hb);clear BK704;clear HB;have BK704:=n0_;have HB:=n1_;clear n0_ n1_;(try clear hb);(try clear hb2);(try clear hk);(try clear hi);have hcz14_0 : w13.cell? ⟨gb704,0,none⟩ = some (.slice A0_0 l0_0.length c0_0):=(blk_cell BK704.out 0).trans rfl;have hfz14_0:=blk_frozen BK704.out 0) | (go_at_call 100;(with_reducible refine (spec_l11Root.calls _ _ l0_0 a1 true _ ?side1 ?side2 A6.out).mono ?_);(case side1=>repeat (first | exact (Kd.C_below HR0_0.out HB.out) | (with_reducible refine Kd.C_alloc ?_ _) | (with_reducible refine Kd.C_drewN ?_ _) | (with_reducible refine Kd.C_drew ?_)));(case side2=>exact HC0_0.out);rintro e w15 ⟨rfl,hb⟩;have n0_:=Aside0.mk (blk_below (g:=gb704) (o:=.cells #[.slice A0_0 l0_0.length c0_0] 44 (0,0)) (bs BK704) hb);have n1_:=Aside0.mk (below_step (hs1 HB GE704) hb);clear BK704;clear HB;have BK704:=n0_;have HB:=n1_;clear n0_ n1_;(try clear hb);(try clear hb2);(try clear hk);(try clear hi)) | (go_at_call 86;(with_reducible refine (spec_l01In.calls a2 0 15 true _ A8.out).mono ?_);rintro e w' ⟨rfl,⟨nd,rfl⟩⟩;have hcz16_0 : w15.cell? ⟨gb704,0,none⟩ = some (.slice A0_0 l0_0.length c0_0):=(blk_cell BK704.out 0).trans rfl;have hfz16_0:=blk_frozen BK704.out 0) | ((with_reducible refine gate_callee (f:=135) rfl ?_);refine goesL_ (some 24) rfl rfl Try.func135 (by kernel_rfl) rfl #[.agg #[.slice A0_0 l0_0.length c0_0],.int .i64 a1,.int .i64 a2] rfl (by (try simp only [List.map_toArray,List.map_cons,List.map_nil]);first | done | rfl | (simp only [List.length_drop,List.length_take];rfl)) ?_;(with_reducible refine (spec_l11Get.calls _ _ l0_0 a1 a2 t708 _ ?side1 ?side2 A10.out).mono ?_);(case side1=>repeat (first | exact (Kd.C_below HR0_0.out (hs1 HB GE704)) | (with_reducible refine Kd.C_alloc ?_ _) | (with_reducible refine Kd.C_drewN ?_ _) | (with_reducible refine Kd.C_drew ?_)));(case side2=>exact HC0_0.out);rintro e w17 ⟨rfl,hb⟩;refine ⟨_,rfl,?_⟩;have n0_:=Aside0.mk (blk_below (g:=gb704) (o:=.cells #[.slice A0_0 l0_0.length c0_0] 44 (0,0)) (bs BK704) hb);have n1_:=Aside0.mk (below_step (hs1 HB GE704) hb);clear BK704;clear HB;have BK704:=n0_;have HB:=n1_;clear n0_ n1_;(try clear hb);(try clear hb2);(try clear hk);(try clear hi)))
    go_ret
    exact ⟨by first | rfl | (simp [errW_none,errW_some] <;> rfl) | (simp [*,errW_none,errW_some] <;> rfl),hs1 HB GE704⟩
   replace c9:=Bool.eq_false_iff.mpr c9;subst c9;have H1 : (some 0) = some r:=by rw [if_neg (show ¬ (false = true) by decide)] at H;exact H
   clear H;have H:=H1;clear H1;obtain rfl:=Option.some.inj H
   go_enter Try.func96,Try.ntmps96
   go_wp2_with (first | ((with_reducible refine gate_dst (N:=3) rfl ?_);refine box_event ?hg (N:=3) ?hd (cs:=#[.slice A0_0 l0_0.length c0_0]) (t:=44) ?hr ?_;(case hd=>rfl);(case hg=>rfl);(case hr=>first | (go_simp;done) | (go_simp;rfl));intro gb704 hg w18 hbox hb;have n0_:=Aside0.mk (below_step (hs HB) hb);have n1_:=Aside0.mk (hbox);have n2_:=Aside0.mk ((by rw [hg];exact (below_size (hs HB)) : w.heap.size ≤ gb704));have n3_:=Aside0.mk ((by rw [hg];exact (below_size (hs HB)) : w.heap.size ≤ gb704));clear HB;have HB:=n0_;have BK704:=n1_;have GW704:=n2_;have GE704:=n3_;clear n0_ n1_ n2_ n3_;clear hb hbox hg;have hcz19_0 : w18.cell? ⟨gb704,0,none⟩ = some (.slice A0_0 l0_0.length c0_0):=(blk_cell BK704.out 0).trans rfl;have hfz19_0:=blk_frozen BK704.out 0) | ((with_reducible refine gate_callee (f:=99) rfl ?_);refine goesL_ (some 8) rfl rfl Try.func99 (by kernel_rfl) rfl #[.agg #[.slice A0_0 l0_0.length c0_0]] rfl (by (try simp only [List.map_toArray,List.map_cons,List.map_nil]);first | done | rfl | (simp only [List.length_drop,List.length_take];rfl)) ?_;(with_reducible refine (spec_ArenaOk.calls k _ _ l0_0 true _ ?side1 ?side2 A4.out).mono ?_);(case side1=>repeat (first | exact (Kd.C_below HR0_0.out HB.out) | (with_reducible refine Kd.C_alloc ?_ _) | (with_reducible refine Kd.C_drewN ?_ _) | (with_reducible refine Kd.C_drew ?_)));(case side2=>exact HC0_0.out);rintro e w20 ⟨rfl,hb⟩;refine ⟨_,rfl,?_⟩;have n0_:=Aside0.mk (blk_below (g:=gb704) (o:=.cells #[.slice A0_0 l0_0.length c0_0] 44 (0,0)) (bs BK704) hb);have n1_:=Aside0.mk (below_step (hs1 HB GE704) hb);clear BK704;clear HB;have BK704:=n0_;have HB:=n1_;clear n0_ n1_;(try clear hb);(try clear hb2);(try clear hk);(try clear hi);have hcz21_0 : w20.cell? ⟨gb704,0,none⟩ = some (.slice A0_0 l0_0.length c0_0):=(blk_cell BK704.out 0).trans rfl;have hfz21_0:=blk_frozen BK704.out 0) | (go_at_call 100;(with_reducible refine (spec_l11Root.calls _ _ l0_0 a1 true _ ?side1 ?side2 A6.out).mono ?_);(case side1=>repeat (first | exact (Kd.C_below HR0_0.out HB.out) | (with_reducible refine Kd.C_alloc ?_ _) | (with_reducible refine Kd.C_drewN ?_ _) | (with_reducible refine Kd.C_drew ?_)));(case side2=>exact HC0_0.out);rintro e w22 ⟨rfl,hb⟩;have n0_:=Aside0.mk (blk_below (g:=gb704) (o:=.cells #[.slice A0_0 l0_0.length c0_0] 44 (0,0)) (bs BK704) hb);have n1_:=Aside0.mk (below_step (hs1 HB GE704) hb);clear BK704;clear HB;have BK704:=n0_;have HB:=n1_;clear n0_ n1_;(try clear hb);(try clear hb2);(try clear hk);(try clear hi)) | (go_at_call 86;(with_reducible refine (spec_l01In.calls a2 0 15 false _ A8.out).mono ?_);rintro e w' ⟨rfl,⟨nd,rfl⟩⟩))
   go_ret
   exact ⟨by first | rfl | (simp [errW_none,errW_some] <;> rfl) | (simp [*,errW_none,errW_some] <;> rfl),hs1 HB GE704⟩
  replace c7:=Bool.eq_false_iff.mpr c7;subst c7;have H1 : (some 0) = some r:=by rw [if_neg (show ¬ (false = true) by decide)] at H;exact H
  clear H;have H:=H1;clear H1;obtain rfl:=Option.some.inj H
  go_enter Try.func96,Try.ntmps96
  go_wp2_with (first | ((with_reducible refine gate_dst (N:=3) rfl ?_);refine box_event ?hg (N:=3) ?hd (cs:=#[.slice A0_0 l0_0.length c0_0]) (t:=44) ?hr ?_;(case hd=>rfl);(case hg=>rfl);(case hr=>first | (go_simp;done) | (go_simp;rfl));intro gb704 hg w23 hbox hb;have n0_:=Aside0.mk (below_step (hs HB) hb);have n1_:=Aside0.mk (hbox);have n2_:=Aside0.mk ((by rw [hg];exact (below_size (hs HB)) : w.heap.size ≤ gb704));have n3_:=Aside0.mk ((by rw [hg];exact (below_size (hs HB)) : w.heap.size ≤ gb704));clear HB;have HB:=n0_;have BK704:=n1_;have GW704:=n2_;have GE704:=n3_;clear n0_ n1_ n2_ n3_;clear hb hbox hg;have hcz24_0 : w23.cell? ⟨gb704,0,none⟩ = some (.slice A0_0 l0_0.length c0_0):=(blk_cell BK704.out 0).trans rfl;have hfz24_0:=blk_frozen BK704.out 0) | ((with_reducible refine gate_callee (f:=99) rfl ?_);refine goesL_ (some 8) rfl rfl Try.func99 (by kernel_rfl) rfl #[.agg #[.slice A0_0 l0_0.length c0_0]] rfl (by (try simp only [List.map_toArray,List.map_cons,List.map_nil]);first | done | rfl | (simp only [List.length_drop,List.length_take];rfl)) ?_;(with_reducible refine (spec_ArenaOk.calls k _ _ l0_0 true _ ?side1 ?side2 A4.out).mono ?_);(case side1=>repeat (first | exact (Kd.C_below HR0_0.out HB.out) | (with_reducible refine Kd.C_alloc ?_ _) | (with_reducible refine Kd.C_drewN ?_ _) | (with_reducible refine Kd.C_drew ?_)));(case side2=>exact HC0_0.out);rintro e w25 ⟨rfl,hb⟩;refine ⟨_,rfl,?_⟩;have n0_:=Aside0.mk (blk_below (g:=gb704) (o:=.cells #[.slice A0_0 l0_0.length c0_0] 44 (0,0)) (bs BK704) hb);have n1_:=Aside0.mk (below_step (hs1 HB GE704) hb);clear BK704;clear HB;have BK704:=n0_;have HB:=n1_;clear n0_ n1_;(try clear hb);(try clear hb2);(try clear hk);(try clear hi);have hcz26_0 : w25.cell? ⟨gb704,0,none⟩ = some (.slice A0_0 l0_0.length c0_0):=(blk_cell BK704.out 0).trans rfl;have hfz26_0:=blk_frozen BK704.out 0) | (go_at_call 100;(with_reducible refine (spec_l11Root.calls _ _ l0_0 a1 false _ ?side1 ?side2 A6.out).mono ?_);(case side1=>repeat (first | exact (Kd.C_below HR0_0.out HB.out) | (with_reducible refine Kd.C_alloc ?_ _) | (with_reducible refine Kd.C_drewN ?_ _) | (with_reducible refine Kd.C_drew ?_)));(case side2=>exact HC0_0.out);rintro e w27 ⟨rfl,hb⟩;have n0_:=Aside0.mk (blk_below (g:=gb704) (o:=.cells #[.slice A0_0 l0_0.length c0_0] 44 (0,0)) (bs BK704) hb);have n1_:=Aside0.mk (below_step (hs1 HB GE704) hb);clear BK704;clear HB;have BK704:=n0_;have HB:=n1_;clear n0_ n1_;(try clear hb);(try clear hb2);(try clear hk);(try clear hi)))
  go_ret
  exact ⟨by first | rfl | (simp [errW_none,errW_some] <;> rfl) | (simp [*,errW_none,errW_some] <;> rfl),hs1 HB GE704⟩
 replace c5:=Bool.eq_false_iff.mpr c5;subst c5;have H1 : (some 0) = some r:=by rw [if_neg (show ¬ (false = true) by decide)] at H;exact H
 clear H;have H:=H1;clear H1;obtain rfl:=Option.some.inj H
 go_enter Try.func96,Try.ntmps96
 go_wp2_with (first | ((with_reducible refine gate_dst (N:=3) rfl ?_);refine box_event ?hg (N:=3) ?hd (cs:=#[.slice A0_0 l0_0.length c0_0]) (t:=44) ?hr ?_;(case hd=>rfl);(case hg=>rfl);(case hr=>first | (go_simp;done) | (go_simp;rfl));intro gb704 hg w28 hbox hb;have n0_:=Aside0.mk (below_step (hs HB) hb);have n1_:=Aside0.mk (hbox);have n2_:=Aside0.mk ((by rw [hg];exact (below_size (hs HB)) : w.heap.size ≤ gb704));have n3_:=Aside0.mk ((by rw [hg];exact (below_size (hs HB)) : w.heap.size ≤ gb704));clear HB;have HB:=n0_;have BK704:=n1_;have GW704:=n2_;have GE704:=n3_;clear n0_ n1_ n2_ n3_;clear hb hbox hg;have hcz29_0 : w28.cell? ⟨gb704,0,none⟩ = some (.slice A0_0 l0_0.length c0_0):=(blk_cell BK704.out 0).trans rfl;have hfz29_0:=blk_frozen BK704.out 0) | ((with_reducible refine gate_callee (f:=99) rfl ?_);refine goesL_ (some 8) rfl rfl Try.func99 (by kernel_rfl) rfl #[.agg #[.slice A0_0 l0_0.length c0_0]] rfl (by (try simp only [List.map_toArray,List.map_cons,List.map_nil]);first | done | rfl | (simp only [List.length_drop,List.length_take];rfl)) ?_;(with_reducible refine (spec_ArenaOk.calls k _ _ l0_0 false _ ?side1 ?side2 A4.out).mono ?_);(case side1=>repeat (first | exact (Kd.C_below HR0_0.out HB.out) | (with_reducible refine Kd.C_alloc ?_ _) | (with_reducible refine Kd.C_drewN ?_ _) | (with_reducible refine Kd.C_drew ?_)));(case side2=>exact HC0_0.out);rintro e w30 ⟨rfl,hb⟩;refine ⟨_,rfl,?_⟩;have n0_:=Aside0.mk (blk_below (g:=gb704) (o:=.cells #[.slice A0_0 l0_0.length c0_0] 44 (0,0)) (bs BK704) hb);have n1_:=Aside0.mk (below_step (hs1 HB GE704) hb);clear BK704;clear HB;have BK704:=n0_;have HB:=n1_;clear n0_ n1_;(try clear hb);(try clear hb2);(try clear hk);(try clear hi)))
 go_ret
 exact ⟨by first | rfl | (simp [errW_none,errW_some] <;> rfl) | (simp [*,errW_none,errW_some] <;> rfl),hs1 HB GE704⟩
end Go.Proofs.Ytdolplcbokioaaa.PB

/- The number of a sector of a tree, as one function; the program's and the reference's GetAt answer it. -/
namespace Go.Proofs.Ytdolplcbokioaaa.Pu
set_option linter.unusedVariables false
set_option linter.unusedSimpArgs false
open Go.RowKit Go.Proofs.Ytdolplcbokioaaa.PB Go.Proofs.YtdolplcbokioaaaW.PrintWords

def rootB (a : List S133) (r : Int) : Bool := decide (0 ≤ r ∧ r ≤ (a.length : Int) - 1) && !(a.getD r.toNat z133).f0
def numB (a : List S133) (r s : Int) : Int := if (a.getD r.toNat z133).f1.getD (s / 4).toNat 0 < 0 then 0 else (a.getD ((a.getD r.toNat z133).f1.getD (s / 4).toNat 0).toNat z133).f1.getD (s % 4).toNat 0
def getB (a : List S133) (r s : Int) : Int := if (0 ≤ s ∧ s ≤ 15) ∧ rootB a r = true ∧ arenaB a = true then numB a r s else 0

theorem knot_of {a : List S133} (h : arenaB a = true) {i : Nat} (hi : i < a.length) : (a.getD i z133).f1.length = 4 ∧ ∀ n ∈ (a.getD i z133).f1, kidB a i (a.getD i z133).f0 n = true := by
  unfold arenaB at h
  rw [List.all_eq_true] at h
  have h1 := h i (by simp; omega)
  unfold knotB at h1
  rw [Bool.and_eq_true, decide_eq_true_eq, List.all_eq_true] at h1
  exact h1
theorem getD_mem {α : Type} {l : List α} {i : Nat} {z : α} (hi : i < l.length) : l.getD i z ∈ l := by
  rw [List.getD_eq_getElem?_getD, List.getElem?_eq_getElem hi]; exact List.getElem_mem hi
/-- A kid of a knot that is no leaf: -1, or the place of a leaf. -/
theorem kid_of {a : List S133} (h : arenaB a = true) {r : Nat} (hr : r < a.length) (hf : (a.getD r z133).f0 = false) {j : Nat} (hj : j < 4) :
    (a.getD r z133).f1.getD j 0 = -1 ∨ (0 ≤ (a.getD r z133).f1.getD j 0 ∧ (a.getD r z133).f1.getD j 0 < r ∧ (a.getD ((a.getD r z133).f1.getD j 0).toNat z133).f0 = true) := by
  obtain ⟨h4, hk⟩ := knot_of h hr
  have h1 := hk _ (getD_mem (i := j) (z := 0) (by omega))
  unfold kidB at h1
  rw [hf] at h1
  simp only [Bool.false_eq_true, if_false, Bool.or_eq_true, decide_eq_true_eq, Bool.and_eq_true] at h1
  rcases h1 with h1 | ⟨h1, h2⟩
  · exact .inl h1
  · exact .inr ⟨h1.1, by omega, h2⟩
theorem iRoot_eq (a : List S133) (r : Int) (hn : a.length ≤ 9223372036854775807) : impl_isRoot.f a r = some (rootB a r) := by
  unfold impl_isRoot.f rootB
  rw [w64 (by omega) (by omega), in_eq]
  simp only [Option.bind_some]
  by_cases h : 0 ≤ r ∧ r ≤ (a.length : Int) - 1
  · rw [decide_eq_true h, if_pos rfl, if_pos h.1, if_pos (by omega), Bool.true_and]; rfl
  · rw [decide_eq_false h, if_neg (by decide), Bool.false_and]
theorem sRoot_eq (a : List S133) (r : Int) (hn : a.length ≤ 9223372036854775807) : spec_l11Root.f a r = some (decide (r = -1) || rootB a r) := by
  unfold spec_l11Root.f rootB
  by_cases h0 : r = -1
  · rw [if_pos h0, decide_eq_true h0, Bool.true_or]
  · rw [if_neg h0, decide_eq_false h0, Bool.false_or, w64 (by omega) (by omega), l01In_eq]
    simp only [Option.bind_some]
    by_cases h : 0 ≤ r ∧ r ≤ (a.length : Int) - 1
    · rw [decide_eq_true h, if_pos rfl, if_pos h.1, if_pos (by omega), Bool.true_and]; rfl
    · rw [decide_eq_false h, if_neg (by decide), Bool.false_and]
theorem div4 {s : Int} (h0 : 0 ≤ s) (h1 : s ≤ 15) : wrap64 (Int.tdiv s 4) = s / 4 ∧ Int.tmod s 4 = s % 4 ∧ 0 ≤ s / 4 ∧ s / 4 < 4 ∧ 0 ≤ s % 4 ∧ s % 4 < 4 := by
  rw [Int.tdiv_eq_ediv_of_nonneg h0, Int.tmod_eq_emod_of_nonneg h0, w64 (by omega) (by omega)]
  omega
theorem root_lt {a : List S133} {r : Int} (h : rootB a r = true) : 0 ≤ r ∧ r.toNat < a.length ∧ (a.getD r.toNat z133).f0 = false := by
  unfold rootB at h
  rw [Bool.and_eq_true, decide_eq_true_eq, Bool.not_eq_true'] at h
  exact ⟨h.1.1, by omega, h.2⟩
theorem iNumber_eq (a : List S133) (r s : Int) (ha : arenaB a = true) (hr : rootB a r = true) (h0 : 0 ≤ s) (h1 : s ≤ 15) : impl_numberAt.f a r s = some (numB a r s) := by
  obtain ⟨r0, rl, rf⟩ := root_lt hr
  obtain ⟨d1, d2, d3, d4, d5, d6⟩ := div4 h0 h1
  have h4 := (knot_of ha rl).1
  have hk := kid_of ha rl rf (j := (s / 4).toNat) (by omega)
  unfold impl_numberAt.f numB
  simp only [d1, d2]
  show (if 0 ≤ r then if r < (a.length : Int) then if 0 ≤ s / 4 then if s / 4 < (((a.getD r.toNat z133).f1.length : Nat) : Int) then if (a.getD r.toNat z133).f1.getD (s / 4).toNat 0 < 0 then some 0 else if 0 ≤ (a.getD r.toNat z133).f1.getD (s / 4).toNat 0 then if (a.getD r.toNat z133).f1.getD (s / 4).toNat 0 < (a.length : Int) then if 0 ≤ s % 4 then if s % 4 < (((a.getD ((a.getD r.toNat z133).f1.getD (s / 4).toNat 0).toNat z133).f1.length : Nat) : Int) then some ((a.getD ((a.getD r.toNat z133).f1.getD (s / 4).toNat 0).toNat z133).f1.getD (s % 4).toNat 0) else none else none else none else none else none else none else none else none) = _
  rw [if_pos r0, if_pos (by omega), if_pos d3, if_pos (by omega)]
  rcases hk with hk | ⟨k0, k1, _⟩
  · rw [if_pos (by omega), if_pos (by omega)]
  · have h5 := (knot_of ha (i := ((a.getD r.toNat z133).f1.getD (s / 4).toNat 0).toNat) (by omega)).1
    rw [if_neg (by omega), if_pos k0, if_pos (by omega), if_pos d5, if_pos (by omega), if_neg (by omega)]
theorem sGet_eq (a : List S133) (r s : Int) (ha : arenaB a = true) (hr : rootB a r = true) (h0 : 0 ≤ s) (h1 : s ≤ 15) : spec_l11Get.f a r s = some (numB a r s) := by
  obtain ⟨r0, rl, rf⟩ := root_lt hr
  have h := iNumber_eq a r s ha hr h0 h1
  unfold impl_numberAt.f at h
  unfold spec_l11Get.f
  rw [if_neg (by omega)]
  exact h
theorem iGetAt_ev (a : List S133) (r s : Int) (hn : a.length ≤ 9223372036854775807) : Ev (fun k => impl_GetAt.f k a r s) (getB a r s) := by
  unfold impl_GetAt.f getB
  simp only [in_eq, iRoot_eq a r hn, Option.bind_some, decide_eq_true_eq]
  by_cases h1 : 0 ≤ s ∧ s ≤ 15
  · by_cases h2 : rootB a r = true
    · simp only [if_pos h1, if_pos h2]
      refine ev_bind (iArena_ev a hn) ?_
      by_cases h3 : arenaB a = true
      · simp only [if_pos h3, if_pos (show (0 ≤ s ∧ s ≤ 15) ∧ rootB a r = true ∧ arenaB a = true from ⟨h1, h2, h3⟩)]
        rw [iNumber_eq a r s h3 h2 h1.1 h1.2]
        exact Ev.now _
      · simp only [if_neg h3, if_neg (show ¬ ((0 ≤ s ∧ s ≤ 15) ∧ rootB a r = true ∧ arenaB a = true) from fun h => h3 h.2.2)]
        exact Ev.now _
    · simp only [if_pos h1, if_neg h2, if_neg (show ¬ ((0 ≤ s ∧ s ≤ 15) ∧ rootB a r = true ∧ arenaB a = true) from fun h => h2 h.2.1)]
      exact Ev.now _
  · simp only [if_neg h1, if_neg (show ¬ ((0 ≤ s ∧ s ≤ 15) ∧ rootB a r = true ∧ arenaB a = true) from fun h => h1 h.1)]
    exact Ev.now _
theorem sGetAt_ev (a : List S133) (r s : Int) (hn : a.length ≤ 9223372036854775807) : Ev (fun k => spec_GetAt.f k a r s) (getB a r s) := by
  unfold spec_GetAt.f getB
  refine ev_bind (sArena_ev a hn) ?_
  by_cases h3 : arenaB a = true
  · simp only [if_pos h3, l01In_eq, sRoot_eq a r hn, Option.bind_some]
    by_cases h2 : rootB a r = true
    · simp only [h2, Bool.or_true, if_true]
      by_cases h1 : 0 ≤ s ∧ s ≤ 15
      · simp only [decide_eq_true h1, if_true, if_pos (show (0 ≤ s ∧ s ≤ 15) ∧ True ∧ arenaB a = true from ⟨h1, trivial, h3⟩)]
        rw [sGet_eq a r s h3 h2 h1.1 h1.2]
        exact Ev.now _
      · simp only [decide_eq_false h1, Bool.false_eq_true, if_false, if_neg (show ¬ ((0 ≤ s ∧ s ≤ 15) ∧ True ∧ arenaB a = true) from fun h => h1 h.1)]
        exact Ev.now _
    · have e : getB a r s = 0 := by unfold getB; exact if_neg fun h => h2 h.2.1
      unfold getB at e
      rw [e]
      by_cases h0 : r = -1
      · simp only [decide_eq_true h0, Bool.true_or, if_true]
        by_cases h1 : 0 ≤ s ∧ s ≤ 15
        · simp only [decide_eq_true h1, if_true]
          unfold spec_l11Get.f
          simp only [if_pos (show r < 0 by omega), Option.bind_some]
          exact Ev.now _
        · simp only [decide_eq_false h1, Bool.false_eq_true, if_false]
          exact Ev.now _
      · simp only [decide_eq_false h0, Bool.eq_false_iff.mpr h2, Bool.or_self, Bool.false_eq_true, if_false]
        exact Ev.now _
  · simp only [if_neg h3, if_neg (show ¬ ((0 ≤ s ∧ s ≤ 15) ∧ rootB a r = true ∧ arenaB a = true) from fun h => h3 h.2.2)]
    exact Ev.now _
end Go.Proofs.Ytdolplcbokioaaa.Pu

/- What an arena keeps when it is swept from some roots; the program's and the reference's SweepArena tell it. -/
namespace Go.Proofs.Ytdolplcbokioaaa.Pu
set_option linter.unusedVariables false
set_option linter.unusedSimpArgs false
open Go.RowKit Go.Proofs.Ytdolplcbokioaaa.PB Go.Proofs.YtdolplcbokioaaaW.PrintWords

theorem drop_cons {α : Type} {l : List α} {i : Nat} (z : α) (h : i < l.length) : l.drop i = l.getD i z :: l.drop (i + 1) := by
  rw [List.drop_eq_getElem_cons h, List.getD_eq_getElem?_getD, List.getElem?_eq_getElem h]; rfl
theorem mem_cons_ne {x y : Int} {t : List Int} (h : ¬ y = x) : decide (x ∈ y :: t) = decide (x ∈ t) := by
  have : ¬ x = y := fun e => h e.symm
  simp [this]
theorem rdOf_nat {α : Type} (z : α) (l : List α) (i : Nat) : rdOf z l (i : Int) = l.getD i z := rfl
theorem getD_set {α : Type} {l : List α} {c : Nat} (i : Nat) (v z : α) (hc : c < l.length) : (l.set c v).getD i z = if i = c then v else l.getD i z := by
  rw [List.getD_eq_getElem?_getD, List.getD_eq_getElem?_getD, List.getElem?_set]
  by_cases h : c = i
  · subst h; simp [hc]
  · rw [if_neg h, if_neg (fun e => h e.symm)]
theorem getD_rep {α : Type} (n i : Nat) (z : α) : (List.replicate n z).getD i z = z := by
  rw [List.getD_eq_getElem?_getD, List.getElem?_replicate]
  by_cases h : i < n <;> simp [h]

/-- A list whose first j elements are changed. -/
def upd (f : Int → Int) : List Int → Nat → List Int
  | [], _ => []
  | x :: l, 0 => x :: l
  | x :: l, j + 1 => f x :: upd f l j
theorem upd_zero (f : Int → Int) (l : List Int) : upd f l 0 = l := by cases l <;> rfl
theorem upd_full (f : Int → Int) : ∀ l : List Int, upd f l l.length = l.map f
  | [] => rfl
  | x :: l => by show f x :: upd f l l.length = f x :: l.map f; rw [upd_full f l]
theorem upd_len (f : Int → Int) : ∀ (l : List Int) (j : Nat), (upd f l j).length = l.length
  | [], _ => rfl
  | x :: l, 0 => rfl
  | x :: l, j + 1 => by show (upd f l j).length + 1 = l.length + 1; rw [upd_len f l j]
theorem upd_get (f : Int → Int) : ∀ (l : List Int) (j : Nat), (upd f l j).getD j 0 = l.getD j 0
  | [], _ => rfl
  | x :: l, 0 => rfl
  | x :: l, j + 1 => by show (upd f l j).getD j 0 = l.getD j 0; exact upd_get f l j
theorem upd_set (f : Int → Int) : ∀ (l : List Int) (j : Nat), j < l.length → (upd f l j).set j (f (l.getD j 0)) = upd f l (j + 1)
  | [], j, h => absurd h (by simp)
  | x :: l, 0, _ => by show f x :: l = f x :: upd f l 0; rw [upd_zero]
  | x :: l, j + 1, h => by
    show f x :: (upd f l j).set j (f (l.getD j 0)) = f x :: upd f l (j + 1)
    rw [upd_set f l j (by simpa using h)]
theorem upd_id (f : Int → Int) : ∀ (l : List Int) (j : Nat), f (l.getD j 0) = l.getD j 0 → upd f l j = upd f l (j + 1)
  | [], _, _ => rfl
  | x :: l, 0, h => by
    have h2 : f x = x := h
    show x :: l = f x :: upd f l 0
    rw [upd_zero, h2]
  | x :: l, j + 1, h => by
    show f x :: upd f l j = f x :: upd f l (j + 1)
    rw [upd_id f l j h]

/-- A root keeps a knot: itself, or its kid. -/
def keptB (a : List S133) (r : Int) (i : Nat) : Bool := rootB a r && (decide ((i : Int) = r) || decide ((i : Int) ∈ (a.getD r.toNat z133).f1))
def movB (pos : List Int) (x : Int) : Int := if x ≥ 0 then pos.getD x.toNat 0 else x
def swKids (leaf : Bool) (pos kids : List Int) : List Int := if leaf = true then kids else kids.map (movB pos)
def swAll (a : List S133) (K : Nat → Bool) : Nat → Nat → List Int → List S133 → List Int × List S133
  | 0, _, pos, out => (pos, out)
  | d + 1, i, pos, out => if K i = true then swAll a K d (i + 1) (pos.set i (out.length : Int)) (out ++ [⟨(a.getD i z133).f0, swKids (a.getD i z133).f0 pos (a.getD i z133).f1⟩]) else swAll a K d (i + 1) pos out
def keepB (a : List S133) (roots : List Int) (i : Nat) : Bool := roots.any fun r => keptB a r i
def sweepOk (a : List S133) (roots : List Int) : Bool := arenaB a && roots.all fun r => decide (r = -1) || rootB a r
def sweepB (a : List S133) (roots : List Int) : List S133 × List Int :=
  if sweepOk a roots = true then ((swAll a (keepB a roots) a.length 0 (List.replicate a.length 0) []).2, roots.map (movB (swAll a (keepB a roots) a.length 0 (List.replicate a.length 0) []).1)) else (a, roots)
theorem swAll_pos (a : List S133) (K : Nat → Bool) : ∀ (d i : Nat) (pos : List Int) (out : List S133), (swAll a K d i pos out).1.length = pos.length
  | 0, _, _, _ => rfl
  | d + 1, i, pos, out => by
    unfold swAll
    by_cases h : K i = true
    · rw [if_pos h, swAll_pos a K d]; exact List.length_set
    · rw [if_neg h, swAll_pos a K d]
theorem swAll_out (a : List S133) (K : Nat → Bool) : ∀ (d i : Nat) (pos : List Int) (out : List S133), (swAll a K d i pos out).2.length = out.length + ((List.range' i d).filter K).length
  | 0, _, _, _ => rfl
  | d + 1, i, pos, out => by
    unfold swAll
    rw [List.range'_succ]
    by_cases h : K i = true
    · rw [if_pos h, swAll_out a K d, List.filter_cons, if_pos h]; simp; omega
    · rw [if_neg h, swAll_out a K d, List.filter_cons, if_neg h]

theorem sCopyArena_ev (a : List S133) (hn : a.length ≤ 1048576) (hx : ∀ x ∈ a, x.f1.length ≤ 1048576) : Ev (fun k => spec_l11Copy.f k a) a := by
  have main : ∀ (d i : Nat) (acc : List S133), i + d = a.length → acc.length = i → Ev (fun k => spec_l11Copy.l0 k (i : Int) a acc) (acc ++ a.drop i) := by
    intro d
    induction d with
    | zero => intro i acc hi hl; exact ev_some fun k => by simp only [spec_l11Copy.l0]; rw [if_neg (by omega), List.drop_eq_nil_of_le (by omega), List.append_nil]
    | succ d ih =>
      intro i acc hi hl
      have hil : i < a.length := by omega
      have hm := hx _ (getD_mem (z := z133) hil)
      have h := ih (i + 1) (acc ++ [a.getD i z133]) (by omega) (by simp; omega)
      rw [List.append_assoc, List.singleton_append, ← drop_cons z133 hil] at h
      refine Ev.step (fun k => ?_) h
      simp only [spec_l11Copy.l0]
      rw [if_pos (by omega), if_pos (by omega), rdIK_nat, Option.bind_some, if_pos (show ([] : List Int).length + (a.getD i z133).f1.length < 17592186044416 by rw [List.length_nil]; omega), if_pos (by omega), wsucc (n := a.length) hil (by omega), List.nil_append]
  have h := main a.length 0 [] (by omega) rfl
  rw [List.nil_append, List.drop_zero] at h
  exact h
theorem iHasInt_ev (l : List Int) (x : Int) (hl : l.length ≤ 9223372036854775807) : Ev (fun k => impl_hasInt.f k l x) (decide (x ∈ l)) := by
  have main : ∀ (d i : Nat), i + d = l.length → Ev (fun k => impl_hasInt.l0 k x l l.length (i : Int)) (decide (x ∈ l.drop i)) := by
    intro d
    induction d with
    | zero => intro i hi; exact ev_some fun k => by simp only [impl_hasInt.l0]; rw [if_neg (by omega), List.drop_eq_nil_of_le (by omega)]; simp
    | succ d ih =>
      intro i hi
      have hil : i < l.length := by omega
      rw [drop_cons 0 hil]
      by_cases h : l.getD i 0 = x
      · rw [h, decide_eq_true (List.mem_cons_self)]
        refine ev_some fun k => ?_
        simp only [impl_hasInt.l0]
        rw [if_pos (by omega), if_pos (by omega), if_pos (by omega), rd_nat, if_pos h]
      · rw [mem_cons_ne h]
        refine Ev.step (fun k => ?_) (ih (i + 1) (by omega))
        simp only [impl_hasInt.l0]
        rw [if_pos (by omega), if_pos (by omega), if_pos (by omega), rd_nat, if_neg h, wsucc (n := l.length) hil hl]
  have h := main l.length 0 (by omega)
  rw [List.drop_zero] at h
  exact h
/-- The knots that a root keeps, as the program lists them. -/
theorem iKnots_ev (a : List S133) (r : Int) (hn : a.length ≤ 1048576) (hx : ∀ x ∈ a, x.f1.length ≤ 1048576) :
    ∃ L, Ev (fun k => impl_knotsOf.f k a r) L ∧ L.length ≤ 1048577 ∧ ∀ i : Nat, i < a.length → ((i : Int) ∈ L ↔ keptB a r i = true) := by
  unfold impl_knotsOf.f keptB
  simp only [iRoot_eq a r (by omega), Option.bind_some]
  by_cases hr : rootB a r = true
  · obtain ⟨r0, rl, _⟩ := root_lt hr
    simp only [if_pos hr, if_pos r0, if_pos (show r < (a.length : Int) by omega), rd_T133]
    have hm := hx _ (getD_mem (z := z133) rl)
    generalize (a.getD r.toNat z133).f1 = kids at hm ⊢
    have main : ∀ (d i : Nat) (acc : List Int), i + d = kids.length → acc.length ≤ 1 + i →
        ∃ L, Ev (fun k => impl_knotsOf.l0 k acc kids kids.length (i : Int) a) L ∧ L.length ≤ 1048577 ∧ ∀ j : Nat, j < a.length → ((j : Int) ∈ L ↔ (j : Int) ∈ acc ∨ (j : Int) ∈ kids.drop i) := by
      intro d
      induction d with
      | zero =>
        intro i acc hi hl
        refine ⟨acc, ev_some fun k => by simp only [impl_knotsOf.l0]; rw [if_neg (by omega)], by omega, fun j _ => ?_⟩
        rw [List.drop_eq_nil_of_le (by omega)]
        simp
      | succ d ih =>
        intro i acc hi hl
        have hil : i < kids.length := by omega
        have st : ∀ k, impl_knotsOf.l0 (k + 1) acc kids kids.length (i : Int) a = if 0 ≤ kids.getD i 0 ∧ kids.getD i 0 ≤ (a.length : Int) - 1 then (impl_hasInt.f k acc (kids.getD i 0)).bind fun t => if t = true then impl_knotsOf.l0 k acc kids kids.length ((i + 1 : Nat) : Int) a else impl_knotsOf.l0 k (acc ++ [kids.getD i 0]) kids kids.length ((i + 1 : Nat) : Int) a else impl_knotsOf.l0 k acc kids kids.length ((i + 1 : Nat) : Int) a := fun k => by
          simp only [impl_knotsOf.l0]
          rw [if_pos (by omega), if_pos (by omega), if_pos (by omega), rd_nat, w64 (x := (a.length : Int) - 1) (by omega) (by omega), wsucc (n := kids.length) hil (by omega)]
          simp only [in_eq, Option.bind_some, decide_eq_true_eq, if_pos (show acc.length < 17592186044416 by omega)]
        rw [drop_cons 0 hil]
        by_cases h : 0 ≤ kids.getD i 0 ∧ kids.getD i 0 ≤ (a.length : Int) - 1
        · by_cases h2 : kids.getD i 0 ∈ acc
          · obtain ⟨L, h3, h4, h5⟩ := ih (i + 1) acc (by omega) (by omega)
            refine ⟨L, Ev.step (fun k => by rw [st k, if_pos h]) (ev_bind (iHasInt_ev acc _ (by omega)) ?_), h4, fun j hj => ?_⟩
            · rw [decide_eq_true h2]; simp only [if_true]; exact h3
            · rw [h5 j hj, List.mem_cons]
              constructor
              · rintro (h | h)
                · exact .inl h
                · exact .inr (.inr h)
              · rintro (h | h | h)
                · exact .inl h
                · exact .inl (by rw [h]; exact h2)
                · exact .inr h
          · obtain ⟨L, h3, h4, h5⟩ := ih (i + 1) (acc ++ [kids.getD i 0]) (by omega) (by simp; omega)
            refine ⟨L, Ev.step (fun k => by rw [st k, if_pos h]) (ev_bind (iHasInt_ev acc _ (by omega)) ?_), h4, fun j hj => ?_⟩
            · rw [decide_eq_false h2]; exact h3
            · rw [h5 j hj, List.mem_cons, List.mem_append, List.mem_singleton, or_assoc]
        · obtain ⟨L, h3, h4, h5⟩ := ih (i + 1) acc (by omega) (by omega)
          refine ⟨L, Ev.step (fun k => by rw [st k, if_neg h]) h3, h4, fun j hj => ?_⟩
          rw [h5 j hj, List.mem_cons]
          constructor
          · rintro (h | h)
            · exact .inl h
            · exact .inr (.inr h)
          · rintro (h6 | h6 | h6)
            · exact .inl h6
            · exact absurd (by omega) h
            · exact .inr h6
    obtain ⟨L, h1, h2, h3⟩ := main kids.length 0 [r] (by omega) (by simp)
    refine ⟨L, h1, h2, fun i hi => ?_⟩
    rw [h3 i hi, hr]
    simp
  · simp only [if_neg hr, Bool.eq_false_iff.mpr hr]
    exact ⟨[], Ev.now _, by simp, fun i hi => by simp⟩
/-- The knots that a root keeps, as the reference marks them. -/
theorem sHas_ev (a : List S133) (r : Int) (hn : a.length ≤ 1048576) (ha : arenaB a = true) (hr : (decide (r = -1) || rootB a r) = true) :
    ∃ L, Ev (fun k => spec_l11Has.f k a r) L ∧ L.length = a.length ∧ ∀ i : Nat, i < a.length → L.getD i false = keptB a r i := by
  unfold spec_l11Has.f keptB
  simp only [if_pos (show (0 : Int) ≤ (a.length : Int) by omega), Int.toNat_natCast, if_pos (show a.length ≤ 281474976710656 by omega), Option.bind_some, List.length_replicate]
  by_cases h0 : r < 0
  · refine ⟨_, by simp only [if_pos h0]; exact Ev.now _, by simp, fun i hi => ?_⟩
    rw [getD_rep]
    unfold rootB
    rw [decide_eq_false (by omega)]; rfl
  · have hb : rootB a r = true := by
      rw [Bool.or_eq_true, decide_eq_true_eq] at hr
      rcases hr with h | h
      · omega
      · exact h
    obtain ⟨r0, rl, rf⟩ := root_lt hb
    simp only [if_neg h0, if_pos r0, if_pos (show r < (a.length : Int) by omega), hb, Bool.true_and]
    obtain ⟨h4, _⟩ := knot_of ha rl
    have main : ∀ (d j : Nat) (acc : List Bool), j + d = 4 → acc.length = a.length → ∃ L, Ev (fun k => spec_l11Has.l0 k r acc (j : Int) a) L ∧ L.length = a.length ∧ ∀ i : Nat, i < a.length → L.getD i false = (acc.getD i false || decide ((i : Int) ∈ (a.getD r.toNat z133).f1.drop j)) := by
      intro d
      induction d with
      | zero =>
        intro j acc hj hl
        refine ⟨acc, ev_some fun k => by simp only [spec_l11Has.l0]; rw [if_neg (by omega)], hl, fun i _ => ?_⟩
        rw [List.drop_eq_nil_of_le (by omega)]
        simp
      | succ d ih =>
        intro j acc hj hl
        have hjl : j < (a.getD r.toNat z133).f1.length := by omega
        have hk := kid_of ha rl rf (j := j) (by omega)
        rw [drop_cons 0 hjl]
        have st : ∀ k, spec_l11Has.l0 (k + 1) r acc (j : Int) a = if (a.getD r.toNat z133).f1.getD j 0 ≥ 0 then spec_l11Has.l0 k r (acc.set ((a.getD r.toNat z133).f1.getD j 0).toNat true) ((j + 1 : Nat) : Int) a else spec_l11Has.l0 k r acc ((j + 1 : Nat) : Int) a := fun k => by
          simp only [spec_l11Has.l0]
          rw [show rd_T133 a r = a.getD r.toNat z133 from rfl, if_pos (by omega), if_pos r0, if_pos (by omega), if_pos (by omega), if_pos (by omega), rd_nat, wsucc (i := j) (n := 4) (by omega) (by omega)]
          by_cases h : (a.getD r.toNat z133).f1.getD j 0 ≥ 0
          · rw [if_pos h, if_pos h, if_pos (by omega), if_pos (by omega)]
          · rw [if_neg h, if_neg h]
        rcases hk with hk | ⟨k0, k1, _⟩
        · obtain ⟨L, h3, h5, h6⟩ := ih (j + 1) acc (by omega) hl
          refine ⟨L, Ev.step (fun k => by rw [st k, if_neg (by omega)]) h3, h5, fun i hi => ?_⟩
          rw [h6 i hi, mem_cons_ne (by omega)]
        · obtain ⟨L, h3, h5, h6⟩ := ih (j + 1) (acc.set ((a.getD r.toNat z133).f1.getD j 0).toNat true) (by omega) (by rw [List.length_set]; exact hl)
          refine ⟨L, Ev.step (fun k => by rw [st k, if_pos (by omega)]) h3, h5, fun i hi => ?_⟩
          rw [h6 i hi, getD_set _ _ _ (by omega)]
          by_cases h : (a.getD r.toNat z133).f1.getD j 0 = (i : Int)
          · rw [if_pos (by omega), h, decide_eq_true (List.mem_cons_self)]; simp
          · rw [if_neg (by omega), mem_cons_ne h]
    obtain ⟨L, h1, h2, h3⟩ := main 4 0 ((List.replicate a.length false).set r.toNat true) rfl (by simp)
    refine ⟨L, h1, h2, fun i hi => ?_⟩
    rw [h3 i hi, getD_set _ _ _ (by simp; omega), getD_rep, List.drop_zero]
    by_cases h : (i : Int) = r
    · rw [if_pos (by omega), decide_eq_true h]
    · rw [if_neg (by omega), decide_eq_false h]
end Go.Proofs.Ytdolplcbokioaaa.Pu

/- The reference's SweepArena tells what the sweep keeps. -/
namespace Go.Proofs.Ytdolplcbokioaaa.Pu
set_option linter.unusedVariables false
set_option linter.unusedSimpArgs false
open Go.RowKit Go.Proofs.Ytdolplcbokioaaa.PB Go.Proofs.YtdolplcbokioaaaW.PrintWords

def swRes (roots : List Int) (z : List Int × List S133) : List S133 × List Int := (z.2, roots.map (movB z.1))
theorem sSweep5 (roots pos : List Int) (out : List S133) (hr : roots.length ≤ 1048576) (hok : ∀ m, m < roots.length → roots.getD m 0 ≥ 0 → roots.getD m 0 < (pos.length : Int)) :
    ∀ (d m : Nat), m + d = roots.length → Ev (fun k => spec_SweepArena.l5 k (upd (movB pos) roots m) pos (m : Int) out) (out, roots.map (movB pos)) := by
  intro d
  induction d with
  | zero =>
    intro m hm
    obtain rfl : m = roots.length := by omega
    refine ev_some fun k => ?_
    simp only [spec_SweepArena.l5]
    rw [upd_len, if_neg (by omega), upd_full]
  | succ d ih =>
    intro m hm
    have hml : m < roots.length := by omega
    refine Ev.step (fun k => ?_) (ih (m + 1) (by omega))
    simp only [spec_SweepArena.l5]
    rw [upd_len, if_pos (by omega), if_pos (by omega), rd_nat, upd_get, Int.toNat_natCast, wsucc (n := roots.length) hml (by omega)]
    by_cases h : roots.getD m 0 ≥ 0
    · have e : rd pos (roots.getD m 0) = movB pos (roots.getD m 0) := by unfold movB; rw [if_pos h]; rfl
      have h2 := hok m hml h
      rw [if_pos h, if_pos (by omega), if_pos (by omega), e, upd_set _ _ _ hml]
    · rw [if_neg h, upd_id _ _ _ (by unfold movB; rw [if_neg h])]
theorem sSweep4 (a : List S133) (roots : List Int) (x9 : List Bool) (pos kids : List Int) (i : Nat) (out : List S133) (leaf : Bool) (R : List S133 × List Int)
    (hi : i < a.length) (hn : a.length ≤ 1048576) (hp : pos.length = a.length) (ho : out.length ≤ i) (h4 : kids.length = 4) (hk : leaf = false → ∀ j, j < 4 → kids.getD j 0 ≥ 0 → kids.getD j 0 < (a.length : Int))
    (he : Ev (fun k => spec_SweepArena.l3 k roots x9 (pos.set i (out.length : Int)) ((i + 1 : Nat) : Int) a (out ++ [⟨leaf, swKids leaf pos kids⟩])) R) :
    Ev (fun k => spec_SweepArena.l4 k roots x9 pos (i : Int) 0 a out leaf kids) R := by
  have fin : ∀ (j : Nat), (leaf = true ∨ j = 4) → Ev (fun k => spec_SweepArena.l4 k roots x9 pos (i : Int) (j : Int) a out leaf (swKids leaf pos kids)) R := by
    intro j hj
    refine Ev.step (f := fun k => spec_SweepArena.j6 k roots x9 pos (i : Int) (j : Int) false a out leaf (swKids leaf pos kids)) (fun k => ?_) (Ev.step (fun k => ?_) he)
    · simp only [spec_SweepArena.l4]
      by_cases h : j < 4
      · obtain rfl : leaf = true := by rcases hj with h1 | h1; exact h1; omega
        rw [if_pos (by omega)]; rfl
      · rw [if_neg (by omega)]
    · simp only [spec_SweepArena.j6]
      rw [if_neg (by decide), if_pos (by omega), if_pos (by omega), if_pos (by omega), wsucc (n := a.length) hi (by omega), Int.toNat_natCast]
  cases leaf with
  | true => exact fin 0 (.inl rfl)
  | false =>
    have main : ∀ (e j : Nat), j + e = 4 → Ev (fun k => spec_SweepArena.l4 k roots x9 pos (i : Int) (j : Int) a out false (upd (movB pos) kids j)) R := by
      intro e
      induction e with
      | zero =>
        intro j hj
        obtain rfl : j = 4 := by omega
        have h := fin 4 (.inr rfl)
        rw [show swKids false pos kids = upd (movB pos) kids 4 by rw [← h4, upd_full]; rfl] at h
        exact h
      | succ e ihe =>
        intro j hj
        have hjl : j < kids.length := by omega
        refine Ev.step (f := fun k => spec_SweepArena.j6 k roots x9 pos (i : Int) (j : Int) true a out false (upd (movB pos) kids j)) (fun k => ?_) (Ev.step (fun k => ?_) (ihe (j + 1) (by omega)))
        · simp only [spec_SweepArena.l4]
          rw [if_pos (by omega)]; rfl
        · simp only [spec_SweepArena.j6]
          rw [if_pos trivial, upd_len, if_pos (by omega), if_pos (by omega), rd_nat, upd_get, Int.toNat_natCast, wsucc (i := j) (n := 4) (by omega) (by omega)]
          by_cases h : kids.getD j 0 ≥ 0
          · have e : rd pos (kids.getD j 0) = movB pos (kids.getD j 0) := by unfold movB; rw [if_pos h]; rfl
            have h2 := hk rfl j (by omega) h
            rw [if_pos h, if_pos (by omega), if_pos (by omega), e, upd_set _ _ _ hjl]
          · rw [if_neg h, upd_id _ _ _ (by unfold movB; rw [if_neg h])]
    have h := main 4 0 rfl
    rw [upd_zero] at h
    exact h
theorem sSweep3 (a : List S133) (roots : List Int) (x9 : List Bool) (K : Nat → Bool) (hn : a.length ≤ 1048576) (hr : roots.length ≤ 1048576) (ha : arenaB a = true) (hok : ∀ m, m < roots.length → roots.getD m 0 ≥ 0 → roots.getD m 0 < (a.length : Int))
    (hl : x9.length = a.length) (hK : ∀ i, i < a.length → x9.getD i false = K i) :
    ∀ (d i : Nat) (pos : List Int) (out : List S133), i + d = a.length → pos.length = a.length → out.length ≤ i → Ev (fun k => spec_SweepArena.l3 k roots x9 pos (i : Int) a out) (swRes roots (swAll a K d i pos out)) := by
  intro d
  induction d with
  | zero =>
    intro i pos out hi hp ho
    have h := sSweep5 roots pos out hr (by rw [hp]; exact hok) roots.length 0 (by omega)
    rw [upd_zero] at h
    refine Ev.step (fun k => ?_) h
    simp only [spec_SweepArena.l3]
    rw [if_neg (by omega)]; rfl
  | succ d ih =>
    intro i pos out hi hp ho
    have hil : i < a.length := by omega
    obtain ⟨h4, _⟩ := knot_of ha hil
    unfold swAll
    by_cases h : K i = true
    · rw [if_pos h]
      have he := ih (i + 1) (pos.set i (out.length : Int)) (out ++ [⟨(a.getD i z133).f0, swKids (a.getD i z133).f0 pos (a.getD i z133).f1⟩]) (by omega) (by rw [List.length_set]; exact hp) (by simp; omega)
      refine Ev.step (fun k => ?_) (sSweep4 a roots x9 pos _ i out _ _ hil hn hp ho h4 (fun hf j hj hge => ?_) he)
      · simp only [spec_SweepArena.l3]
        rw [if_pos (by omega), if_pos (by omega), if_pos (by omega), rdOf_nat, hK i hil, if_pos h, rdIK_nat, Option.bind_some, if_pos (show ([] : List Int).length + (a.getD i z133).f1.length < 17592186044416 by rw [h4]; decide), List.nil_append]
      · rcases kid_of ha hil hf hj with h1 | ⟨_, h2, _⟩
        · omega
        · omega
    · rw [if_neg h]
      refine Ev.step (fun k => ?_) (ih (i + 1) pos out (by omega) hp (by omega))
      simp only [spec_SweepArena.l3]
      rw [if_pos (by omega), if_pos (by omega), if_pos (by omega), rdOf_nat, hK i hil, if_neg h, wsucc (n := a.length) hil (by omega)]
theorem okRoots {a : List S133} {roots : List Int} (h : (roots.all fun r => decide (r = -1) || rootB a r) = true) {m : Nat} (hm : m < roots.length) : (decide (roots.getD m 0 = -1) || rootB a (roots.getD m 0)) = true := by
  rw [List.all_eq_true] at h
  exact h _ (getD_mem hm)
theorem okRoots_lt {a : List S133} {roots : List Int} (h : (roots.all fun r => decide (r = -1) || rootB a r) = true) (m : Nat) (hm : m < roots.length) (hge : roots.getD m 0 ≥ 0) : roots.getD m 0 < (a.length : Int) := by
  have h1 := okRoots h hm
  rw [Bool.or_eq_true, decide_eq_true_eq] at h1
  rcases h1 with h1 | h1
  · omega
  · have := root_lt h1; omega
theorem sSweep1 (a : List S133) (roots : List Int) (hn : a.length ≤ 1048576) (hr : roots.length ≤ 1048576) (ha : arenaB a = true) (hok : (roots.all fun r => decide (r = -1) || rootB a r) = true) :
    ∀ (d m : Nat) (x9 : List Bool), m + d = roots.length → x9.length = a.length → (∀ i, i < a.length → (x9.getD i false || (roots.drop m).any fun r => keptB a r i) = keepB a roots i) →
      Ev (fun k => spec_SweepArena.l1 k roots roots x9 (m : Int) a) (swRes roots (swAll a (keepB a roots) a.length 0 (List.replicate a.length 0) [])) := by
  intro d
  induction d with
  | zero =>
    intro m x9 hm hl hK
    refine Ev.step (fun k => ?_) (sSweep3 a roots x9 (keepB a roots) hn hr ha (okRoots_lt hok) hl (fun i hi => ?_) a.length 0 (List.replicate a.length 0) [] (by omega) (by simp) (by simp))
    · simp only [spec_SweepArena.l1]
      rw [if_neg (by omega), if_pos (by omega), Int.toNat_natCast, if_pos (by omega)]; rfl
    · have h := hK i hi
      rw [List.drop_eq_nil_of_le (by omega)] at h
      simpa using h
  | succ d ih =>
    intro m x9 hm hl hK
    have hml : m < roots.length := by omega
    obtain ⟨L, h1, h2, h3⟩ := sHas_ev a (roots.getD m 0) hn ha (okRoots hok hml)
    have main : ∀ (e j : Nat) (y9 : List Bool), j + e = a.length → y9.length = a.length → (∀ i, i < a.length → (y9.getD i false || (if j ≤ i then L.getD i false else false)) = (x9.getD i false || keptB a (roots.getD m 0) i)) →
        Ev (fun k => spec_SweepArena.l2 k roots roots y9 (m : Int) L (j : Int) a) (swRes roots (swAll a (keepB a roots) a.length 0 (List.replicate a.length 0) [])) := by
      intro e
      induction e with
      | zero =>
        intro j y9 hj hy hY
        refine Ev.step (fun k => ?_) (ih (m + 1) y9 (by omega) hy (fun i hi => ?_))
        · simp only [spec_SweepArena.l2]
          rw [if_neg (by omega), wsucc (n := roots.length) hml (by omega)]
        · have h := hY i hi
          rw [if_neg (by omega), Bool.or_false] at h
          rw [h, ← hK i hi, drop_cons 0 hml, List.any_cons, Bool.or_assoc]
      | succ e ihe =>
        intro j y9 hj hy hY
        have hjl : j < a.length := by omega
        refine Ev.step (fun k => ?_) (ihe (j + 1) (y9.set j (if y9.getD j false = true then true else L.getD j false)) (by omega) (by rw [List.length_set]; exact hy) (fun i hi => ?_))
        · simp only [spec_SweepArena.l2]
          rw [if_pos (by omega), if_pos (by omega), if_pos (by omega), rdOf_nat, rdOf_nat, Int.toNat_natCast, wsucc (i := j) (n := a.length) (by omega) (by omega)]
          by_cases h : y9.getD j false = true
          · rw [if_pos h, if_pos h]
          · rw [if_neg h, if_neg h]
        · rw [← hY i hi, getD_set _ _ _ (by omega)]
          by_cases h : i = j
          · subst h
            rw [if_pos rfl, if_neg (show ¬ (i + 1 ≤ i) by omega), if_pos (Nat.le_refl i)]
            by_cases h5 : y9.getD i false = true
            · rw [if_pos h5, h5]; rfl
            · rw [if_neg h5, Bool.eq_false_iff.mpr h5]; cases L.getD i false <;> rfl
          · rw [if_neg h]
            by_cases h5 : j ≤ i
            · rw [if_pos (by omega), if_pos h5]
            · rw [if_neg (by omega), if_neg h5]
    refine Ev.step (f := fun k => (spec_l11Has.f k a (roots.getD m 0)).bind fun t => spec_SweepArena.l2 k roots roots x9 (m : Int) t 0 a) (fun k => ?_) (ev_bind h1 (main a.length 0 x9 (by omega) hl (fun i hi => ?_)))
    · simp only [spec_SweepArena.l1]
      rw [if_pos (by omega), if_pos (by omega), rd_nat]
    · rw [if_pos (by omega), h3 i hi]
theorem sSweep_ev (a : List S133) (roots : List Int) (hn : a.length ≤ 1048576) (hx : ∀ x ∈ a, x.f1.length ≤ 1048576) (hr : roots.length ≤ 1048576) : Ev (fun k => spec_SweepArena.f k a roots) (sweepB a roots) := by
  have j1 : ∀ q : Bool, (q = true → arenaB a = true ∧ (roots.all fun r => decide (r = -1) || rootB a r) = true) → Ev (fun k => spec_SweepArena.j1 k roots roots q a) (if q = true then swRes roots (swAll a (keepB a roots) a.length 0 (List.replicate a.length 0) []) else (a, roots)) := by
    intro q hq
    cases q with
    | false =>
      refine Ev.step (f := fun k => (spec_l11Copy.f k a).bind fun t => some (t, roots)) (fun k => ?_) (ev_bind (sCopyArena_ev a hn hx) (Ev.now _))
      simp only [spec_SweepArena.j1]
      rw [if_neg (by decide)]
    | true =>
      obtain ⟨h1, h2⟩ := hq rfl
      rw [if_pos rfl]
      refine Ev.step (fun k => ?_) (sSweep1 a roots hn hr h1 h2 roots.length 0 (List.replicate a.length false) (by omega) (by simp) (fun i hi => ?_))
      · simp only [spec_SweepArena.j1]
        rw [if_pos trivial, if_pos (by omega), Int.toNat_natCast, if_pos (by omega)]; rfl
      · rw [getD_rep, List.drop_zero]; rfl
  have l0 : ∀ (d m : Nat) (q : Bool), m + d = roots.length → (q = true → arenaB a = true ∧ ∀ r ∈ roots.take m, (decide (r = -1) || rootB a r) = true) →
      Ev (fun k => spec_SweepArena.l0 k roots roots q (m : Int) a) (if (q && (roots.drop m).all fun r => decide (r = -1) || rootB a r) = true then swRes roots (swAll a (keepB a roots) a.length 0 (List.replicate a.length 0) []) else (a, roots)) := by
    intro d
    induction d with
    | zero =>
      intro m q hm hq
      rw [List.drop_eq_nil_of_le (by omega), List.all_nil, Bool.and_true]
      refine Ev.step (fun k => ?_) (j1 q fun h => ⟨(hq h).1, ?_⟩)
      · simp only [spec_SweepArena.l0]
        rw [if_neg (by omega)]
      · have := (hq h).2
        rw [List.take_of_length_le (by omega)] at this
        rw [List.all_eq_true]
        exact this
    | succ d ih =>
      intro m q hm hq
      have hml : m < roots.length := by omega
      cases q with
      | false =>
        rw [Bool.false_and]
        refine Ev.step (fun k => ?_) (j1 false (fun h => absurd h (by decide)))
        simp only [spec_SweepArena.l0]
        rw [if_pos (by omega), if_neg (by decide)]
      | true =>
        rw [Bool.true_and, drop_cons 0 hml, List.all_cons]
        refine Ev.step (fun k => ?_) (ih (m + 1) (decide (roots.getD m 0 = -1) || rootB a (roots.getD m 0)) (by omega) fun h => ⟨(hq rfl).1, fun r hr2 => ?_⟩)
        · simp only [spec_SweepArena.l0]
          rw [if_pos (by omega), if_pos trivial, if_pos (by omega), rd_nat, sRoot_eq a _ (by omega), Option.bind_some, wsucc (n := roots.length) hml (by omega)]
        · rw [List.take_succ_eq_append_getElem hml, List.mem_append, List.mem_singleton] at hr2
          rcases hr2 with h5 | h5
          · exact (hq rfl).2 r h5
          · rw [h5]
            rw [List.getD_eq_getElem?_getD, List.getElem?_eq_getElem hml] at h
            exact h
  unfold spec_SweepArena.f sweepB sweepOk
  simp only [Option.bind_some, List.nil_append]
  simp only [if_pos (show ([] : List Int).length + roots.length < 17592186044416 by rw [List.length_nil]; omega)]
  have h := l0 roots.length 0 (arenaB a) (by omega) (fun h => ⟨h, by simp⟩)
  rw [List.drop_zero] at h
  exact ev_bind (sArena_ev a (by omega)) h
end Go.Proofs.Ytdolplcbokioaaa.Pu

/- More plain facts on rounds: tests in a row, folds, searches. -/
namespace Go.Proofs.Ytdolplcbokioaaa.Pu
set_option linter.unusedVariables false
set_option linter.unusedSimpArgs false
open Go.RowKit Go.Proofs.YtdolplcbokioaaaW.PrintWords

/-- Tests in a row, one a round; then what comes. -/
theorem ev_scan {L : Nat → Int → Option Bool} {g : Nat → Option Bool} {n : Nat} {T : Nat → Bool} {r : Bool}
    (hs : ∀ k i, i < n → L (k + 1) (i : Int) = if T i = true then L k ((i + 1 : Nat) : Int) else some false) (he : ∀ k, L (k + 1) (n : Int) = g k) (hr : Ev g r) :
    ∀ (d i : Nat), i + d = n → Ev (fun k => L k (i : Int)) ((List.range' i d).all T && r) := by
  intro d
  induction d with
  | zero =>
    intro i hi
    obtain rfl : i = n := by omega
    exact Ev.step he hr
  | succ d ih =>
    intro i hi
    rw [List.range'_succ, List.all_cons]
    by_cases h : T i = true
    · rw [h, Bool.true_and]
      exact Ev.step (fun k => by rw [hs k i (by omega), if_pos h]) (ih (i + 1) (by omega))
    · rw [Bool.eq_false_iff.mpr h, Bool.false_and, Bool.false_and]
      exact ev_some fun k => by rw [hs k i (by omega), if_neg h]
/-- Tests in a row, each of many rounds; then what comes. -/
theorem ev_outer {L : Nat → Int → Option Bool} {n : Nat} {T : Nat → Bool} {r0 : Bool}
    (hs : ∀ i r, i < n → Ev (fun k => L k ((i + 1 : Nat) : Int)) r → Ev (fun k => L k (i : Int)) (T i && r)) (he : Ev (fun k => L k (n : Int)) r0) :
    ∀ (d i : Nat), i + d = n → Ev (fun k => L k (i : Int)) ((List.range' i d).all T && r0) := by
  intro d
  induction d with
  | zero =>
    intro i hi
    obtain rfl : i = n := by omega
    exact he
  | succ d ih =>
    intro i hi
    rw [List.range'_succ, List.all_cons, Bool.and_assoc]
    exact hs i _ (by omega) (ih (i + 1) (by omega))
/-- A state that is carried along; then what comes. -/
theorem ev_fold {σ ρ : Type} {L : Nat → σ → Int → Option ρ} {n : Nat} {F : σ → Nat → σ} {fin : σ → ρ} (Inv : Nat → σ → Prop)
    (hs : ∀ s i, i < n → Inv i s → ∀ r, Ev (fun k => L k (F s i) ((i + 1 : Nat) : Int)) r → Ev (fun k => L k s (i : Int)) r) (hi : ∀ s i, i < n → Inv i s → Inv (i + 1) (F s i))
    (he : ∀ s, Inv n s → Ev (fun k => L k s (n : Int)) (fin s)) : ∀ (d i : Nat) (s : σ), i + d = n → Inv i s → Ev (fun k => L k s (i : Int)) (fin ((List.range' i d).foldl F s)) := by
  intro d
  induction d with
  | zero =>
    intro i s h hv
    obtain rfl : i = n := by omega
    exact he s hv
  | succ d ih =>
    intro i s h hv
    rw [List.range'_succ, List.foldl_cons]
    exact hs s i (by omega) hv _ (ih (i + 1) (F s i) (by omega) (hi s i (by omega) hv))
/-- The first place that meets a test, -1 without one. -/
def findI (T : Nat → Bool) : Nat → Nat → Int
  | _, 0 => -1
  | i, d + 1 => if T i = true then (i : Int) else findI T (i + 1) d
theorem ev_find {L : Nat → Int → Option Int} {n : Nat} {T : Nat → Bool}
    (hy : ∀ i, i < n → T i = true → Ev (fun k => L k (i : Int)) (i : Int)) (hn : ∀ i, i < n → T i = false → ∀ r, Ev (fun k => L k ((i + 1 : Nat) : Int)) r → Ev (fun k => L k (i : Int)) r)
    (he : Ev (fun k => L k (n : Int)) (-1)) : ∀ (d i : Nat), i + d = n → Ev (fun k => L k (i : Int)) (findI T i d) := by
  intro d
  induction d with
  | zero =>
    intro i hi
    obtain rfl : i = n := by omega
    exact he
  | succ d ih =>
    intro i hi
    unfold findI
    by_cases h : T i = true
    · rw [if_pos h]; exact hy i (by omega) h
    · rw [if_neg h]; exact hn i (by omega) (Bool.eq_false_iff.mpr h) _ (ih (i + 1) (by omega))
theorem findI_range {T : Nat → Bool} : ∀ (d i : Nat), findI T i d = -1 ∨ ∃ j, i ≤ j ∧ j < i + d ∧ findI T i d = (j : Int) ∧ T j = true
  | 0, i => .inl rfl
  | d + 1, i => by
    unfold findI
    by_cases h : T i = true
    · rw [if_pos h]; exact .inr ⟨i, Nat.le_refl _, by omega, rfl, h⟩
    · rw [if_neg h]
      rcases findI_range d (i + 1) with h1 | ⟨j, h1, h2, h3, h4⟩
      · exact .inl h1
      · exact .inr ⟨j, by omega, by omega, h3, h4⟩
theorem bytes_empty (a : ByteArray) : (a.toList == ([] : List UInt8)) = decide ((a.size : Int) ≤ 0) := by
  rw [ByteArray.toList_eq]
  have h : a.data.toList.length = a.size := by rw [Array.length_toList]; rfl
  cases e : a.data.toList with
  | nil =>
    have h1 : a.size = 0 := by rw [← h, e]; rfl
    rw [decide_eq_true (by omega)]; rfl
  | cons x l =>
    have h1 : a.size = l.length + 1 := by rw [← h, e]; rfl
    rw [decide_eq_false (by omega)]; rfl
theorem getD_mem' {α : Type} {l : List α} {i : Nat} {z : α} (hi : i < l.length) : l.getD i z ∈ l := by
  rw [List.getD_eq_getElem?_getD, List.getElem?_eq_getElem hi]; exact List.getElem_mem hi
end Go.Proofs.Ytdolplcbokioaaa.Pu

/- What the functions on stores answer: sizes, copies, comparison, the place of a volume, a sector's chunk. -/
namespace Go.Proofs.Ytdolplcbokioaaa.Pu
set_option linter.unusedVariables false
set_option linter.unusedSimpArgs false
open Go.RowKit Go.Proofs.Ytdolplcbokioaaa.PB Go.Proofs.YtdolplcbokioaaaW.PrintWords

theorem rdLV_nat (l : List S184) (i : Nat) : rd_T184 l (i : Int) = l.getD i z184 := rfl
theorem rdIV_nat (l : List S147) (i : Nat) : rd_T147 l (i : Int) = l.getD i z147 := rfl
def toVl (x : S184) : S147 := ⟨x.f0, x.f1⟩

theorem toVolS_ev (l : List S184) (h : l.length ≤ 1048576) : Ev (fun k => laws_toVolS.f k l) (l.map toVl) := by
  have h1 := ev_fill_all (E := fun _ i => (laws_toVol.f (rd_T184 l i).f0 (rd_T184 l i).f1).bind fun bt => some (⟨bt.1, bt.2⟩ : S147)) (l := l) (z := z184) (g := toVl) (xs := List.replicate l.length z147) (L := fun k xs i => laws_toVolS.l0 k l xs i) (by omega) (fun k xs i => by
    simp only [laws_toVolS.l0, Option.bind_assoc, Option.bind_some]) (fun i hi => by rw [rdLV_nat]; exact Ev.now _) (by simp)
  refine ev_ext (fun k => ?_) h1
  unfold laws_toVolS.f
  rw [if_pos (by omega), if_pos (by simp; omega)]
  simp
theorem toStore_ev (v : List S184) (a : List S175) (n : Int) (hv : v.length ≤ 1048576) (h : a.length ≤ 1048576) (hk : ∀ x ∈ a, x.f1.length ≤ 1048576) : Ev (fun k => laws_toStore.f k v a n) (v.map toVl, toA a, n) := by
  unfold laws_toStore.f
  exact ev_bind (toVolS_ev v hv) (ev_bind (toArena_ev a (by omega) (fun x hx => by have := hk x hx; omega)) (Ev.now _))
theorem eqVolS_ev (l : List S147) (hn : l.length ≤ 1048576) : Ev (fun k => laws_eqVolS.f k l l) true := by
  have h1 := ev_all (n := l.length) (m := l.length) (L := fun k i => laws_eqVolS.l0 k l l i) (E := fun _ i => laws_eqVol.f (rd_T147 l i).f0 (rd_T147 l i).f1 (rd_T147 l i).f0 (rd_T147 l i).f1) (by omega) (Nat.le_refl _) (fun k i => by simp only [laws_eqVolS.l0])
    (fun i _ => ev_const (by simp [laws_eqVol.f])) l.length 0 (by omega)
  refine ev_ext (fun k => ?_) h1
  unfold laws_eqVolS.f
  rw [if_pos rfl]; rfl
theorem eqStore_ev (v : List S147) (a : List S133) (n : Int) (hv : v.length ≤ 1048576) (hn : a.length ≤ 9223372036854775807) (hk : ∀ x ∈ a, x.f1.length ≤ 9223372036854775807) : Ev (fun k => laws_eqStore.f k v a n v a n) true := by
  unfold laws_eqStore.f
  refine ev_bind (eqVolS_ev v hv) ?_
  simp only [if_true]
  refine ev_bind (eqArena_ev a hn hk) ?_
  simp only [if_true]
  exact Ev.now _
theorem szStore_ev (v : List S184) (l : List S175) (n a : Int) (h0 : 0 ≤ a) (h1 : a ≤ 1048576) (hv : v.length ≤ 9223372036854775807) (hn : l.length ≤ 9223372036854775807) (hk : ∀ x ∈ l, x.f1.length ≤ 9223372036854775807) :
    ∃ r, Ev (fun k => laws_szStore.f k v l n a) r ∧ r ≤ a ∧ (0 ≤ r → v.length ≤ 1048576 ∧ l.length ≤ 1048576 ∧ ∀ x ∈ l, x.f1.length ≤ 1048576) := by
  unfold laws_szStore.f laws_szVolS.f
  rw [w64 (by omega) (by omega)]
  by_cases h : a - (v.length : Int) < 0
  · exact ⟨-1, by simp only [if_pos h, Option.bind_some, if_pos (show (-1 : Int) < 0 by omega)]; exact Ev.now _, by omega, fun h2 => by omega⟩
  · simp only [if_neg h, Option.bind_some]
    obtain ⟨r, hr, hra, hq⟩ := szArena_ev l (a - (v.length : Int)) (by omega) (by omega) hn hk
    by_cases h2 : r < 0
    · exact ⟨-1, ev_bind hr (by simp only [if_pos h2]; exact Ev.now _), by omega, fun h3 => by omega⟩
    · refine ⟨r, ev_bind hr (by simp only [if_neg h2]; exact Ev.now _), by omega, fun h3 => ?_⟩
      obtain ⟨a1, a2⟩ := hq h3
      exact ⟨by omega, by omega, fun x hx => by have := a2 x hx; omega⟩
/-- What a law on a store begins with. -/
theorem store_start {v : List S184} {l : List S175} {n a : Int} (h0 : 0 ≤ a) (h1 : a ≤ 1048576) (hv : v.length ≤ maxLen) (hl : l.length ≤ maxLen) (hx : ∀ x ∈ l, x.f1.length ≤ maxLen) :
    ∃ r, Ev (fun k => laws_szStore.f k v l n a) r ∧ r ≤ a ∧ (0 ≤ r → Ev (fun k => laws_toStore.f k v l n) (v.map toVl, toA l, n) ∧ Ev (fun k => laws_eqStore.f k (v.map toVl) (toA l) n (v.map toVl) (toA l) n) true ∧ (v.map toVl).length ≤ 1048576 ∧ (toA l).length ≤ 1048576 ∧ ∀ x ∈ toA l, x.f1.length ≤ 1048576) := by
  unfold maxLen at hv hl hx
  obtain ⟨r, hr, hra, hq⟩ := szStore_ev v l n a h0 h1 (by omega) (by omega) (fun x h => by have := hx x h; omega)
  refine ⟨r, hr, hra, fun h2 => ?_⟩
  obtain ⟨a1, a2, a3⟩ := hq h2
  have hlen : (toA l).length = l.length := by unfold toA; exact List.length_map _
  have hlv : (v.map toVl).length = v.length := List.length_map _
  have hm : ∀ x ∈ toA l, x.f1.length ≤ 1048576 := by
    intro x h
    unfold toA at h
    obtain ⟨y, hy, rfl⟩ := List.mem_map.1 h
    exact a3 y hy
  exact ⟨toStore_ev v l n a1 a2 a3, eqStore_ev _ _ n (by omega) (by omega) (fun x h => by have := hm x h; omega), by omega, by omega, hm⟩

end Go.Proofs.Ytdolplcbokioaaa.Pu

/- When a store is right; the program's and the reference's StoreOk answer alike. -/
namespace Go.Proofs.Ytdolplcbokioaaa.Pu
set_option linter.unusedVariables false
set_option linter.unusedSimpArgs false
open Go.RowKit Go.Proofs.Ytdolplcbokioaaa.PB Go.Proofs.YtdolplcbokioaaaW.PrintWords

def rootsB (v : List S147) : List Int := v.map fun x => x.f1
theorem rootsB_get (v : List S147) {i : Nat} (h : i < v.length) : (rootsB v).getD i 0 = (v.getD i z147).f1 := by
  unfold rootsB
  rw [List.getD_eq_getElem?_getD, List.getD_eq_getElem?_getD, List.getElem?_map, List.getElem?_eq_getElem h]; rfl
def volOk (v : List S147) (a : List S133) (i : Nat) : Bool :=
  decide (1 ≤ (v.getD i z147).f0 ∧ (v.getD i z147).f0 ≤ 9) && ((decide (i = 0) || !decide ((v.getD (i - 1) z147).f0 ≥ (v.getD i z147).f0)) && (decide ((v.getD i z147).f1 = -1) || rootB a (v.getD i z147).f1))
def gB (a : List S133) (r : Int) (s : Nat) : Int := if r < 0 then 0 else numB a r (s : Int)
def getOk (a : List S133) (n r : Int) : Bool := (List.range' 0 16).all fun s => !decide (gB a r s ≥ n)
def leafOk (a : List S133) (n : Int) (j : Nat) : Bool := (a.getD j z133).f1.all fun x => !((a.getD j z133).f0 && decide (x ≥ n))
def specOk (v : List S147) (a : List S133) (n : Int) : Bool :=
  (List.range' 0 v.length).all (fun i => volOk v a i && getOk a n (v.getD i z147).f1) && decide ((sweepB a (rootsB v)).1.length = a.length)
def implOk (v : List S147) (a : List S133) (n : Int) : Bool :=
  (List.range' 0 v.length).all (volOk v a) && (List.range' 0 a.length).all fun j => keepB a (rootsB v) j && leafOk a n j

theorem gB_eq (a : List S133) (r : Int) (s : Nat) (ha : arenaB a = true) (hr : (decide (r = -1) || rootB a r) = true) (hs : s < 16) : spec_l11Get.f a r (s : Int) = some (gB a r s) := by
  unfold gB
  by_cases h : r < 0
  · rw [if_pos h]; unfold spec_l11Get.f; rw [if_pos h]
  · rw [if_neg h]
    rw [Bool.or_eq_true, decide_eq_true_eq] at hr
    exact sGet_eq a r s ha (hr.resolve_left (by omega)) (by omega) (by omega)
theorem volOk_root {v : List S147} {a : List S133} {i : Nat} (h : volOk v a i = true) : (decide ((v.getD i z147).f1 = -1) || rootB a (v.getD i z147).f1) = true := by
  unfold volOk at h
  rw [Bool.and_eq_true, Bool.and_eq_true] at h
  exact h.2.2
theorem wpred {i : Nat} (h : 0 < i) (hn : i ≤ 9223372036854775807) : wrap64 ((i : Int) - 1) = ((i - 1 : Nat) : Int) := by
  rw [w64 (by omega) (by omega)]; omega
theorem sVol_step (k i : Nat) (v : List S147) (a : List S133) (n : Int) (hi : i < v.length) (hv : v.length ≤ 1048576) (hn : a.length ≤ 1048576) :
    spec_StoreOk.l0 (k + 1) (i : Int) v a n = spec_StoreOk.j2 k (i : Int) (!volOk v a i) v a n (v.getD i z147).f0 (v.getD i z147).f1 := by
  simp only [spec_StoreOk.l0]
  rw [if_pos (by omega), if_pos (by omega), rdIV_nat, l01In_eq, Option.bind_some, sRoot_eq a _ (by omega)]
  unfold volOk
  by_cases h1 : 1 ≤ (v.getD i z147).f0 ∧ (v.getD i z147).f0 ≤ 9
  · rw [decide_eq_true h1, if_pos rfl, Bool.true_and]
    by_cases h0 : i = 0
    · rw [if_neg (by omega), decide_eq_true h0, Bool.true_or, Bool.true_and, Option.bind_some]
    · rw [if_pos (by omega), wpred (by omega) (by omega), if_pos (by omega), if_pos (by omega), rdIV_nat, decide_eq_false h0, Bool.false_or]
      by_cases h2 : (v.getD (i - 1) z147).f0 ≥ (v.getD i z147).f0
      · rw [if_pos h2, decide_eq_true h2]; rfl
      · rw [if_neg h2, decide_eq_false h2, Option.bind_some]; rfl
  · rw [decide_eq_false h1, if_neg (by decide), Bool.false_and]; rfl
theorem sRoots_ev (v : List S147) (a : List S133) (n : Int) (hv : v.length ≤ 1048576) : Ev (fun k => spec_l12Roots.f k v a n) (rootsB v) := by
  have main : ∀ (d i : Nat) (acc : List Int), i + d = v.length → acc.length = i → Ev (fun k => spec_l12Roots.l0 k acc (i : Int) v a n) (acc ++ (rootsB v).drop i) := by
    intro d
    induction d with
    | zero => intro i acc hi hl; exact ev_some fun k => by simp only [spec_l12Roots.l0]; rw [if_neg (by omega), List.drop_eq_nil_of_le (by unfold rootsB; rw [List.length_map]; omega), List.append_nil]
    | succ d ih =>
      intro i acc hi hl
      have hil : i < v.length := by omega
      have h := ih (i + 1) (acc ++ [(v.getD i z147).f1]) (by omega) (by simp; omega)
      rw [List.append_assoc, List.singleton_append, ← rootsB_get v hil, ← drop_cons 0 (by unfold rootsB; rw [List.length_map]; omega)] at h
      refine Ev.step (fun k => ?_) h
      simp only [spec_l12Roots.l0]
      rw [if_pos (by omega), if_pos (by omega), if_pos (by omega), rdIV_nat, wsucc (n := v.length) hil (by omega), rootsB_get v hil]
  have h := main v.length 0 [] (by omega) rfl
  rw [List.nil_append, List.drop_zero] at h
  exact h
theorem sStore_ev (v : List S147) (a : List S133) (n : Int) (hv : v.length ≤ 1048576) (hn : a.length ≤ 1048576) (hx : ∀ x ∈ a, x.f1.length ≤ 1048576) (ha : arenaB a = true) : Ev (fun k => spec_StoreOk.l0 k 0 v a n) (specOk v a n) := by
  have main : ∀ (d i : Nat), i + d = v.length → Ev (fun k => spec_StoreOk.l0 k (i : Int) v a n) ((List.range' i d).all (fun i => volOk v a i && getOk a n (v.getD i z147).f1) && decide ((sweepB a (rootsB v)).1.length = a.length)) := by
    intro d
    induction d with
    | zero =>
      intro i hi
      refine Ev.step (f := fun k => (spec_l12Roots.f k v a n).bind fun t => (spec_SweepArena.f k a t).bind fun u => some ((u.1.length : Int) == (a.length : Int))) (fun k => ?_) (ev_bind (sRoots_ev v a n hv) (ev_bind (sSweep_ev a _ hn hx (by unfold rootsB; rw [List.length_map]; omega)) (ev_const ?_)))
      · simp only [spec_StoreOk.l0]
        rw [if_neg (by omega)]
      · show some (((sweepB a (rootsB v)).1.length : Int) == (a.length : Int)) = some (true && _)
        rw [Bool.true_and]
        congr 1
        by_cases h : (sweepB a (rootsB v)).1.length = a.length
        · rw [decide_eq_true h, h]; simp
        · rw [decide_eq_false h]; simp; omega
    | succ d ih =>
      intro i hi
      have hil : i < v.length := by omega
      rw [List.range'_succ, List.all_cons]
      refine Ev.step (fun k => sVol_step k i v a n hil hv hn) ?_
      by_cases h : volOk v a i = true
      · rw [h, Bool.true_and, Bool.and_assoc]
        have hr := volOk_root h
        have inner : ∀ (e s : Nat), s + e = 16 → Ev (fun k => spec_StoreOk.l1 k (i : Int) (s : Int) v a n (v.getD i z147).f0 (v.getD i z147).f1) ((List.range' s e).all (fun s => !decide (gB a (v.getD i z147).f1 s ≥ n)) && ((List.range' (i + 1) d).all (fun i => volOk v a i && getOk a n (v.getD i z147).f1) && decide ((sweepB a (rootsB v)).1.length = a.length))) := by
          intro e
          induction e with
          | zero =>
            intro s hs
            refine Ev.step (fun k => ?_) (ih (i + 1) (by omega))
            simp only [spec_StoreOk.l1]
            rw [if_neg (by omega), wsucc (n := v.length) hil (by omega)]
          | succ e ihe =>
            intro s hs
            rw [List.range'_succ, List.all_cons]
            have hg := gB_eq a _ s ha hr (by omega)
            by_cases h2 : gB a (v.getD i z147).f1 s ≥ n
            · rw [decide_eq_true h2]
              refine ev_some fun k => ?_
              simp only [spec_StoreOk.l1]
              rw [if_pos (by omega), hg, Option.bind_some, if_pos h2]; rfl
            · rw [decide_eq_false h2, Bool.not_false, Bool.true_and]
              refine Ev.step (fun k => ?_) (ihe (s + 1) (by omega))
              simp only [spec_StoreOk.l1]
              rw [if_pos (by omega), hg, Option.bind_some, if_neg h2, wsucc (i := s) (n := 16) (by omega) (by omega)]
        refine Ev.step (fun k => ?_) (inner 16 0 rfl)
        simp only [spec_StoreOk.j2]
        rw [if_neg (by decide)]; rfl
      · rw [Bool.eq_false_iff.mpr h, Bool.false_and, Bool.false_and, Bool.false_and]
        refine ev_some fun k => ?_
        simp only [spec_StoreOk.j2]
        rw [Bool.not_false, if_pos rfl]
  exact main v.length 0 (by omega)
theorem iVol_step (k i : Nat) (acc : List Int) (v : List S147) (a : List S133) (n : Int) (hi : i < v.length) (hv : v.length ≤ 1048576) (hn : a.length ≤ 1048576) :
    impl_StoreOk.l0 (k + 1) acc v (v.length : Int) (i : Int) v a n = if volOk v a i = true then (impl_knotsOf.f k a (v.getD i z147).f1).bind fun t => if acc.length + t.length < 17592186044416 then impl_StoreOk.l0 k (acc ++ t) v (v.length : Int) ((i + 1 : Nat) : Int) v a n else none else some false := by
  simp only [impl_StoreOk.l0]
  rw [if_pos (by omega), if_pos (by omega), if_pos (by omega), rdIV_nat, in_eq, Option.bind_some, iRoot_eq a _ (by omega), wsucc (n := v.length) hi (by omega)]
  unfold volOk
  by_cases h1 : 1 ≤ (v.getD i z147).f0 ∧ (v.getD i z147).f0 ≤ 9
  · rw [decide_eq_true h1, if_pos rfl, Bool.true_and]
    have tail : (if (v.getD i z147).f1 = -1 then (impl_knotsOf.f k a (v.getD i z147).f1).bind fun t => if acc.length + t.length < 17592186044416 then impl_StoreOk.l0 k (acc ++ t) v (v.length : Int) ((i + 1 : Nat) : Int) v a n else none else
        (some (rootB a (v.getD i z147).f1)).bind fun q => if q = true then (impl_knotsOf.f k a (v.getD i z147).f1).bind fun t => if acc.length + t.length < 17592186044416 then impl_StoreOk.l0 k (acc ++ t) v (v.length : Int) ((i + 1 : Nat) : Int) v a n else none else some false) =
        if (decide ((v.getD i z147).f1 = -1) || rootB a (v.getD i z147).f1) = true then (impl_knotsOf.f k a (v.getD i z147).f1).bind fun t => if acc.length + t.length < 17592186044416 then impl_StoreOk.l0 k (acc ++ t) v (v.length : Int) ((i + 1 : Nat) : Int) v a n else none else some false := by
      by_cases h3 : (v.getD i z147).f1 = -1
      · rw [if_pos h3, decide_eq_true h3, Bool.true_or, if_pos rfl]
      · rw [if_neg h3, decide_eq_false h3, Bool.false_or, Option.bind_some]
    by_cases h0 : i = 0
    · rw [if_neg (by omega), decide_eq_true h0, Bool.true_or, Bool.true_and]
      exact tail
    · rw [if_pos (by omega), wpred (by omega) (by omega), if_pos (by omega), if_pos (by omega), rdIV_nat, decide_eq_false h0, Bool.false_or]
      by_cases h2 : (v.getD (i - 1) z147).f0 ≥ (v.getD i z147).f0
      · rw [if_pos h2, decide_eq_true h2]; rfl
      · rw [if_neg h2, decide_eq_false h2, Bool.not_false, Bool.true_and]
        exact tail
  · rw [decide_eq_false h1, if_neg (by decide), Bool.false_and, if_neg (by decide)]
theorem iStore_ev (v : List S147) (a : List S133) (n : Int) (hv : v.length ≤ 1048576) (hn : a.length ≤ 1048576) (hx : ∀ x ∈ a, x.f1.length ≤ 1048576) : Ev (fun k => impl_StoreOk.l0 k [] v (v.length : Int) 0 v a n) (implOk v a n) := by
  have l1 : ∀ (acc : List Int), acc.length ≤ 9223372036854775807 → (∀ j : Nat, j < a.length → ((j : Int) ∈ acc ↔ keepB a (rootsB v) j = true)) → ∀ (d j : Nat), j + d = a.length →
      Ev (fun k => impl_StoreOk.l1 k acc a (a.length : Int) (j : Int) v a n) ((List.range' j d).all fun j => keepB a (rootsB v) j && leafOk a n j) := by
    intro acc hacc hK d
    induction d with
    | zero => intro j hj; exact ev_some fun k => by simp only [impl_StoreOk.l1]; rw [if_neg (by omega)]; rfl
    | succ d ih =>
      intro j hj
      have hjl : j < a.length := by omega
      have hm := hx _ (getD_mem (z := z133) hjl)
      rw [List.range'_succ, List.all_cons]
      refine Ev.step (f := fun k => (impl_hasInt.f k acc (j : Int)).bind fun t => if t = true then impl_StoreOk.l2 k acc a (a.length : Int) (j : Int) (a.getD j z133).f1 ((a.getD j z133).f1.length : Int) 0 v a n (a.getD j z133).f0 (a.getD j z133).f1 else some false) (fun k => ?_) (ev_bind (iHasInt_ev acc _ hacc) ?_)
      · simp only [impl_StoreOk.l1]
        rw [if_pos (by omega), if_pos (by omega), if_pos (by omega), rdIK_nat]
      · by_cases h : keepB a (rootsB v) j = true
        · rw [decide_eq_true ((hK j hjl).2 h), h, Bool.true_and]
          simp only [if_true]
          have inner : ∀ (e s : Nat), s + e = (a.getD j z133).f1.length → Ev (fun k => impl_StoreOk.l2 k acc a (a.length : Int) (j : Int) (a.getD j z133).f1 ((a.getD j z133).f1.length : Int) (s : Int) v a n (a.getD j z133).f0 (a.getD j z133).f1) (((a.getD j z133).f1.drop s).all (fun x => !((a.getD j z133).f0 && decide (x ≥ n))) && (List.range' (j + 1) d).all fun j => keepB a (rootsB v) j && leafOk a n j) := by
            intro e
            induction e with
            | zero =>
              intro s hs
              rw [List.drop_eq_nil_of_le (by omega), List.all_nil, Bool.true_and]
              refine Ev.step (fun k => ?_) (ih (j + 1) (by omega))
              simp only [impl_StoreOk.l2]
              rw [if_neg (by omega), wsucc (n := a.length) hjl (by omega)]
            | succ e ihe =>
              intro s hs
              have hsl : s < (a.getD j z133).f1.length := by omega
              rw [drop_cons 0 hsl, List.all_cons]
              have st : ∀ k, impl_StoreOk.l2 (k + 1) acc a (a.length : Int) (j : Int) (a.getD j z133).f1 ((a.getD j z133).f1.length : Int) (s : Int) v a n (a.getD j z133).f0 (a.getD j z133).f1 = if ((a.getD j z133).f0 && decide ((a.getD j z133).f1.getD s 0 ≥ n)) = true then some false else impl_StoreOk.l2 k acc a (a.length : Int) (j : Int) (a.getD j z133).f1 ((a.getD j z133).f1.length : Int) ((s + 1 : Nat) : Int) v a n (a.getD j z133).f0 (a.getD j z133).f1 := fun k => by
                simp only [impl_StoreOk.l2]
                rw [if_pos (by omega), if_pos (by omega), if_pos (by omega), rd_nat, wsucc (i := s) (n := (a.getD j z133).f1.length) hsl (by omega)]
                cases hf : (a.getD j z133).f0 with
                | false => rw [if_neg (by decide), Bool.false_and, if_neg (by decide)]
                | true =>
                  rw [if_pos rfl, Bool.true_and]
                  by_cases h2 : (a.getD j z133).f1.getD s 0 ≥ n
                  · rw [if_pos h2, decide_eq_true h2, if_pos rfl]
                  · rw [if_neg h2, decide_eq_false h2, if_neg (by decide)]
              by_cases h2 : ((a.getD j z133).f0 && decide ((a.getD j z133).f1.getD s 0 ≥ n)) = true
              · rw [h2, Bool.not_true, Bool.false_and, Bool.false_and]
                exact ev_some fun k => by rw [st k, if_pos h2]
              · rw [Bool.eq_false_iff.mpr h2, Bool.not_false, Bool.true_and]
                exact Ev.step (fun k => by rw [st k, if_neg h2]) (ihe (s + 1) (by omega))
          have h := inner (a.getD j z133).f1.length 0 (by omega)
          rw [List.drop_zero] at h
          exact h
        · rw [decide_eq_false (fun e => h ((hK j hjl).1 e)), Bool.eq_false_iff.mpr h, Bool.false_and, Bool.false_and]
          exact Ev.now _
  have main : ∀ (d i : Nat) (acc : List Int), i + d = v.length → acc.length ≤ 1048577 * i → (∀ j : Nat, j < a.length → (((j : Int) ∈ acc ∨ ((rootsB v).drop i).any (fun r => keptB a r j) = true) ↔ keepB a (rootsB v) j = true)) →
      Ev (fun k => impl_StoreOk.l0 k acc v (v.length : Int) (i : Int) v a n) ((List.range' i d).all (volOk v a) && (List.range' 0 a.length).all fun j => keepB a (rootsB v) j && leafOk a n j) := by
    intro d
    induction d with
    | zero =>
      intro i acc hi hl hK
      rw [List.range'_zero, List.all_nil, Bool.true_and]
      refine Ev.step (fun k => ?_) (l1 acc (by omega) (fun j hj => ?_) a.length 0 (by omega))
      · simp only [impl_StoreOk.l0]
        rw [if_neg (by omega)]; rfl
      · have h := hK j hj
        rw [List.drop_eq_nil_of_le (by unfold rootsB; rw [List.length_map]; omega)] at h
        simpa using h
    | succ d ih =>
      intro i acc hi hl hK
      have hil : i < v.length := by omega
      rw [List.range'_succ, List.all_cons]
      by_cases h : volOk v a i = true
      · rw [h, Bool.true_and]
        obtain ⟨L, h1, h2, h3⟩ := iKnots_ev a (v.getD i z147).f1 hn hx
        refine Ev.step (fun k => by rw [iVol_step k i acc v a n hil hv hn, if_pos h]) (ev_bind h1 ?_)
        simp only [if_pos (show acc.length + L.length < 17592186044416 by omega)]
        refine ih (i + 1) (acc ++ L) (by omega) (by rw [List.length_append]; omega) (fun j hj => ?_)
        rw [← hK j hj, drop_cons (l := rootsB v) (i := i) 0 (by unfold rootsB; rw [List.length_map]; omega), rootsB_get v hil, List.any_cons, List.mem_append, h3 j hj, Bool.or_eq_true, or_assoc]
      · rw [Bool.eq_false_iff.mpr h, Bool.false_and, Bool.false_and]
        exact ev_some fun k => by rw [iVol_step k i acc v a n hil hv hn, if_neg h]
  exact main v.length 0 [] (by omega) (by simp) (fun j hj => by rw [List.drop_zero]; simp [keepB])
theorem sweep_len {a : List S133} {roots : List Int} (hs : sweepOk a roots = true) : (sweepB a roots).1.length = a.length ↔ ∀ j, j < a.length → keepB a roots j = true := by
  unfold sweepB
  rw [if_pos hs]
  show (swAll a (keepB a roots) a.length 0 (List.replicate a.length 0) []).2.length = a.length ↔ _
  rw [swAll_out, List.length_nil, Nat.zero_add]
  have e : (List.range' 0 a.length).length = a.length := List.length_range'
  constructor
  · intro h j hj
    exact List.length_filter_eq_length_iff.1 (by rw [h, e]) j (by rw [List.mem_range'_1]; omega)
  · intro h
    rw [List.length_filter_eq_length_iff.2 (fun j hj => h j (by rw [List.mem_range'_1] at hj; omega)), e]
theorem gB_val {a : List S133} {r : Int} (h : rootB a r = true) {q t : Nat} (hq : q < 4) (ht : t < 4) :
    gB a r (4 * q + t) = if (a.getD r.toNat z133).f1.getD q 0 < 0 then 0 else (a.getD ((a.getD r.toNat z133).f1.getD q 0).toNat z133).f1.getD t 0 := by
  have := root_lt h
  unfold gB numB
  rw [if_neg (by omega), show (((4 * q + t : Nat) : Int) / 4).toNat = q by omega, show (((4 * q + t : Nat) : Int) % 4).toNat = t by omega]
theorem mem_getD {l : List Int} {x : Int} (h : x ∈ l) : ∃ i, i < l.length ∧ l.getD i 0 = x := by
  obtain ⟨i, hi, e⟩ := List.getElem_of_mem h
  exact ⟨i, hi, by rw [List.getD_eq_getElem?_getD, List.getElem?_eq_getElem hi]; exact e⟩
theorem leaf_get (v : List S147) (a : List S133) (n : Int) (ha : arenaB a = true) (hn : 1 ≤ n) (hK : ∀ j, j < a.length → keepB a (rootsB v) j = true) :
    (∀ i, i < v.length → getOk a n (v.getD i z147).f1 = true) → (∀ j, j < a.length → leafOk a n j = true) := by
  intro h j hj
  unfold leafOk
  rw [List.all_eq_true]
  intro x hx
  cases hf : (a.getD j z133).f0 with
  | false => rw [Bool.false_and]; rfl
  | true =>
    have hk := hK j hj
    unfold keepB at hk
    rw [List.any_eq_true] at hk
    obtain ⟨r, hr, hk⟩ := hk
    obtain ⟨i, hi, e⟩ := mem_getD hr
    have hi2 : i < v.length := by unfold rootsB at hi; rw [List.length_map] at hi; exact hi
    rw [rootsB_get v hi2] at e
    have hg := h i hi2
    rw [e] at hg
    unfold keptB at hk
    rw [Bool.and_eq_true, Bool.or_eq_true, decide_eq_true_eq, decide_eq_true_eq] at hk
    obtain ⟨hb, hk⟩ := hk
    obtain ⟨r0, rl, rf⟩ := root_lt hb
    rcases hk with hk | hk
    · rw [show r.toNat = j by omega, hf] at rf
      exact absurd rf (by decide)
    · obtain ⟨q, hq, e2⟩ := mem_getD hk
      obtain ⟨t, ht, e3⟩ := mem_getD hx
      have h4 := (knot_of ha rl).1
      have h5 := (knot_of ha hj).1
      have hv := gB_val hb (q := q) (t := t) (by omega) (by omega)
      rw [e2, if_neg (by omega), Int.toNat_natCast, e3] at hv
      unfold getOk at hg
      rw [List.all_eq_true] at hg
      have h6 := hg (4 * q + t) (by rw [List.mem_range'_1]; omega)
      rw [hv] at h6
      rw [Bool.true_and]
      exact h6
theorem get_leaf (v : List S147) (a : List S133) (n : Int) (ha : arenaB a = true) (hn : 1 ≤ n) (hV : ∀ i, i < v.length → (decide ((v.getD i z147).f1 = -1) || rootB a (v.getD i z147).f1) = true) :
    (∀ j, j < a.length → leafOk a n j = true) → (∀ i, i < v.length → getOk a n (v.getD i z147).f1 = true) := by
  intro h i hi
  have hr := hV i hi
  generalize (v.getD i z147).f1 = r at hr ⊢
  unfold getOk
  rw [List.all_eq_true]
  intro s hs
  rw [List.mem_range'_1] at hs
  rw [Bool.or_eq_true, decide_eq_true_eq] at hr
  by_cases h0 : r < 0
  · unfold gB
    rw [if_pos h0, decide_eq_false (by omega)]; rfl
  · have hb := hr.resolve_left (by omega)
    obtain ⟨r0, rl, rf⟩ := root_lt hb
    have e := gB_val hb (q := s / 4) (t := s % 4) (by omega) (by omega)
    rw [show 4 * (s / 4) + s % 4 = s by omega] at e
    rcases kid_of ha rl rf (j := s / 4) (by omega) with h1 | ⟨h1, h2, h3⟩
    · rw [if_pos (by omega)] at e
      rw [e, decide_eq_false (by omega)]; rfl
    · rw [if_neg (by omega)] at e
      have hl := h ((a.getD r.toNat z133).f1.getD (s / 4) 0).toNat (by omega)
      have h5 := (knot_of ha (i := ((a.getD r.toNat z133).f1.getD (s / 4) 0).toNat) (by omega)).1
      unfold leafOk at hl
      rw [List.all_eq_true, h3] at hl
      have h6 := hl _ (getD_mem (i := s % 4) (z := 0) (by omega))
      rw [Bool.true_and] at h6
      rw [e]
      exact h6
theorem ok_eq (v : List S147) (a : List S133) (n : Int) (ha : arenaB a = true) (hn : 1 ≤ n) : specOk v a n = implOk v a n := by
  have mr : ∀ {P : Nat → Bool} {m : Nat}, (List.range' 0 m).all P = true ↔ ∀ i, i < m → P i = true := fun {P m} => by
    rw [List.all_eq_true]
    exact ⟨fun h i hi => h i (by rw [List.mem_range'_1]; omega), fun h i hi => h i (by rw [List.mem_range'_1] at hi; omega)⟩
  rw [Bool.eq_iff_iff]
  unfold specOk implOk
  rw [Bool.and_eq_true, Bool.and_eq_true, mr, mr, mr, decide_eq_true_eq]
  simp only [Bool.and_eq_true]
  have ok : (∀ i, i < v.length → volOk v a i = true) → sweepOk a (rootsB v) = true := fun h => by
    unfold sweepOk
    rw [ha, Bool.true_and, List.all_eq_true]
    intro r hr
    obtain ⟨i, hi, e⟩ := mem_getD hr
    have hi2 : i < v.length := by unfold rootsB at hi; rw [List.length_map] at hi; exact hi
    rw [rootsB_get v hi2] at e
    rw [← e]
    exact volOk_root (h i hi2)
  constructor
  · rintro ⟨h1, h2⟩
    have hV : ∀ i, i < v.length → volOk v a i = true := fun i hi => (h1 i hi).1
    have hK := (sweep_len (ok hV)).1 h2
    exact ⟨hV, fun j hj => ⟨hK j hj, leaf_get v a n ha hn hK (fun i hi => (h1 i hi).2) j hj⟩⟩
  · rintro ⟨hV, h2⟩
    exact ⟨fun i hi => ⟨hV i hi, get_leaf v a n ha hn (fun i hi => volOk_root (hV i hi)) (fun j hj => (h2 j hj).2) i hi⟩, (sweep_len (ok hV)).2 fun j hj => (h2 j hj).1⟩
def storeB (v : List S147) (a : List S133) (n : Int) : Bool := if (v.length : Int) > 3 then false else if arenaB a = true then (if 1 ≤ n ∧ n ≤ 1000000000 then implOk v a n else false) else false
theorem sStoreOk_ev (v : List S147) (a : List S133) (n : Int) (hv : v.length ≤ 1048576) (hn : a.length ≤ 1048576) (hx : ∀ x ∈ a, x.f1.length ≤ 1048576) : Ev (fun k => spec_StoreOk.f k v a n) (storeB v a n) := by
  have no : Ev (fun k => spec_StoreOk.j0 k true v a n) false := ev_some fun k => by simp only [spec_StoreOk.j0]; rw [if_pos trivial]
  unfold spec_StoreOk.f storeB
  by_cases h1 : (v.length : Int) > 3
  · simp only [if_pos h1]; exact no
  · simp only [if_neg h1]
    refine ev_bind (sArena_ev a (by omega)) ?_
    by_cases h2 : arenaB a = true
    · simp only [if_pos h2, l01In_eq, Option.bind_some]
      by_cases h3 : 1 ≤ n ∧ n ≤ 1000000000
      · rw [if_pos h3, decide_eq_true h3, ← ok_eq v a n h2 h3.1]
        refine Ev.step (fun k => ?_) (sStore_ev v a n hv hn hx h2)
        simp only [spec_StoreOk.j0]
        rw [if_neg (by decide)]
      · rw [if_neg h3, decide_eq_false h3]; exact no
    · simp only [if_neg h2]; exact no
theorem iStoreOk_ev (v : List S147) (a : List S133) (n : Int) (hv : v.length ≤ 1048576) (hn : a.length ≤ 1048576) (hx : ∀ x ∈ a, x.f1.length ≤ 1048576) : Ev (fun k => impl_StoreOk.f k v a n) (storeB v a n) := by
  have no : Ev (fun k => impl_StoreOk.j0 k true v a n) false := ev_some fun k => by simp only [impl_StoreOk.j0]; rw [if_pos trivial]
  unfold impl_StoreOk.f storeB
  by_cases h1 : (v.length : Int) > 3
  · simp only [if_pos h1]; exact no
  · simp only [if_neg h1]
    refine ev_bind (iArena_ev a (by omega)) ?_
    by_cases h2 : arenaB a = true
    · simp only [if_pos h2, in_eq, Option.bind_some]
      by_cases h3 : 1 ≤ n ∧ n ≤ 1000000000
      · rw [if_pos h3, decide_eq_true h3]
        refine Ev.step (fun k => ?_) (iStore_ev v a n hv hn hx)
        simp only [impl_StoreOk.j0]
        rw [if_neg (by decide)]
      · rw [if_neg h3, decide_eq_false h3]; exact no
    · simp only [if_neg h2]; exact no
end Go.Proofs.Ytdolplcbokioaaa.Pu

/- FnExactStoreOk: the program and the reference answer alike whether a store is right. -/
namespace Go.Proofs.Ytdolplcbokioaaa.Pure
set_option linter.unusedVariables false
set_option linter.unusedSimpArgs false
open Go.RowKit Go.Proofs.Ytdolplcbokioaaa.PB Go.Proofs.YtdolplcbokioaaaW.PrintWords Go.Proofs.Ytdolplcbokioaaa.Pu

theorem FnExactStoreOk : ∀ (l0_0 : List S184) (l0_1 : List S175) (a0_2 : Int), (l0_0.length ≤ maxLen ∧ ∀ x_l0_0 ∈ l0_0, ((Lit.int .i64 x_l0_0.f0).wf = true ∧ (Lit.int .i64 x_l0_0.f1).wf = true)) → (l0_1.length ≤ maxLen ∧ ∀ x_l0_1 ∈ l0_1, (True ∧ (x_l0_1.f1.length ≤ maxLen ∧ ∀ x_x_l0_1f1 ∈ x_l0_1.f1, (Lit.int .i64 x_x_l0_1f1).wf = true))) → (Lit.int .i64 a0_2).wf = true → ∃ k, laws_FnExactStoreOk.f k l0_0 l0_1 a0_2 = some true := by
  intro v l n ⟨hv, _⟩ ⟨hl, hx⟩ _
  refine Ev.rounds (g := fun k => laws_FnExactStoreOk.f k v l n) ?_
  obtain ⟨r, hr, _, hq⟩ := store_start (n := n) (a := 1048576) (by omega) (by omega) hv hl (fun x h => (hx x h).2.1)
  unfold laws_FnExactStoreOk.f
  refine ev_bind hr ?_
  by_cases h : r < 0
  · simp only [if_pos h]; exact Ev.now _
  · simp only [if_neg h]
    obtain ⟨hto, heq, hn, ha, hm⟩ := hq (by omega)
    refine ev_bind hto (ev_bind (sStoreOk_ev _ _ n hn ha hm) (ev_bind hto (ev_bind (iStoreOk_ev _ _ n hn ha hm) ?_)))
    simp only [bne_self_eq_false, Bool.false_eq_true, if_false]
    refine ev_bind hto (ev_bind heq ?_)
    simp only [if_true]
    exact Ev.now _
end Go.Proofs.Ytdolplcbokioaaa.Pure

/- FnExactStoreOk: whatever the input, the law returns true, and its arguments read as they did. The row, out of the law's own walk and the pure statement. -/
namespace Go.Proofs.Ytdolplcbokioaaa.fnExactStoreOk
open Go.ChangeShapes Go.WideShapes Go.ChangeAt Go.RowKit Go.Proofs.Ytdolplcbokioaaa.Open Go.Proofs.YtdolplcbokioaaaW.PrintWords Go.Proofs.Ytdolplcbokioaaa.PB
open Go.ChangeMaps (open_string shut_string)
theorem own : ownKnob Try.prog.godebug = none := by kernel_rfl
theorem laidOut : laidOutB Try.prog = true := by kernel_rfl
set_option maxRecDepth 100000 in
theorem o175 : Opn Try.prog 175 k175 (fun x => (True ∧ (x.f1.length ≤ maxLen ∧ ∀ x_xf1 ∈ x.f1, (Lit.int .i64 x_xf1).wf = true))) := opn_struct (d := (Kd.pair Kd.bool (Kd.slice 3 (Kd.int .i64)))) (wf := fun (y : Bool × (List Int)) => (True ∧ (y.2.length ≤ maxLen ∧ ∀ x_y2 ∈ y.2, (Lit.int .i64 x_y2).wf = true))) (fun x : S175 => (x.f0, x.f1)) (fun y => (⟨y.1, y.2⟩ : S175)) (fun _ => rfl) Try.underlying175 (by kernel_rfl) (opnF_cons rfl (by kernel_rfl) (opn_bool Try.underlying4) (opnF_one rfl (by kernel_rfl) (opn_slice Try.underlying26 (by kernel_rfl) (opn_int Try.underlying3))))
set_option maxRecDepth 100000 in
theorem p53 : Opn Try.prog 53 (Kd.slice 175 k175) (fun (y : (List S175)) => (y.length ≤ maxLen ∧ ∀ x_y ∈ y, (True ∧ (x_y.f1.length ≤ maxLen ∧ ∀ x_x_yf1 ∈ x_y.f1, (Lit.int .i64 x_x_yf1).wf = true)))) := opn_tuple Try.underlying53 (by kernel_rfl) (opnF_one rfl (by kernel_rfl) (opn_slice Try.underlying51 (by kernel_rfl) o175))
set_option maxRecDepth 100000 in
theorem o184 : Opn Try.prog 184 k184 (fun x => ((Lit.int .i64 x.f0).wf = true ∧ (Lit.int .i64 x.f1).wf = true)) := opn_struct (d := (Kd.pair (Kd.int .i64) (Kd.int .i64))) (wf := fun (y : Int × Int) => ((Lit.int .i64 y.1).wf = true ∧ (Lit.int .i64 y.2).wf = true)) (fun x : S184 => (x.f0, x.f1)) (fun y => (⟨y.1, y.2⟩ : S184)) (fun _ => rfl) Try.underlying184 (by kernel_rfl) (opnF_cons rfl (by kernel_rfl) (opn_int Try.underlying3) (opnF_one rfl (by kernel_rfl) (opn_int Try.underlying3)))
set_option maxRecDepth 100000 in
theorem p78 : Opn Try.prog 78 (Kd.pair (Kd.slice 184 k184) (Kd.pair (Kd.slice 175 k175) (Kd.int .i64))) (fun (y : ((List S184) × (List S175) × Int)) => ((y.1.length ≤ maxLen ∧ ∀ x_y1 ∈ y.1, ((Lit.int .i64 x_y1.f0).wf = true ∧ (Lit.int .i64 x_y1.f1).wf = true)) ∧ ((y.2.1.length ≤ maxLen ∧ ∀ x_y21 ∈ y.2.1, (True ∧ (x_y21.f1.length ≤ maxLen ∧ ∀ x_x_y21f1 ∈ x_y21.f1, (Lit.int .i64 x_x_y21f1).wf = true))) ∧ (Lit.int .i64 y.2.2).wf = true))) := opn_tuple Try.underlying78 (by kernel_rfl) (opnF_cons rfl (by kernel_rfl) (opn_slice Try.underlying76 (by kernel_rfl) o184) (opnF_cons (a := (Kd.slice 175 k175)) (wa := fun (y : (List S175)) => (y.length ≤ maxLen ∧ ∀ x_y ∈ y, (True ∧ (x_y.f1.length ≤ maxLen ∧ ∀ x_x_yf1 ∈ x_y.f1, (Lit.int .i64 x_x_yf1).wf = true)))) rfl (by kernel_rfl) p53 (opnF_one rfl (by kernel_rfl) (opn_int Try.underlying3))))
set_option maxRecDepth 100000 in
set_option maxHeartbeats 4000000 in
theorem lifted (os : Os) (started : os.Started) (H : Type) (enc : TypeId × Value → H) :
    ReturnsInHanded {} Try.checked os 14 .any (Rows.fnExactStoreOkSpec.pre6 enc Try.prog Try.f14 Rows.fnExactStoreOkRow.domain false) (Rows.fnExactStoreOkSpec.post enc Try.prog Try.f14 false true false false) := by
  refine returnsInHanded_of_change_sized (C := Try.checked) own started (by kernel_rfl) Try.func14
    (ChangeSpec.witness6 (enc := enc) (C := Try.checked) false ⟨#[], #[.agg #[.slice none 0 0, .slice none 0 0, .int .i64 0]], []⟩ 8 (by kernel_rfl) (by kernel_rfl) (by kernel_rfl) (by kernel_rfl)) ?_
  intro W base args ds gs before hval0 hW hcnd hsz0 _
  have hval : ∀ (j : Nat) t v, Try.f14.params[j]? = some t → args[j]? = some v → Value.okWide Try.prog W .any base t v := hval0
  have hW' := hW
  obtain ⟨p, q, hA0, hV, rfl, hfz, hnd⟩ := hW
  have hA : DataW.TrodAll enc Try.prog W 0 (fun _ => true) true Try.f14.params.toList args.toList ds p := hA0
  rw [Try.params14] at hA hval
  obtain ⟨v0, vs0, d0, ds0, p0, q0, hargs, rfl, rfl, h0, r0⟩ := trodAll_cons hA
  obtain ⟨rfl, rfl, rfl⟩ := trodAll_nil r0
  obtain rfl : args = #[v0] := by cases args; simp_all
  obtain ⟨rfl, rfl⟩ := trodVars_none hV
  have k0 := h0
  have lt0 : ∀ x ∈ p0, x.block < W.heap.size := by obtain ⟨m, hm⟩ := k0; exact DataW.trod_lt m _ _ _ hm
  obtain ⟨fu0, hf0⟩ := h0
  obtain ⟨y0, K0, Y0⟩ := p78 H enc W 0 (fun _ => true) true fu0 _ _ hf0
  obtain ⟨cs0, rfl, sz0⟩ := okWide_struct Try.underlying78 (hval 0 78 v0 rfl rfl)
  obtain ⟨c0_0, c0_r0, ec0_r0, hc0_0, hc0_r0⟩ := K0
  obtain ⟨Ac0_0, Cc0_0, Ec0_0, Lc0_0, Gc0_0⟩ := hc0_0
  obtain ⟨c0_r0_1, c0_r0_r1, ec0_r0_r1, hc0_r0_1, hc0_r0_r1⟩ := hc0_r0
  obtain ⟨Ac0_r0_1, Cc0_r0_1, Ec0_r0_1, Lc0_r0_1, Gc0_r0_1⟩ := hc0_r0_1
  have Ec0_r0_r1 := hc0_r0_r1
  have E0 : cs0 = #[.slice Ac0_0 y0.1.length Cc0_0, .slice Ac0_r0_1 y0.2.1.length Cc0_r0_1, .int .i64 y0.2.2] := by
    apply Array.toList_inj.1
    have z : cs0.toList = _ := ec0_r0
    rw [z]
    rw [ec0_r0_r1, Ec0_0, Ec0_r0_1, Ec0_r0_r1]
    rfl
  subst E0
  obtain ⟨k, hp⟩ := Pure.FnExactStoreOk y0.1 y0.2.1 y0.2.2 Y0.1 Y0.2.1 Y0.2.2
  clear hA0 hval0 hsz0
  refine (laws_FnExactStoreOk.calls k Ac0_0 Cc0_0 y0.1 Ac0_r0_1 Cc0_r0_1 y0.2.1 y0.2.2 true ⟨rfl⟩ W Gc0_0 Lc0_0 Gc0_r0_1 Lc0_r0_1 hp).mono fun e W' ⟨he, bel0⟩ => ?_
  have bel : Below W.heap.size W W' := bel0
  subst he
  exact ⟨_, rfl, _, _, _, [], _, [], hW', trodAll_mk1 (shut_bool Try.underlying4 _), (trodAll_cons_mk (Below.trod laidOut (by kernel_rfl) (of_decide_eq_true (by kernel_rfl)) k0 bel lt0) trodAll_mk0), rfl, bel.frame _, fun h => by cases h⟩
theorem over : Rows.fnExactStoreOkRow.holds Try.pinned (OpenSpec.ofChange Rows.fnExactStoreOkSpec) :=
  OpenClaim.holds_of_wide 14 Try.f14 rfl rfl rfl rfl rfl rfl rfl ⟨rfl, rfl, rfl, rfl, rfl⟩ rfl rfl rfl rfl rfl (by kernel_rfl) Try.func14 (by kernel_rfl)
    (of_decide_eq_true (by kernel_rfl)) (by unfold Func.isWrapper; first | (rw [if_pos (by decide +kernel)]; kernel_rfl) | (rw [if_neg (by decide +kernel)]; exact ⟨rfl, rfl⟩))
    (fun os started H enc _ => lifted os started H enc)
theorem proved : Rows.FnExactStoreOkSaid := over
#print axioms proved
end Go.Proofs.Ytdolplcbokioaaa.fnExactStoreOk
namespace Go.Proofs.Ytdolplcbokioaaa
/-- The row, under a short name, for the claim. -/
theorem fnExactStoreOk_holds : Rows.FnExactStoreOkSaid := fnExactStoreOk.proved
end Go.Proofs.Ytdolplcbokioaaa
