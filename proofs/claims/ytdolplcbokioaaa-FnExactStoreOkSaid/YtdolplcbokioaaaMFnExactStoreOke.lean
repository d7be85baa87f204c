/- FnExactStoreOk: functions of the translation as Lean functions with what their calls come to, plain lemmas on them, and, at the end, the row. Parts of one proof, merged by a program of this session; each part's own sentence stands at its head. -/
import Derived.Test.YtdolplcbokioaaaMFnExactStoreOkd
namespace Go.Proofs.Ytdolplcbokioaaa.PB
open Go.RowKit Go.Proofs.YtdolplcbokioaaaW.PrintWords Go.Proofs.YtdolplcbokioaaaW.PrintLast Go.Proofs.YtdolplcbokioaaaW.PrintMore
attribute [local go_sem] max2_int min2_int max_two min_two max_three min_three max_four min_four   -- for this text's walks alone
set_option linter.unusedVariables false
set_option linter.unusedSimpArgs false
mutual
def impl_StoreOk.j0 : Nat → Bool → List (S147) → List (S133) → Int → Option (Bool)
 | 0,_,_,_,_=>none
 | k + 1,x25,x1690000,x1690001,x1690002=>if x25 = true then (some false) else (impl_StoreOk.l0 k ([] : List Int) x1690000 (x1690000.length : Int) 0 x1690000 x1690001 x1690002)
def impl_StoreOk.l0 : Nat → List Int → List (S147) → Int → Int → List (S147) → List (S133) → Int → Option (Bool)
 | 0,_,_,_,_,_,_,_=>none
 | k + 1,x3,x27,x28,x29,x1690000,x1690001,x1690002=>if x29 < x28 then (if 0 ≤ x29 then (if x29 < (x27.length : Int) then ((impl_in.f ((rd_T147 x27 x29).f0) 1 9).bind fun t1694=>(if t1694 = true then (if x29 > 0 then (if 0 ≤ (wrap64 (x29 - 1)) then (if (wrap64 (x29 - 1)) < (x1690000.length : Int) then (if ((rd_T147 x1690000 (wrap64 (x29 - 1))).f0) ≥ ((rd_T147 x27 x29).f0) then (some false) else (if ((rd_T147 x27 x29).f1) = (-1) then ((impl_knotsOf.f k x1690001 ((rd_T147 x27 x29).f1)).bind fun t1696=>(if x3.length + t1696.length < 17592186044416 then (impl_StoreOk.l0 k (x3 ++ t1696) x27 x28 (wrap64 (x29 + 1)) x1690000 x1690001 x1690002) else (none))) else ((impl_isRoot.f x1690001 ((rd_T147 x27 x29).f1)).bind fun t1702=>(if t1702 = true then ((impl_knotsOf.f k x1690001 ((rd_T147 x27 x29).f1)).bind fun t1703=>(if x3.length + t1703.length < 17592186044416 then (impl_StoreOk.l0 k (x3 ++ t1703) x27 x28 (wrap64 (x29 + 1)) x1690000 x1690001 x1690002) else (none))) else (some false))))) else (none)) else (none)) else (if ((rd_T147 x27 x29).f1) = (-1) then ((impl_knotsOf.f k x1690001 ((rd_T147 x27 x29).f1)).bind fun t1709=>(if x3.length + t1709.length < 17592186044416 then (impl_StoreOk.l0 k (x3 ++ t1709) x27 x28 (wrap64 (x29 + 1)) x1690000 x1690001 x1690002) else (none))) else ((impl_isRoot.f x1690001 ((rd_T147 x27 x29).f1)).bind fun t1715=>(if t1715 = true then ((impl_knotsOf.f k x1690001 ((rd_T147 x27 x29).f1)).bind fun t1716=>(if x3.length + t1716.length < 17592186044416 then (impl_StoreOk.l0 k (x3 ++ t1716) x27 x28 (wrap64 (x29 + 1)) x1690000 x1690001 x1690002) else (none))) else (some false))))) else (some false))) else (none)) else (none)) else (impl_StoreOk.l1 k x3 x1690001 (x1690001.length : Int) 0 x1690000 x1690001 x1690002)
def impl_StoreOk.l1 : Nat → List Int → List (S133) → Int → Int → List (S147) → List (S133) → Int → Option (Bool)
 | 0,_,_,_,_,_,_,_=>none
 | k + 1,x3,x77,x78,x79,x1690000,x1690001,x1690002=>if x79 < x78 then (if 0 ≤ x79 then (if x79 < (x77.length : Int) then ((impl_hasInt.f k x3 x79).bind fun t1724=>(if t1724 = true then (impl_StoreOk.l2 k x3 x77 x78 x79 ((rd_T133 x77 x79).f1) (((rd_T133 x77 x79).f1).length : Int) 0 x1690000 x1690001 x1690002 ((rd_T133 x77 x79).f0) ((rd_T133 x77 x79).f1)) else (some false))) else (none)) else (none)) else (some true)
def impl_StoreOk.l2 : Nat → List Int → List (S133) → Int → Int → List Int → Int → Int → List (S147) → List (S133) → Int → Bool → List Int → Option (Bool)
 | 0,_,_,_,_,_,_,_,_,_,_,_,_=>none
 | k + 1,x3,x77,x78,x79,x89,x90,x91,x1690000,x1690001,x1690002,x1724000,x1724001=>if x91 < x90 then (if 0 ≤ x91 then (if x91 < (x89.length : Int) then (if x1724000 = true then (if (rd x89 x91) ≥ x1690002 then (some false) else (impl_StoreOk.l2 k x3 x77 x78 x79 x89 x90 (wrap64 (x91 + 1)) x1690000 x1690001 x1690002 x1724000 x1724001)) else (impl_StoreOk.l2 k x3 x77 x78 x79 x89 x90 (wrap64 (x91 + 1)) x1690000 x1690001 x1690002 x1724000 x1724001)) else (none)) else (none)) else (impl_StoreOk.l1 k x3 x77 x78 (wrap64 (x79 + 1)) x1690000 x1690001 x1690002)
end
def impl_StoreOk.f (k : Nat) (l0_0 : List (S147)) (l0_1 : List (S133)) (a0_2 : Int) : Option (Bool):=if (l0_0.length : Int) > 3 then (impl_StoreOk.j0 k true l0_0 l0_1 a0_2) else ((impl_ArenaOk.f k l0_1).bind fun t1690=>(if t1690 = true then ((impl_in.f a0_2 1 1000000000).bind fun t1691=>(impl_StoreOk.j0 k (!t1691) l0_0 l0_1 a0_2)) else (impl_StoreOk.j0 k true l0_0 l0_1 a0_2)))
theorem impl_StoreOk.mono_l : ∀ k,(∀ y0 y1 y2 y3,LeO (impl_StoreOk.j0 k y0 y1 y2 y3) (impl_StoreOk.j0 (k + 1) y0 y1 y2 y3)) ∧ (∀ y0 y1 y2 y3 y4 y5 y6,LeO (impl_StoreOk.l0 k y0 y1 y2 y3 y4 y5 y6) (impl_StoreOk.l0 (k + 1) y0 y1 y2 y3 y4 y5 y6)) ∧ (∀ y0 y1 y2 y3 y4 y5 y6,LeO (impl_StoreOk.l1 k y0 y1 y2 y3 y4 y5 y6) (impl_StoreOk.l1 (k + 1) y0 y1 y2 y3 y4 y5 y6)) ∧ (∀ y0 y1 y2 y3 y4 y5 y6 y7 y8 y9 y10 y11,LeO (impl_StoreOk.l2 k y0 y1 y2 y3 y4 y5 y6 y7 y8 y9 y10 y11) (impl_StoreOk.l2 (k + 1) y0 y1 y2 y3 y4 y5 y6 y7 y8 y9 y10 y11))
 | 0=>⟨fun _ _ _ _ r h=>by simp [impl_StoreOk.j0] at h,fun _ _ _ _ _ _ _ r h=>by simp [impl_StoreOk.l0] at h,fun _ _ _ _ _ _ _ r h=>by simp [impl_StoreOk.l1] at h,fun _ _ _ _ _ _ _ _ _ _ _ _ r h=>by simp [impl_StoreOk.l2] at h⟩
 | k + 1=>by
  obtain ⟨ih0,ih1,ih2,ih3⟩:=impl_StoreOk.mono_l k;refine ⟨?_,?_,?_,?_⟩
  ·intro y0 y1 y2 y3;unfold impl_StoreOk.j0
   repeat' first
   | (with_reducible exact ih0 _ _ _ _)
   | (with_reducible exact ih1 _ _ _ _ _ _ _)
   | (with_reducible exact ih2 _ _ _ _ _ _ _)
   | (with_reducible exact ih3 _ _ _ _ _ _ _ _ _ _ _ _)
   | (with_reducible exact impl_ArenaOk.mono _ _)
   | (with_reducible exact impl_hasInt.mono _ _ _)
   | (with_reducible exact impl_knotsOf.mono _ _ _)
   | (with_reducible exact LeO.refl _)
   | (with_reducible exact LeO.none _)
   | (with_reducible refine LeO.ite ?_ ?_)
   | (with_reducible refine LeO.bind ?_ (fun _=>?_))
   | exact ih0 _ _ _ _
   | exact ih1 _ _ _ _ _ _ _
   | exact ih2 _ _ _ _ _ _ _
   | exact ih3 _ _ _ _ _ _ _ _ _ _ _ _
   | exact impl_ArenaOk.mono _ _
   | exact impl_hasInt.mono _ _ _
   | exact impl_knotsOf.mono _ _ _
   | exact LeO.none _
   | refine LeO.ite ?_ ?_
   | refine LeO.bind ?_ (fun _=>?_)
  ·intro y0 y1 y2 y3 y4 y5 y6;unfold impl_StoreOk.l0
   repeat' first
   | (with_reducible exact ih0 _ _ _ _)
   | (with_reducible exact ih1 _ _ _ _ _ _ _)
   | (with_reducible exact ih2 _ _ _ _ _ _ _)
   | (with_reducible exact ih3 _ _ _ _ _ _ _ _ _ _ _ _)
   | (with_reducible exact impl_ArenaOk.mono _ _)
   | (with_reducible exact impl_hasInt.mono _ _ _)
   | (with_reducible exact impl_knotsOf.mono _ _ _)
   | (with_reducible exact LeO.refl _)
   | (with_reducible exact LeO.none _)
   | (with_reducible refine LeO.ite ?_ ?_)
   | (with_reducible refine LeO.bind ?_ (fun _=>?_))
   | exact ih0 _ _ _ _
   | exact ih1 _ _ _ _ _ _ _
   | exact ih2 _ _ _ _ _ _ _
   | exact ih3 _ _ _ _ _ _ _ _ _ _ _ _
   | exact impl_ArenaOk.mono _ _
   | exact impl_hasInt.mono _ _ _
   | exact impl_knotsOf.mono _ _ _
   | exact LeO.none _
   | refine LeO.ite ?_ ?_
   | refine LeO.bind ?_ (fun _=>?_)
  ·intro y0 y1 y2 y3 y4 y5 y6;unfold impl_StoreOk.l1
   repeat' first
   | (with_reducible exact ih0 _ _ _ _)
   | (with_reducible exact ih1 _ _ _ _ _ _ _)
   | (with_reducible exact ih2 _ _ _ _ _ _ _)
   | (with_reducible exact ih3 _ _ _ _ _ _ _ _ _ _ _ _)
   | (with_reducible exact impl_ArenaOk.mono _ _)
   | (with_reducible exact impl_hasInt.mono _ _ _)
   | (with_reducible exact impl_knotsOf.mono _ _ _)
   | (with_reducible exact LeO.refl _)
   | (with_reducible exact LeO.none _)
   | (with_reducible refine LeO.ite ?_ ?_)
   | (with_reducible refine LeO.bind ?_ (fun _=>?_))
   | exact ih0 _ _ _ _
   | exact ih1 _ _ _ _ _ _ _
   | exact ih2 _ _ _ _ _ _ _
   | exact ih3 _ _ _ _ _ _ _ _ _ _ _ _
   | exact impl_ArenaOk.mono _ _
   | exact impl_hasInt.mono _ _ _
   | exact impl_knotsOf.mono _ _ _
   | exact LeO.none _
   | refine LeO.ite ?_ ?_
   | refine LeO.bind ?_ (fun _=>?_)
  intro y0 y1 y2 y3 y4 y5 y6 y7 y8 y9 y10 y11;unfold impl_StoreOk.l2
  repeat' first
  | (with_reducible exact ih0 _ _ _ _)
  | (with_reducible exact ih1 _ _ _ _ _ _ _)
  | (with_reducible exact ih2 _ _ _ _ _ _ _)
  | (with_reducible exact ih3 _ _ _ _ _ _ _ _ _ _ _ _)
  | (with_reducible exact impl_ArenaOk.mono _ _)
  | (with_reducible exact impl_hasInt.mono _ _ _)
  | (with_reducible exact impl_knotsOf.mono _ _ _)
  | (with_reducible exact LeO.refl _)
  | (with_reducible exact LeO.none _)
  | (with_reducible refine LeO.ite ?_ ?_)
  | (with_reducible refine LeO.bind ?_ (fun _=>?_))
  | exact ih0 _ _ _ _
  | exact ih1 _ _ _ _ _ _ _
  | exact ih2 _ _ _ _ _ _ _
  | exact ih3 _ _ _ _ _ _ _ _ _ _ _ _
  | exact impl_ArenaOk.mono _ _
  | exact impl_hasInt.mono _ _ _
  | exact impl_knotsOf.mono _ _ _
  | exact LeO.none _
  | refine LeO.ite ?_ ?_
  | refine LeO.bind ?_ (fun _=>?_)
theorem impl_StoreOk.mono : ∀ a0 a1 a2 k,LeO (impl_StoreOk.f k a0 a1 a2) (impl_StoreOk.f (k + 1) a0 a1 a2):=by
 intro a0 a1 a2 k;obtain ⟨ih0,ih1,ih2,ih3⟩:=impl_StoreOk.mono_l k;unfold impl_StoreOk.f
 repeat' first
   | (with_reducible exact ih0 _ _ _ _)
   | (with_reducible exact ih1 _ _ _ _ _ _ _)
   | (with_reducible exact ih2 _ _ _ _ _ _ _)
   | (with_reducible exact ih3 _ _ _ _ _ _ _ _ _ _ _ _)
   | (with_reducible exact impl_ArenaOk.mono _ _)
   | (with_reducible exact impl_hasInt.mono _ _ _)
   | (with_reducible exact impl_knotsOf.mono _ _ _)
   | (with_reducible exact LeO.refl _)
   | (with_reducible exact LeO.none _)
   | (with_reducible refine LeO.ite ?_ ?_)
   | (with_reducible refine LeO.bind ?_ (fun _=>?_))
   | exact ih0 _ _ _ _
   | exact ih1 _ _ _ _ _ _ _
   | exact ih2 _ _ _ _ _ _ _
   | exact ih3 _ _ _ _ _ _ _ _ _ _ _ _
   | exact impl_ArenaOk.mono _ _
   | exact impl_hasInt.mono _ _ _
   | exact impl_knotsOf.mono _ _ _
   | exact LeO.none _
   | refine LeO.ite ?_ ?_
   | refine LeO.bind ?_ (fun _=>?_)
def impl_StoreOk.T7 : Bool × List (List Nat × List Nat):=(true,[([],[]),([0],[0]),([1],[1]),([2],[2]),([3,2],[3]),([4],[4]),([5,4],[4,5]),([6,4,4],[4,6]),([7],[7]),([8,7],[7,8]),([7],[7]),([10,7],[7,10]),([9,11,7],[7,9,11]),([12,7],[7,12]),([13,7],[7,13]),([7],[7]),([15,7],[7,15]),([14,16,7],[7,14,16]),([7,17,4],[4,7,17]),([4,18],[4,18]),([19,7],[19]),([20],[20]),([21,20],[20,21]),([22,20],[20,22]),([23,20,20],[20,23]),([24],[24]),([25,24],[24,25]),([24],[24]),([27,24],[24,27]),([26,28,24,24],[24,26,28]),([29,24],[24,29]),([24,30,20],[20,24,30]),([20,31],[20,31])])
def impl_StoreOk.B7 : List Nat:=[0,1,3,7,15,31,63,127,255,511,255,1279,4095,8191,16383,255,33023,131071,262143,524287,1048575,2097151,4194303,8388607,16777215,33554431,67108863,33554431,167772159,536870911,1073741823,2147483647,4294967295]
theorem impl_StoreOk.tab7 : rtab .any (opsOf Try.f78 7) = impl_StoreOk.T7:=by kernel_rfl
theorem impl_StoreOk.bits7 : waitsOk impl_StoreOk.T7.2 impl_StoreOk.B7 = true:=by kernel_rfl
set_option maxHeartbeats 8000000 in
set_option maxRecDepth 100000 in
theorem impl_StoreOk.calls (k : Nat) (A0_0 : Option Addr) (c0_0 : Nat) (l0_0 : List (S147)) (A0_1 : Option Addr) (c0_1 : Nat) (l0_1 : List (S133)) (a0_2 : Int) (r : Bool) (w : World) (hr0_0 : Kd.C k147 w A0_0 l0_0.length l0_0) (hc0_0 : l0_0.length ≤ c0_0) (hr0_1 : Kd.C k133 w A0_1 l0_1.length l0_1) (hc0_1 : l0_1.length ≤ c0_1) (h : impl_StoreOk.f k l0_0 l0_1 a0_2 = some r) :
  Calls Try.prog 78 #[.agg #[.slice A0_0 l0_0.length c0_0,.slice A0_1 l0_1.length c0_1,.int .i64 a0_2]] w fun e w'=>e = .returned (.bool r) ∧ Below w.heap.size w w':=by
 have hu83:=Try.underlying83;have hu44:=Try.underlying44;have hu147:=Try.underlying147;have hu133:=Try.underlying133;have HR0_0:=Aside0.mk hr0_0;have HC0_0:=Aside0.mk hc0_0;clear hr0_0 hc0_0;have HR0_1:=Aside0.mk hr0_1;have HC0_1:=Aside0.mk hc0_1;clear hr0_1 hc0_1;have HB:=Aside0.mk (Below.refl w.heap.size w);have H : (if (l0_0.length : Int) > 3 then (impl_StoreOk.j0 k true l0_0 l0_1 a0_2) else ((impl_ArenaOk.f k l0_1).bind fun t1690=>(if t1690 = true then ((impl_in.f a0_2 1 1000000000).bind fun t1691=>(impl_StoreOk.j0 k (!t1691) l0_0 l0_1 a0_2)) else (impl_StoreOk.j0 k true l0_0 l0_1 a0_2)))) = some r:=h;clear h;have HC2:=Aside0.mk H;clear H
 go_enter Try.func78,Try.ntmps78
 go_upto_region 1 with (first | ((with_reducible refine gate_dst (N:=1) rfl ?_);refine box_event ?hg (N:=1) ?hd (cs:=#[.slice A0_0 l0_0.length c0_0,.slice A0_1 l0_1.length c0_1,.int .i64 a0_2]) (t:=83) ?hr ?_;(case hd=>rfl);(case hg=>rfl);(case hr=>first | (go_simp;done) | (go_simp;rfl));intro gb1689 hg w3 hbox hb;have n0_:=Aside0.mk (below_step (hs HB) hb);have n1_:=Aside0.mk (hbox);have n2_:=Aside0.mk ((by rw [hg];exact (below_size (hs HB)) : w.heap.size ≤ gb1689));have n3_:=Aside0.mk ((by rw [hg];exact (below_size (hs HB)) : w.heap.size ≤ gb1689));clear HB;have HB:=n0_;have BK1689:=n1_;have GW1689:=n2_;have GE1689:=n3_;clear n0_ n1_ n2_ n3_;clear hb hbox hg))
 (try simp only [Act.put,List.setIfInBounds_toArray,List.set_cons_zero,List.set_cons_succ])
 go_cut [25] (fun v25 wc=>∃ (kq : Nat) (x25_1 : Bool),v25 = .bool x25_1 ∧ Aside0 (impl_StoreOk.j0 kq x25_1 l0_0 l0_1 a0_2 = some r) ∧ Aside0 (kq ≤ k) ∧ Aside0 (wc.heap[gb1689]? = some (.cells #[(.slice A0_0 l0_0.length c0_0),(.slice A0_1 l0_1.length c0_1),.int .i64 a0_2] 83 (0,0))) ∧ Aside0 (Below w.heap.size w wc))
 case first =>
  have H:=HC2.out;clear HC2
  by_cases c4 : (l0_0.length : Int) > 3
  ·rw [if_pos c4] at H;have c4b0 : decide (3 < (l0_0.length : Int)) = true:=decide_eq_true c4;have c4b1 : decide (3 < l0_0.length) = true:=decide_eq_true (by omega);clear c4
   (first | rw [c4b0] | (simp only [i64_w,i32_w];rw [c4b0]) | skip)
   have H':=Aside0.mk H;clear H;have hcz5_0 : w3.cell? ⟨gb1689,0,none⟩ = some (.slice A0_0 l0_0.length c0_0):=(blk_cell BK1689.out 0).trans rfl;have hcz5_1 : w3.cell? ⟨gb1689,1,none⟩ = some (.slice A0_1 l0_1.length c0_1):=(blk_cell BK1689.out 1).trans rfl;have hcz5_2 : w3.cell? ⟨gb1689,2,none⟩ = some (.int .i64 a0_2):=(blk_cell BK1689.out 2).trans rfl;have hfz5_0:=blk_frozen BK1689.out 0;have hfz5_1:=blk_frozen BK1689.out 1;have hfz5_2:=blk_frozen BK1689.out 2
   go_wp2
   go_meet
   case rel=>exact ⟨_,(true),(by first | rfl | (simp;done) | (simp [*];done)),H',⟨by first | omega | exact Nat.le_refl _⟩,⟨bs BK1689⟩,⟨hs1 HB GE1689⟩⟩
  rw [if_neg c4] at H;have c4b0 : decide (3 < (l0_0.length : Int)) = false:=decide_eq_false c4;have c4b1 : decide (3 < l0_0.length) = false:=decide_eq_false (by omega);clear c4
  (first | rw [c4b0] | (simp only [i64_w,i32_w];rw [c4b0]) | skip)
  replace H:=Option.bind_eq_some_iff.mp H;obtain ⟨t1690,A60,H⟩:=H;replace H : (if t1690 = true then ((impl_in.f a0_2 1 1000000000).bind fun t1691=>(impl_StoreOk.j0 k (!t1691) l0_0 l0_1 a0_2)) else (impl_StoreOk.j0 k true l0_0 l0_1 a0_2)) = some r:=H;have A6:=Aside0.mk A60;clear A60
  by_cases c7 : t1690 = true
  ·subst c7;have H1 : ((impl_in.f a0_2 1 1000000000).bind fun t1691=>(impl_StoreOk.j0 k (!t1691) l0_0 l0_1 a0_2)) = some r:=by rw [if_pos rfl] at H;exact H
   clear H;have H:=H1;clear H1;replace H:=Option.bind_eq_some_iff.mp H;obtain ⟨t1691,A80,H⟩:=H;replace H : (impl_StoreOk.j0 k (!t1691) l0_0 l0_1 a0_2) = some r:=H;have A8:=Aside0.mk A80;clear A80;have H':=Aside0.mk H;clear H;have hcz9_0 : w3.cell? ⟨gb1689,0,none⟩ = some (.slice A0_0 l0_0.length c0_0):=(blk_cell BK1689.out 0).trans rfl;have hcz9_1 : w3.cell? ⟨gb1689,1,none⟩ = some (.slice A0_1 l0_1.length c0_1):=(blk_cell BK1689.out 1).trans rfl;have hcz9_2 : w3.cell? ⟨gb1689,2,none⟩ = some (.int .i64 a0_2):=(blk_cell BK1689.out 2).trans rfl;have hfz9_0:=blk_frozen BK1689.out 0;have hfz9_1:=blk_frozen BK1689.out 1;have hfz9_2:=blk_frozen BK1689.out 2;go_wp2_with (first | (go_at_call 25;(with_reducible refine (impl_ArenaOk.calls k _ _ l0_1 true _ ?side1 ?side2 A6.out).mono ?_);(case side1=>repeat (first | exact (Kd.C_below HR0_1.out HB.out) | (with_reducible refine Kd.C_alloc ?_ _) | (with_reducible refine Kd.C_drewN ?_ _) | (with_reducible refine Kd.C_drew ?_)));(case side2=>exact HC0_1.out);rintro e w10 ⟨rfl,hb⟩;have n0_:=Aside0.mk (blk_below (g:=gb1689) (o:=.cells #[.slice A0_0 l0_0.length c0_0,.slice A0_1 l0_1.length c0_1,.int .i64 a0_2] 83 (0,0)) (bs BK1689) hb);have n1_:=Aside0.mk (below_step (hs1 HB GE1689) hb);clear BK1689;clear HB;have BK1689:=n0_;have HB:=n1_;clear n0_ n1_;(try clear hb);(try clear hb2);(try clear hk);(try clear hi);have hcz11_0 : w10.cell? ⟨gb1689,0,none⟩ = some (.slice A0_0 l0_0.length c0_0):=(blk_cell BK1689.out 0).trans rfl;have hcz11_1 : w10.cell? ⟨gb1689,1,none⟩ = some (.slice A0_1 l0_1.length c0_1):=(blk_cell BK1689.out 1).trans rfl;have hcz11_2 : w10.cell? ⟨gb1689,2,none⟩ = some (.int .i64 a0_2):=(blk_cell BK1689.out 2).trans rfl;have hfz11_0:=blk_frozen BK1689.out 0;have hfz11_1:=blk_frozen BK1689.out 1;have hfz11_2:=blk_frozen BK1689.out 2) | (go_at_call 84;(with_reducible refine (impl_in.calls a0_2 1 1000000000 t1691 _ A8.out).mono ?_);rintro e w' ⟨rfl,⟨nd,rfl⟩⟩))
   go_meet
   case rel=>exact ⟨_,(!t1691),(by first | rfl | (simp;done) | (simp [*];done)),H',⟨by first | omega | exact Nat.le_refl _⟩,⟨bs BK1689⟩,⟨hs1 HB GE1689⟩⟩
  replace c7:=Bool.eq_false_iff.mpr c7;subst c7;have H1 : (impl_StoreOk.j0 k true l0_0 l0_1 a0_2) = some r:=by rw [if_neg (show ¬ (false = true) by decide)] at H;exact H
  clear H;have H:=H1;clear H1;have H':=Aside0.mk H;clear H;have hcz12_0 : w3.cell? ⟨gb1689,0,none⟩ = some (.slice A0_0 l0_0.length c0_0):=(blk_cell BK1689.out 0).trans rfl;have hcz12_1 : w3.cell? ⟨gb1689,1,none⟩ = some (.slice A0_1 l0_1.length c0_1):=(blk_cell BK1689.out 1).trans rfl;have hcz12_2 : w3.cell? ⟨gb1689,2,none⟩ = some (.int .i64 a0_2):=(blk_cell BK1689.out 2).trans rfl;have hfz12_0:=blk_frozen BK1689.out 0;have hfz12_1:=blk_frozen BK1689.out 1;have hfz12_2:=blk_frozen BK1689.out 2;go_wp2_with (first | (go_at_call 25;(with_reducible refine (impl_ArenaOk.calls k _ _ l0_1 false _ ?side1 ?side2 A6.out).mono ?_);(case side1=>repeat (first | exact (Kd.C_below HR0_1.out HB.out) | (with_reducible refine Kd.C_alloc ?_ _) | (with_reducible refine Kd.C_drewN ?_ _) | (with_reducible refine Kd.C_drew ?_)));(case side2=>exact HC0_1.out);rintro e w13 ⟨rfl,hb⟩;have n0_:=Aside0.mk (blk_below (g:=gb1689) (o:=.cells #[.slice A0_0 l0_0.length c0_0,.slice A0_1 l0_1.length c0_1,.int .i64 a0_2] 83 (0,0)) (bs BK1689) hb);have n1_:=Aside0.mk (below_step (hs1 HB GE1689) hb);clear BK1689;clear HB;have BK1689:=n0_;have HB:=n1_;clear n0_ n1_;(try clear hb);(try clear hb2);(try clear hk);(try clear hi)))
  go_meet
  case rel=>exact ⟨_,(true),(by first | rfl | (simp;done) | (simp [*];done)),H',⟨by first | omega | exact Nat.le_refl _⟩,⟨bs BK1689⟩,⟨hs1 HB GE1689⟩⟩
 case rest =>
  clear HC2
  try clear p2
  try clear c4
  try clear c4b0
  try clear c4b1
  try clear c7
  try clear hcz11_0
  try clear hcz11_1
  try clear hcz11_2
  try clear hcz12_0
  try clear hcz12_1
  try clear hcz12_2
  try clear hcz5_0
  try clear hcz5_1
  try clear hcz5_2
  try clear hcz9_0
  try clear hcz9_1
  try clear hcz9_2
  try clear hfz11_0
  try clear hfz11_1
  try clear hfz11_2
  try clear hfz12_0
  try clear hfz12_1
  try clear hfz12_2
  try clear hfz5_0
  try clear hfz5_1
  try clear hfz5_2
  try clear hfz9_0
  try clear hfz9_1
  try clear hfz9_2
  obtain ⟨kq,x25_1,rfl,HA,HJ1,BK1689,HB⟩:=hcut;cases kq with
  | zero=>exact absurd HA.out (by simp [impl_StoreOk.j0])
  | succ kj1 =>
   have H:=HA.out;clear HA;simp only [impl_StoreOk.j0] at H
   by_cases c14 : x25_1 = true
   ·subst c14;have H1 : (some false) = some r:=by rw [if_pos rfl] at H;exact H
    clear H;have H:=H1;clear H1;obtain rfl:=Option.some.inj H
    go_wp2
    go_ret
    exact ⟨by first | rfl | (simp [errW_none,errW_some] <;> rfl) | (simp [*,errW_none,errW_some] <;> rfl),hs1 HB GE1689⟩
   replace c14:=Bool.eq_false_iff.mpr c14;subst c14;have H1 : (impl_StoreOk.l0 kj1 ([] : List Int) l0_0 (l0_0.length : Int) 0 l0_0 l0_1 a0_2) = some r:=by rw [if_neg (show ¬ (false = true) by decide)] at H;exact H
   clear H;have H:=H1;clear H1;have H':=Aside0.mk H;clear H;have hcz15_0 : wc.cell? ⟨gb1689,0,none⟩ = some (.slice A0_0 l0_0.length c0_0):=(blk_cell BK1689.out 0).trans rfl;have hcz15_1 : wc.cell? ⟨gb1689,1,none⟩ = some (.slice A0_1 l0_1.length c0_1):=(blk_cell BK1689.out 1).trans rfl;have hcz15_2 : wc.cell? ⟨gb1689,2,none⟩ = some (.int .i64 a0_2):=(blk_cell BK1689.out 2).trans rfl;have hfz15_0:=blk_frozen BK1689.out 0;have hfz15_1:=blk_frozen BK1689.out 1;have hfz15_2:=blk_frozen BK1689.out 2
   go_wp2
   go_loopg [3,29] kj1 (fun kq v3 v29 w'=>∃ (x3_2 : List Int) (x29_2 : Int),v29 = .int .i64 x29_2 ∧ Aside0 (impl_StoreOk.l0 kq x3_2 l0_0 (l0_0.length : Int) x29_2 l0_0 l0_1 a0_2 = some r) ∧ Aside0 (kq ≤ kj1) ∧ Aside0 (Kd.R (Kd.int .i64) 3 w' w.heap.size (fun _=>True) v3 x3_2) ∧ Aside0 (w'.heap[gb1689]? = some (.cells #[(.slice A0_0 l0_0.length c0_0),(.slice A0_1 l0_1.length c0_1),.int .i64 a0_2] 83 (0,0))) ∧ Aside0 (Below w.heap.size w w'));case atStart=>exact ⟨(([] : List Int)),(0),(by first | rfl | (simp;done) | (simp [*];done)),H',⟨Nat.le_refl _⟩,⟨by first | exact Kd.R_nil _ _ _ _ _ | exact Kd.N_nil _ _ _ _ _ | exact Kd.V_nil _ _ _ _ _ | exact Kd.Q_nil _ _ _ _ _ | exact Kd.S_nil _ _ _ _ _⟩,⟨bs BK1689⟩,⟨hs1 HB GE1689⟩⟩
   case round =>
    clear H'
    try clear c1
    try clear p2
    try clear c4
    try clear c4b0
    try clear c4b1
    try clear c7
    try clear c14
    try clear hcz11_0
    try clear hcz11_1
    try clear hcz11_2
    try clear hcz12_0
    try clear hcz12_1
    try clear hcz12_2
    try clear hcz15_0
    try clear hcz15_1
    try clear hcz15_2
    try clear hcz5_0
    try clear hcz5_1
    try clear hcz5_2
    try clear hcz9_0
    try clear hcz9_1
    try clear hcz9_2
    try clear hfz11_0
    try clear hfz11_1
    try clear hfz11_2
    try clear hfz12_0
    try clear hfz12_1
    try clear hfz12_2
    try clear hfz15_0
    try clear hfz15_1
    try clear hfz15_2
    try clear hfz5_0
    try clear hfz5_1
    try clear hfz5_2
    try clear hfz9_0
    try clear hfz9_1
    try clear hfz9_2
    try clear p2
    obtain ⟨x3_2,x29_2,rfl,HA,HK2,HO_3,BK1689,HB⟩:=hrel;cases gk with
    | zero=>exact absurd HA.out (by simp [impl_StoreOk.l0])
    | succ k2 =>
     have H:=HA.out;clear HA;simp only [impl_StoreOk.l0] at H
     by_cases c16 : x29_2 < (l0_0.length : Int)
     ·rw [if_pos c16] at H;have c16b0 : decide (x29_2 < (l0_0.length : Int)) = true:=decide_eq_true c16;clear c16
      by_cases c17 : 0 ≤ x29_2
      ·rw [if_pos c17] at H;have c17b0 : decide (0 ≤ x29_2) = true:=decide_eq_true c17;clear c17
       by_cases c18 : x29_2 < (l0_0.length : Int)
       ·rw [if_pos c18] at H;have c18b0 : decide (x29_2 < (l0_0.length : Int)) = true:=decide_eq_true c18;clear c18;replace H:=Option.bind_eq_some_iff.mp H;obtain ⟨t1694,A190,H⟩:=H;replace H : (if t1694 = true then (if x29_2 > 0 then (if 0 ≤ (wrap64 (x29_2 - 1)) then (if (wrap64 (x29_2 - 1)) < (l0_0.length : Int) then (if ((rd_T147 l0_0 (wrap64 (x29_2 - 1))).f0) ≥ ((rd_T147 l0_0 x29_2).f0) then (some false) else (if ((rd_T147 l0_0 x29_2).f1) = (-1) then ((impl_knotsOf.f k2 l0_1 ((rd_T147 l0_0 x29_2).f1)).bind fun t1696=>(if x3_2.length + t1696.length < 17592186044416 then (impl_StoreOk.l0 k2 (x3_2 ++ t1696) l0_0 (l0_0.length : Int) (wrap64 (x29_2 + 1)) l0_0 l0_1 a0_2) else (none))) else ((impl_isRoot.f l0_1 ((rd_T147 l0_0 x29_2).f1)).bind fun t1702=>(if t1702 = true then ((impl_knotsOf.f k2 l0_1 ((rd_T147 l0_0 x29_2).f1)).bind fun t1703=>(if x3_2.length + t1703.length < 17592186044416 then (impl_StoreOk.l0 k2 (x3_2 ++ t1703) l0_0 (l0_0.length : Int) (wrap64 (x29_2 + 1)) l0_0 l0_1 a0_2) else (none))) else (some false))))) else (none)) else (none)) else (if ((rd_T147 l0_0 x29_2).f1) = (-1) then ((impl_knotsOf.f k2 l0_1 ((rd_T147 l0_0 x29_2).f1)).bind fun t1709=>(if x3_2.length + t1709.length < 17592186044416 then (impl_StoreOk.l0 k2 (x3_2 ++ t1709) l0_0 (l0_0.length : Int) (wrap64 (x29_2 + 1)) l0_0 l0_1 a0_2) else (none))) else ((impl_isRoot.f l0_1 ((rd_T147 l0_0 x29_2).f1)).bind fun t1715=>(if t1715 = true then ((impl_knotsOf.f k2 l0_1 ((rd_T147 l0_0 x29_2).f1)).bind fun t1716=>(if x3_2.length + t1716.length < 17592186044416 then (impl_StoreOk.l0 k2 (x3_2 ++ t1716) l0_0 (l0_0.length : Int) (wrap64 (x29_2 + 1)) l0_0 l0_1 a0_2) else (none))) else (some false))))) else (some false)) = some r:=H;have A19:=Aside0.mk A190;clear A190
        by_cases c20 : t1694 = true
        ·subst c20;have H1 : (if x29_2 > 0 then (if 0 ≤ (wrap64 (x29_2 - 1)) then (if (wrap64 (x29_2 - 1)) < (l0_0.length : Int) then (if ((rd_T147 l0_0 (wrap64 (x29_2 - 1))).f0) ≥ ((rd_T147 l0_0 x29_2).f0) then (some false) else (if ((rd_T147 l0_0 x29_2).f1) = (-1) then ((impl_knotsOf.f k2 l0_1 ((rd_T147 l0_0 x29_2).f1)).bind fun t1696=>(if x3_2.length + t1696.length < 17592186044416 then (impl_StoreOk.l0 k2 (x3_2 ++ t1696) l0_0 (l0_0.length : Int) (wrap64 (x29_2 + 1)) l0_0 l0_1 a0_2) else (none))) else ((impl_isRoot.f l0_1 ((rd_T147 l0_0 x29_2).f1)).bind fun t1702=>(if t1702 = true then ((impl_knotsOf.f k2 l0_1 ((rd_T147 l0_0 x29_2).f1)).bind fun t1703=>(if x3_2.length + t1703.length < 17592186044416 then (impl_StoreOk.l0 k2 (x3_2 ++ t1703) l0_0 (l0_0.length : Int) (wrap64 (x29_2 + 1)) l0_0 l0_1 a0_2) else (none))) else (some false))))) else (none)) else (none)) else (if ((rd_T147 l0_0 x29_2).f1) = (-1) then ((impl_knotsOf.f k2 l0_1 ((rd_T147 l0_0 x29_2).f1)).bind fun t1709=>(if x3_2.length + t1709.length < 17592186044416 then (impl_StoreOk.l0 k2 (x3_2 ++ t1709) l0_0 (l0_0.length : Int) (wrap64 (x29_2 + 1)) l0_0 l0_1 a0_2) else (none))) else ((impl_isRoot.f l0_1 ((rd_T147 l0_0 x29_2).f1)).bind fun t1715=>(if t1715 = true then ((impl_knotsOf.f k2 l0_1 ((rd_T147 l0_0 x29_2).f1)).bind fun t1716=>(if x3_2.length + t1716.length < 17592186044416 then (impl_StoreOk.l0 k2 (x3_2 ++ t1716) l0_0 (l0_0.length : Int) (wrap64 (x29_2 + 1)) l0_0 l0_1 a0_2) else (none))) else (some false))))) = some r:=by rw [if_pos rfl] at H;exact H
         clear H;have H:=H1;clear H1
         by_cases c21 : x29_2 > 0
         ·rw [if_pos c21] at H;have c21b0 : decide (0 < x29_2) = true:=decide_eq_true c21;clear c21;obtain ⟨ji22,hji22⟩ : ∃ j_ : Int,(wrap64 (x29_2 - 1)) = j_:=⟨_,rfl⟩;replace H : (if 0 ≤ (ji22) then (if (ji22) < (l0_0.length : Int) then (if ((rd_T147 l0_0 (ji22)).f0) ≥ ((rd_T147 l0_0 x29_2).f0) then (some false) else (if ((rd_T147 l0_0 x29_2).f1) = (-1) then ((impl_knotsOf.f k2 l0_1 ((rd_T147 l0_0 x29_2).f1)).bind fun t1696=>(if x3_2.length + t1696.length < 17592186044416 then (impl_StoreOk.l0 k2 (x3_2 ++ t1696) l0_0 (l0_0.length : Int) (wrap64 (x29_2 + 1)) l0_0 l0_1 a0_2) else (none))) else ((impl_isRoot.f l0_1 ((rd_T147 l0_0 x29_2).f1)).bind fun t1702=>(if t1702 = true then ((impl_knotsOf.f k2 l0_1 ((rd_T147 l0_0 x29_2).f1)).bind fun t1703=>(if x3_2.length + t1703.length < 17592186044416 then (impl_StoreOk.l0 k2 (x3_2 ++ t1703) l0_0 (l0_0.length : Int) (wrap64 (x29_2 + 1)) l0_0 l0_1 a0_2) else (none))) else (some false))))) else (none)) else (none)) = some r:=by first | (rw [hji22] at H;exact H) | (simp only [hji22] at H ⊢;exact H)
          (try rw [hji22] at A19)
          have hji22w : (IntKind.i64.wrap (x29_2 - 1)) = ji22:=(i64_w _).trans hji22
          by_cases c23 : 0 ≤ (ji22)
          ·rw [if_pos c23] at H;have c23b0 : decide (0 ≤ (ji22)) = true:=decide_eq_true c23;clear c23
           by_cases c24 : (ji22) < (l0_0.length : Int)
           ·rw [if_pos c24] at H;have c24b0 : decide ((ji22) < (l0_0.length : Int)) = true:=decide_eq_true c24;clear c24
            by_cases c25 : ((rd_T147 l0_0 (ji22)).f0) ≥ ((rd_T147 l0_0 x29_2).f0)
            ·rw [if_pos c25] at H;have c25b0 : decide (((rd_T147 l0_0 x29_2).f0) ≤ ((rd_T147 l0_0 (ji22)).f0)) = true:=decide_eq_true c25;clear c25;obtain rfl:=Option.some.inj H;have p1692 : 0 ≤ (x29_2 : Int):=of_decide_eq_true (by first | (with_reducible assumption) | assumption);have q1692 : x29_2 < (l0_0.length : Int):=of_decide_eq_true (by first | (with_reducible assumption) | assumption);obtain ⟨ad1692,e1692,hx1692_0,hx1692_1⟩:=at_T147 HR0_0.out x29_2 p1692 q1692;cases e1692;replace hx1692_0:=(HB.out.cell (World.block_lt_of_cell? w _ hx1692_0)).trans hx1692_0;replace hx1692_1:=(HB.out.cell (World.block_lt_of_cell? w _ hx1692_1)).trans hx1692_1;replace p1692:=eq_true p1692;replace q1692:=eq_true q1692
             try go_wp2_with (first | ((with_reducible refine gate_dst (N:=5) rfl ?_);refine box_event ?hg (N:=5) ?hd (cs:=#[.int .i64 0,.int .i64 0]) (t:=147) ?hr ?_;(case hd=>rfl);(case hg=>rfl);(case hr=>first | (go_simp;done) | (go_simp;rfl));intro gb1693 hg w26 hbox hb;have n0_:=Aside0.mk (Kd.R_below (rs HO_3) hb);have n1_:=Aside0.mk (blk_below (g:=gb1689) (o:=.cells #[.slice (some ad1692) l0_0.length c0_0,.slice A0_1 l0_1.length c0_1,.int .i64 a0_2] 83 (0,0)) (bs BK1689) hb);have n2_:=Aside0.mk (below_step (hs1 HB GE1689) hb);have n3_:=Aside0.mk (hbox);have n4_:=Aside0.mk ((by rw [hg];exact (below_size (hs1 HB GE1689)) : w.heap.size ≤ gb1693));have n5_:=Aside0.mk ((by rw [hg];exact (below_size (hs1 HB GE1689)) : w.heap.size ≤ gb1693));have n6_:=Aside0.mk ((by rw [hg];exact Nat.ne_of_lt (blk_lt (g:=gb1689) (o:=.cells #[.slice (some ad1692) l0_0.length c0_0,.slice A0_1 l0_1.length c0_1,.int .i64 a0_2] 83 (0,0)) (bs BK1689)) : gb1689 ≠ gb1693));have n7_:=Aside0.mk ((by rw [hg];exact Nat.ne_of_gt (blk_lt (g:=gb1689) (o:=.cells #[.slice (some ad1692) l0_0.length c0_0,.slice A0_1 l0_1.length c0_1,.int .i64 a0_2] 83 (0,0)) (bs BK1689)) : gb1693 ≠ gb1689));clear HO_3;clear BK1689;clear HB;have HO_3:=n0_;have BK1689:=n1_;have HB:=n2_;have BK1693:=n3_;have GW1693:=n4_;have GE1693:=n5_;have NB1689_1693:=n6_;have NB1693_1689:=n7_;clear n0_ n1_ n2_ n3_ n4_ n5_ n6_ n7_;clear hb hbox hg;have hnb27:=NB1693_1689.out;have hnc27:=NB1689_1693.out;have hcz28_0 : w26.cell? ⟨gb1693,0,none⟩ = some (.int .i64 0):=(blk_cell BK1693.out 0).trans rfl;have hcz28_1 : w26.cell? ⟨gb1693,1,none⟩ = some (.int .i64 0):=(blk_cell BK1693.out 1).trans rfl;have hfz28_0:=blk_frozen BK1693.out 0;have hfz28_1:=blk_frozen BK1693.out 1))
             have n0_ : Aside0 (Kd.R (Kd.int .i64) 3 ((w26.setCell ⟨gb1693,0,none⟩ (.int .i64 ((rd_T147 l0_0 x29_2).f0))).setCell ⟨gb1693,1,none⟩ (.int .i64 ((rd_T147 l0_0 x29_2).f1))) w.heap.size (fun _=>True) u3 x3_2):=⟨by (with_reducible repeat (first | apply Kd.R_alloc | apply Kd.R_drewN | apply Kd.R_drew));exact Kd.R_mono (Kd.R_far (p:=⟨gb1693,1,none⟩) (Kd.R_far (p:=⟨gb1693,0,none⟩) (Kd.R_types HO_3.out BK1693.out (by decide)) (fun _ hk=>hk.2) (.int .i64 ((rd_T147 l0_0 x29_2).f0))) (fun _ hk=>hk.2) (.int .i64 ((rd_T147 l0_0 x29_2).f1))) (fun _ hk=>trivial)⟩;have n1_ : Aside0 (((w26.setCell ⟨gb1693,0,none⟩ (.int .i64 ((rd_T147 l0_0 x29_2).f0))).setCell ⟨gb1693,1,none⟩ (.int .i64 ((rd_T147 l0_0 x29_2).f1))).heap[gb1689]? = some (.cells #[.slice (some ad1692) l0_0.length c0_0,.slice A0_1 l0_1.length c0_1,.int .i64 a0_2] 83 (0,0))):=⟨by (with_reducible repeat (first | refine blk_drewN ?_ _ | refine blk_drew ?_ | refine blk_alloc ?_ _));refine blk_far ?_ NB1689_1693.out _;(with_reducible repeat (first | refine blk_drewN ?_ _ | refine blk_drew ?_ | refine blk_alloc ?_ _));refine blk_far ?_ NB1689_1693.out _;(with_reducible repeat (first | refine blk_drewN ?_ _ | refine blk_drew ?_ | refine blk_alloc ?_ _));exact BK1689.out⟩;have n2_ : Aside0 (((w26.setCell ⟨gb1693,0,none⟩ (.int .i64 ((rd_T147 l0_0 x29_2).f0))).setCell ⟨gb1693,1,none⟩ (.int .i64 ((rd_T147 l0_0 x29_2).f1))).heap[gb1693]? = some (.cells #[.int .i64 ((rd_T147 l0_0 x29_2).f0),.int .i64 ((rd_T147 l0_0 x29_2).f1)] 147 (0,0))):=⟨by (with_reducible repeat (first | refine blk_drewN ?_ _ | refine blk_drew ?_ | refine blk_alloc ?_ _));refine blk_put (cs:=#[.int .i64 ((rd_T147 l0_0 x29_2).f0),.int .i64 0]) ?_ 1 _ rfl;(with_reducible repeat (first | refine blk_drewN ?_ _ | refine blk_drew ?_ | refine blk_alloc ?_ _));refine blk_put (cs:=#[.int .i64 0,.int .i64 0]) ?_ 0 _ rfl;(with_reducible repeat (first | refine blk_drewN ?_ _ | refine blk_drew ?_ | refine blk_alloc ?_ _));exact BK1693.out⟩;have n3_ : Aside0 (Below w.heap.size w ((w26.setCell ⟨gb1693,0,none⟩ (.int .i64 ((rd_T147 l0_0 x29_2).f0))).setCell ⟨gb1693,1,none⟩ (.int .i64 ((rd_T147 l0_0 x29_2).f1)))):=⟨hs2 HB GE1689 GE1693⟩
             (try clear HO_3)
             (try clear BK1689)
             (try clear BK1693)
             (try clear HB)
             generalize ((w26.setCell ⟨gb1693,0,none⟩ (.int .i64 ((rd_T147 l0_0 x29_2).f0))).setCell ⟨gb1693,1,none⟩ (.int .i64 ((rd_T147 l0_0 x29_2).f1))) = w29 at n0_ n1_ n2_ n3_ ⊢;have HO_3:=n0_;have BK1689:=n1_;have BK1693:=n2_;have HB:=n3_;clear n0_ n1_ n2_ n3_;have n0_:=Aside0.mk (Kd.R_drew HO_3.out);have n1_:=Aside0.mk (blk_drew BK1689.out);have n2_:=Aside0.mk (blk_drew BK1693.out);have n3_:=Aside0.mk (below_drew1 HB.out);clear HO_3;clear BK1689;clear BK1693;clear HB;have HO_3:=n0_;have BK1689:=n1_;have BK1693:=n2_;have HB:=n3_;clear n0_ n1_ n2_ n3_;have p1695 : 0 ≤ ((ji22) : Int):=of_decide_eq_true (by first | (with_reducible assumption) | assumption);have q1695 : (ji22) < (l0_0.length : Int):=of_decide_eq_true (by first | (with_reducible assumption) | assumption);obtain ⟨ad1695,e1695,hx1695_0,hx1695_1⟩:=at_T147 HR0_0.out (ji22) p1695 q1695;have hw1695_1:=hx1695_1;have hw1695_0:=hx1695_0;obtain rfl : ad1692 = ad1695:=(by injection e1695);replace hx1695_0:=(HB.out.cell (World.block_lt_of_cell? w _ hx1695_0)).trans hx1695_0;replace hx1695_1:=(HB.out.cell (World.block_lt_of_cell? w _ hx1695_1)).trans hx1695_1;replace p1695:=eq_true p1695;replace q1695:=eq_true q1695;refine start_ (n:=33) (S:=fun w'=>w'.cell? ⟨gb1693,0,none⟩ = some (.int .i64 ((rd_T147 l0_0 x29_2).f0)) ∧ w'.cell? ⟨gb1693,1,none⟩ = some (.int .i64 ((rd_T147 l0_0 x29_2).f1)) ∧ w'.cell? ⟨gb1689,0,none⟩ = some (.slice (some ad1692) l0_0.length c0_0) ∧ w'.cell? ⟨gb1689,1,none⟩ = some (.slice A0_1 l0_1.length c0_1) ∧ w'.cell? ⟨gb1689,2,none⟩ = some (.int .i64 a0_2) ∧ w'.cell? (ad1692.add (((ji22)).toNat * 2)) = some (.int .i64 ((rd_T147 l0_0 (ji22)).f0)) ∧ w'.cell? ⟨(ad1692.add (((ji22)).toNat * 2)).block,(ad1692.add (((ji22)).toNat * 2)).off + 1,none⟩ = some (.int .i64 ((rd_T147 l0_0 (ji22)).f1))) (ds:=[]) #[false,false,false,false,false,false,false,false,false,false,false,false,false,false,false,false,false,false,false,false,false,false,false,false,false,false,false,false,false,false,false,false,false] (by kernel_rfl) rfl rfl ⟨(blk_cell BK1693.out 0).trans rfl,(blk_cell BK1693.out 1).trans rfl,(blk_cell BK1689.out 0).trans rfl,(blk_cell BK1689.out 1).trans rfl,(blk_cell BK1689.out 2).trans rfl,((HB.out.cell (World.block_lt_of_cell? w _ hw1695_0)).trans hw1695_0),((HB.out.cell (World.block_lt_of_cell? w _ hw1695_1)).trans hw1695_1)⟩ (fun hHeld=>?_);refine with_tabW impl_StoreOk.tab7 impl_StoreOk.bits7 (fun HT_ HW_=>?_);generalize w29.drew = w30 at HO_3 BK1689 BK1693 HB hx1695_0 hx1695_1 hHeld ⊢;refine pure_ (i:=0) (N:=some 34) (v:=?_) (a':=?_) #[true,false,false,false,false,false,false,false,false,false,false,false,false,false,false,false,false,false,false,false,false,false,false,false,false,false,false,false,false,false,false,false,false] rfl rfl (any_of HT_.out (by kernel_rfl)) (fun _ _ _ h=>h) (Or.inl ⟨by rfl,?_⟩) ?_ ?_;rotate_left
             ·intro w';go_simp;with_reducible rfl
             rotate_left
             ·simp only [Act.put,List.setIfInBounds_toArray,List.set_cons_zero,List.set_cons_succ,i64_w,i32_w];rfl
             refine take_ (i:=1) (N:=some 35) (v:=?_) (a':=?_) #[true,true,false,false,false,false,false,false,false,false,false,false,false,false,false,false,false,false,false,false,false,false,false,false,false,false,false,false,false,false,false,false,false] rfl rfl (take_ofW HT_.out HW_.out (by kernel_rfl)) (fun _ _ _ h=>h) (Or.inl ⟨by rfl,?_⟩) hHeld ?_ ?_;rotate_left
             ·rintro w' ⟨s0,s1,s2,s3,s4,s5,s6⟩;go_simp;with_reducible rfl
             rotate_left
             ·simp only [Act.put,List.setIfInBounds_toArray,List.set_cons_zero,List.set_cons_succ,i64_w,i32_w];rfl
             refine one_ (i:=2) (N:=some 36) #[true,true,true,false,false,false,false,false,false,false,false,false,false,false,false,false,false,false,false,false,false,false,false,false,false,false,false,false,false,false,false,false,false] rfl rfl (one_of HT_.out (by kernel_rfl)) (by decide) (fun K hK=>?_);refine goes_ Try.func84 (by kernel_rfl) rfl #[.int .i64 ((rd_T147 l0_0 x29_2).f0),.int .i64 1,.int .i64 9] (by rfl) rfl rfl (by (try simp only [List.map_toArray,List.map_cons,List.map_nil]);first | done | rfl | (simp only [List.length_drop,List.length_take];rfl)) ?_;with_reducible refine (impl_in.calls ((rd_T147 l0_0 x29_2).f0) 1 9 true _ A19.out).mono ?_
             rintro e w' ⟨rfl,⟨nd,rfl⟩⟩;refine ⟨_,rfl,?_⟩;refine hK.out _ _ ⟨(blk_cell BK1693.out 0).trans rfl,(blk_cell BK1693.out 1).trans rfl,(blk_cell BK1689.out 0).trans rfl,(blk_cell BK1689.out 1).trans rfl,(blk_cell BK1689.out 2).trans rfl,((HB.out.cell (World.block_lt_of_cell? w _ hw1695_0)).trans hw1695_0),((HB.out.cell (World.block_lt_of_cell? w _ hw1695_1)).trans hw1695_1)⟩ (fun hHeld=>?_);clear hK K;refine norm_ (a':=?_) ?_ ?_;rotate_left
             ·show Act.put _ (some 36) _ = _;simp only [Act.put,List.setIfInBounds_toArray,List.set_cons_zero,List.set_cons_succ,i64_w,i32_w];rfl
             refine pure_ (i:=3) (N:=some 37) (v:=?_) (a':=?_) #[true,true,true,true,false,false,false,false,false,false,false,false,false,false,false,false,false,false,false,false,false,false,false,false,false,false,false,false,false,false,false,false,false] rfl rfl (any_of HT_.out (by kernel_rfl)) (fun _ _ _ h=>h) (Or.inl ⟨by rfl,?_⟩) ?_ ?_;rotate_left
             ·intro w';go_simp;with_reducible rfl
             rotate_left
             ·simp only [Act.put,List.setIfInBounds_toArray,List.set_cons_zero,List.set_cons_succ,i64_w,i32_w];rfl
             refine pure_ (i:=4) (N:=some 38) (v:=?_) (a':=?_) #[true,true,true,true,true,false,false,false,false,false,false,false,false,false,false,false,false,false,false,false,false,false,false,false,false,false,false,false,false,false,false,false,false] rfl rfl (any_of HT_.out (by kernel_rfl)) (fun _ _ _ h=>h) (Or.inl ⟨by rfl,?_⟩) ?_ ?_;rotate_left
             ·intro w';go_simp;with_reducible rfl
             rotate_left
             ·simp only [Act.put,List.setIfInBounds_toArray,List.set_cons_zero,List.set_cons_succ,i64_w,i32_w];rfl
             refine pure_ (i:=5) (N:=some 39) (v:=?_) (a':=?_) #[true,true,true,true,true,true,false,false,false,false,false,false,false,false,false,false,false,false,false,false,false,false,false,false,false,false,false,false,false,false,false,false,false] rfl rfl (any_of HT_.out (by kernel_rfl)) (fun _ _ _ h=>h) (Or.inl ⟨by rfl,?_⟩) ?_ ?_;rotate_left
             ·intro w';go_simp;with_reducible rfl
             rotate_left
             ·simp only [Act.put,List.setIfInBounds_toArray,List.set_cons_zero,List.set_cons_succ,i64_w,i32_w];rfl
             refine pure_ (i:=6) (N:=some 40) (v:=?_) (a':=?_) #[true,true,true,true,true,true,true,false,false,false,false,false,false,false,false,false,false,false,false,false,false,false,false,false,false,false,false,false,false,false,false,false,false] rfl rfl (any_of HT_.out (by kernel_rfl)) (fun _ _ _ h=>h) (Or.inl ⟨by rfl,?_⟩) ?_ ?_;rotate_left
             ·intro w';go_simp;with_reducible rfl
             rotate_left
             ·simp only [Act.put,List.setIfInBounds_toArray,List.set_cons_zero,List.set_cons_succ,i64_w,i32_w];rfl
             refine pure_ (i:=7) (N:=some 41) (v:=?_) (a':=?_) #[true,true,true,true,true,true,true,true,false,false,false,false,false,false,false,false,false,false,false,false,false,false,false,false,false,false,false,false,false,false,false,false,false] rfl rfl (any_of HT_.out (by kernel_rfl)) (fun _ _ _ h=>h) (Or.inl ⟨by rfl,?_⟩) ?_ ?_;rotate_left
             ·intro w';go_simp;with_reducible rfl
             rotate_left
             ·simp only [Act.put,List.setIfInBounds_toArray,List.set_cons_zero,List.set_cons_succ,i64_w,i32_w];rfl
             refine pure_ (i:=8) (N:=some 42) (v:=?_) (a':=?_) #[true,true,true,true,true,true,true,true,true,false,false,false,false,false,false,false,false,false,false,false,false,false,false,false,false,false,false,false,false,false,false,false,false] rfl rfl (any_of HT_.out (by kernel_rfl)) (fun _ _ _ h=>h) (Or.inl ⟨by rfl,?_⟩) ?_ ?_;rotate_left
             ·intro w';go_simp;with_reducible rfl
             rotate_left
             ·simp only [Act.put,List.setIfInBounds_toArray,List.set_cons_zero,List.set_cons_succ,i64_w,i32_w];rfl
             refine pure_ (i:=10) (N:=some 44) (v:=?_) (a':=?_) #[true,true,true,true,true,true,true,true,true,false,true,false,false,false,false,false,false,false,false,false,false,false,false,false,false,false,false,false,false,false,false,false,false] rfl rfl (any_of HT_.out (by kernel_rfl)) (fun _ _ _ h=>h) (Or.inl ⟨by rfl,?_⟩) ?_ ?_;rotate_left
             ·intro w';go_simp;with_reducible rfl
             rotate_left
             ·simp only [Act.put,List.setIfInBounds_toArray,List.set_cons_zero,List.set_cons_succ,i64_w,i32_w];rfl
             refine pure_ (i:=11) (N:=some 45) (v:=?_) (a':=?_) #[true,true,true,true,true,true,true,true,true,false,true,true,false,false,false,false,false,false,false,false,false,false,false,false,false,false,false,false,false,false,false,false,false] rfl rfl (any_of HT_.out (by kernel_rfl)) (fun _ _ _ h=>h) (Or.inl ⟨by rfl,?_⟩) ?_ ?_;rotate_left
             ·intro w';go_simp;with_reducible rfl
             rotate_left
             ·simp only [Act.put,List.setIfInBounds_toArray,List.set_cons_zero,List.set_cons_succ,i64_w,i32_w];rfl
             refine pure_ (i:=15) (N:=some 49) (v:=?_) (a':=?_) #[true,true,true,true,true,true,true,true,true,false,true,true,false,false,false,true,false,false,false,false,false,false,false,false,false,false,false,false,false,false,false,false,false] rfl rfl (any_of HT_.out (by kernel_rfl)) (fun _ _ _ h=>h) (Or.inl ⟨by rfl,?_⟩) ?_ ?_;rotate_left
             ·intro w';go_simp;with_reducible rfl
             rotate_left
             ·simp only [Act.put,List.setIfInBounds_toArray,List.set_cons_zero,List.set_cons_succ,i64_w,i32_w];rfl
             refine take_ (i:=9) (N:=some 43) (v:=?_) (a':=?_) #[true,true,true,true,true,true,true,true,true,true,true,true,false,false,false,true,false,false,false,false,false,false,false,false,false,false,false,false,false,false,false,false,false] rfl rfl (take_ofW HT_.out HW_.out (by kernel_rfl)) (fun _ _ _ h=>h) (Or.inl ⟨by rfl,?_⟩) hHeld ?_ ?_;rotate_left
             ·rintro w' ⟨s0,s1,s2,s3,s4,s5,s6⟩;go_simp;with_reducible rfl
             rotate_left
             ·simp only [Act.put,List.setIfInBounds_toArray,List.set_cons_zero,List.set_cons_succ,i64_w,i32_w];rfl
             refine pure_ (i:=12) (N:=some 46) (v:=?_) (a':=?_) #[true,true,true,true,true,true,true,true,true,true,true,true,true,false,false,true,false,false,false,false,false,false,false,false,false,false,false,false,false,false,false,false,false] rfl rfl (any_of HT_.out (by kernel_rfl)) (fun _ _ _ h=>h) (Or.inl ⟨by rfl,?_⟩) ?_ ?_;rotate_left
             ·intro w';go_simp;with_reducible rfl
             rotate_left
             ·simp only [Act.put,List.setIfInBounds_toArray,List.set_cons_zero,List.set_cons_succ,i64_w,i32_w];rfl
             refine pure_ (i:=13) (N:=some 47) (v:=?_) (a':=?_) #[true,true,true,true,true,true,true,true,true,true,true,true,true,true,false,true,false,false,false,false,false,false,false,false,false,false,false,false,false,false,false,false,false] rfl rfl (any_of HT_.out (by kernel_rfl)) (fun _ _ _ h=>h) (Or.inl ⟨by rfl,?_⟩) ?_ ?_;rotate_left
             ·intro w';go_simp;with_reducible rfl
             rotate_left
             ·simp only [Act.put,List.setIfInBounds_toArray,List.set_cons_zero,List.set_cons_succ,i64_w,i32_w];rfl
             refine take_ (i:=14) (N:=some 48) (v:=?_) (a':=?_) #[true,true,true,true,true,true,true,true,true,true,true,true,true,true,true,true,false,false,false,false,false,false,false,false,false,false,false,false,false,false,false,false,false] rfl rfl (take_ofW HT_.out HW_.out (by kernel_rfl)) (fun _ _ _ h=>h) (Or.inl ⟨by rfl,?_⟩) hHeld ?_ ?_;rotate_left
             ·rintro w' ⟨s0,s1,s2,s3,s4,s5,s6⟩;go_simp;with_reducible rfl
             rotate_left
             ·simp only [Act.put,List.setIfInBounds_toArray,List.set_cons_zero,List.set_cons_succ,i64_w,i32_w];rfl
             refine take_ (i:=16) (N:=some 50) (v:=?_) (a':=?_) #[true,true,true,true,true,true,true,true,true,true,true,true,true,true,true,true,true,false,false,false,false,false,false,false,false,false,false,false,false,false,false,false,false] rfl rfl (take_ofW HT_.out HW_.out (by kernel_rfl)) (fun _ _ _ h=>h) (Or.inl ⟨by rfl,?_⟩) hHeld ?_ ?_;rotate_left
             ·rintro w' ⟨s0,s1,s2,s3,s4,s5,s6⟩;go_simp;with_reducible rfl
             rotate_left
             ·simp only [Act.put,List.setIfInBounds_toArray,List.set_cons_zero,List.set_cons_succ,i64_w,i32_w];rfl
             refine pure_ (i:=17) (N:=some 51) (v:=?_) (a':=?_) #[true,true,true,true,true,true,true,true,true,true,true,true,true,true,true,true,true,true,false,false,false,false,false,false,false,false,false,false,false,false,false,false,false] rfl rfl (any_of HT_.out (by kernel_rfl)) (fun _ _ _ h=>h) (Or.inl ⟨by rfl,?_⟩) ?_ ?_;rotate_left
             ·intro w';go_simp;with_reducible rfl
             rotate_left
             ·simp only [Act.put,List.setIfInBounds_toArray,List.set_cons_zero,List.set_cons_succ,i64_w,i32_w];rfl
             refine pure_ (i:=18) (N:=some 52) (v:=?_) (a':=?_) #[true,true,true,true,true,true,true,true,true,true,true,true,true,true,true,true,true,true,true,false,false,false,false,false,false,false,false,false,false,false,false,false,false] rfl rfl (any_of HT_.out (by kernel_rfl)) (fun _ _ _ h=>h) (Or.inl ⟨by rfl,?_⟩) ?_ ?_;rotate_left
             ·intro w';go_simp;with_reducible rfl
             rotate_left
             ·simp only [Act.put,List.setIfInBounds_toArray,List.set_cons_zero,List.set_cons_succ,i64_w,i32_w];rfl
             refine pure_ (i:=19) (N:=some 53) (v:=?_) (a':=?_) #[true,true,true,true,true,true,true,true,true,true,true,true,true,true,true,true,true,true,true,true,false,false,false,false,false,false,false,false,false,false,false,false,false] rfl rfl (any_of HT_.out (by kernel_rfl)) (fun _ _ _ h=>h) (Or.inl ⟨by rfl,?_⟩) ?_ ?_;rotate_left
             ·intro w';go_simp;with_reducible rfl
             rotate_left
             ·simp only [Act.put,List.setIfInBounds_toArray,List.set_cons_zero,List.set_cons_succ,i64_w,i32_w];rfl
             refine pure_ (i:=20) (N:=some 54) (v:=?_) (a':=?_) #[true,true,true,true,true,true,true,true,true,true,true,true,true,true,true,true,true,true,true,true,true,false,false,false,false,false,false,false,false,false,false,false,false] rfl rfl (any_of HT_.out (by kernel_rfl)) (fun _ _ _ h=>h) (Or.inl ⟨by rfl,?_⟩) ?_ ?_;rotate_left
             ·intro w';go_simp;with_reducible rfl
             rotate_left
             ·simp only [Act.put,List.setIfInBounds_toArray,List.set_cons_zero,List.set_cons_succ,i64_w,i32_w];rfl
             refine pure_ (i:=21) (N:=some 55) (v:=undef) (a':=?_) #[true,true,true,true,true,true,true,true,true,true,true,true,true,true,true,true,true,true,true,true,true,true,false,false,false,false,false,false,false,false,false,false,false] rfl rfl (any_of HT_.out (by kernel_rfl)) (fun _ _ _ h=>h) (Or.inr ⟨by rfl,rfl⟩) ?_ ?_;rotate_left
             ·simp only [Act.put,List.setIfInBounds_toArray,List.set_cons_zero,List.set_cons_succ,i64_w,i32_w];rfl
             refine pure_ (i:=22) (N:=some 56) (v:=undef) (a':=?_) #[true,true,true,true,true,true,true,true,true,true,true,true,true,true,true,true,true,true,true,true,true,true,true,false,false,false,false,false,false,false,false,false,false] rfl rfl (any_of HT_.out (by kernel_rfl)) (fun _ _ _ h=>h) (Or.inr ⟨by rfl,rfl⟩) ?_ ?_;rotate_left
             ·simp only [Act.put,List.setIfInBounds_toArray,List.set_cons_zero,List.set_cons_succ,i64_w,i32_w];rfl
             refine pure_ (i:=23) (N:=some 57) (v:=undef) (a':=?_) #[true,true,true,true,true,true,true,true,true,true,true,true,true,true,true,true,true,true,true,true,true,true,true,true,false,false,false,false,false,false,false,false,false] rfl rfl (any_of HT_.out (by kernel_rfl)) (fun _ _ _ h=>h) (Or.inr ⟨by rfl,rfl⟩) ?_ ?_;rotate_left
             ·simp only [Act.put,List.setIfInBounds_toArray,List.set_cons_zero,List.set_cons_succ,i64_w,i32_w];rfl
             refine pure_ (i:=24) (N:=some 58) (v:=undef) (a':=?_) #[true,true,true,true,true,true,true,true,true,true,true,true,true,true,true,true,true,true,true,true,true,true,true,true,true,false,false,false,false,false,false,false,false] rfl rfl (any_of HT_.out (by kernel_rfl)) (fun _ _ _ h=>h) (Or.inr ⟨by rfl,rfl⟩) ?_ ?_;rotate_left
             ·simp only [Act.put,List.setIfInBounds_toArray,List.set_cons_zero,List.set_cons_succ,i64_w,i32_w];rfl
             refine pure_ (i:=25) (N:=some 59) (v:=undef) (a':=?_) #[true,true,true,true,true,true,true,true,true,true,true,true,true,true,true,true,true,true,true,true,true,true,true,true,true,true,false,false,false,false,false,false,false] rfl rfl (any_of HT_.out (by kernel_rfl)) (fun _ _ _ h=>h) (Or.inr ⟨by rfl,rfl⟩) ?_ ?_;rotate_left
             ·simp only [Act.put,List.setIfInBounds_toArray,List.set_cons_zero,List.set_cons_succ,i64_w,i32_w];rfl
             refine pure_ (i:=26) (N:=some 60) (v:=undef) (a':=?_) #[true,true,true,true,true,true,true,true,true,true,true,true,true,true,true,true,true,true,true,true,true,true,true,true,true,true,true,false,false,false,false,false,false] rfl rfl (any_of HT_.out (by kernel_rfl)) (fun _ _ _ h=>h) (Or.inr ⟨by rfl,rfl⟩) ?_ ?_;rotate_left
             ·simp only [Act.put,List.setIfInBounds_toArray,List.set_cons_zero,List.set_cons_succ,i64_w,i32_w];rfl
             refine pure_ (i:=27) (N:=some 61) (v:=undef) (a':=?_) #[true,true,true,true,true,true,true,true,true,true,true,true,true,true,true,true,true,true,true,true,true,true,true,true,true,true,true,true,false,false,false,false,false] rfl rfl (any_of HT_.out (by kernel_rfl)) (fun _ _ _ h=>h) (Or.inr ⟨by rfl,rfl⟩) ?_ ?_;rotate_left
             ·simp only [Act.put,List.setIfInBounds_toArray,List.set_cons_zero,List.set_cons_succ,i64_w,i32_w];rfl
             refine pure_ (i:=28) (N:=some 62) (v:=undef) (a':=?_) #[true,true,true,true,true,true,true,true,true,true,true,true,true,true,true,true,true,true,true,true,true,true,true,true,true,true,true,true,true,false,false,false,false] rfl rfl (any_of HT_.out (by kernel_rfl)) (fun _ _ _ h=>h) (Or.inr ⟨by rfl,rfl⟩) ?_ ?_;rotate_left
             ·simp only [Act.put,List.setIfInBounds_toArray,List.set_cons_zero,List.set_cons_succ,i64_w,i32_w];rfl
             refine pure_ (i:=29) (N:=some 63) (v:=undef) (a':=?_) #[true,true,true,true,true,true,true,true,true,true,true,true,true,true,true,true,true,true,true,true,true,true,true,true,true,true,true,true,true,true,false,false,false] rfl rfl (any_of HT_.out (by kernel_rfl)) (fun _ _ _ h=>h) (Or.inr ⟨by rfl,rfl⟩) ?_ ?_;rotate_left
             ·simp only [Act.put,List.setIfInBounds_toArray,List.set_cons_zero,List.set_cons_succ,i64_w,i32_w];rfl
             refine pure_ (i:=30) (N:=some 64) (v:=undef) (a':=?_) #[true,true,true,true,true,true,true,true,true,true,true,true,true,true,true,true,true,true,true,true,true,true,true,true,true,true,true,true,true,true,true,false,false] rfl rfl (any_of HT_.out (by kernel_rfl)) (fun _ _ _ h=>h) (Or.inr ⟨by rfl,rfl⟩) ?_ ?_;rotate_left
             ·simp only [Act.put,List.setIfInBounds_toArray,List.set_cons_zero,List.set_cons_succ,i64_w,i32_w];rfl
             refine pure_ (i:=31) (N:=some 65) (v:=undef) (a':=?_) #[true,true,true,true,true,true,true,true,true,true,true,true,true,true,true,true,true,true,true,true,true,true,true,true,true,true,true,true,true,true,true,true,false] rfl rfl (any_of HT_.out (by kernel_rfl)) (fun _ _ _ h=>h) (Or.inr ⟨by rfl,rfl⟩) ?_ ?_;rotate_left
             ·simp only [Act.put,List.setIfInBounds_toArray,List.set_cons_zero,List.set_cons_succ,i64_w,i32_w];rfl
             refine pure_ (i:=32) (N:=some 66) (v:=?_) (a':=?_) #[true,true,true,true,true,true,true,true,true,true,true,true,true,true,true,true,true,true,true,true,true,true,true,true,true,true,true,true,true,true,true,true,true] rfl rfl (any_of HT_.out (by kernel_rfl)) (fun _ _ _ h=>h) (Or.inl ⟨by rfl,?_⟩) ?_ ?_;rotate_left
             ·intro w';go_simp;with_reducible rfl
             rotate_left
             ·simp only [Act.put,List.setIfInBounds_toArray,List.set_cons_zero,List.set_cons_succ,i64_w,i32_w];rfl
             refine done_ (done_of HT_.out (by kernel_rfl)) ?_
             try go_wp2
             go_ret
             exact ⟨by first | rfl | (simp [errW_none,errW_some] <;> rfl) | (simp only [← hji22];first | rfl | (simp [errW_none,errW_some] <;> rfl)) | (simp [*,errW_none,errW_some] <;> rfl),hs2 HB GE1689 GE1693⟩
            rw [if_neg c25] at H;have c25b0 : decide (((rd_T147 l0_0 x29_2).f0) ≤ ((rd_T147 l0_0 (ji22)).f0)) = false:=decide_eq_false c25;clear c25
            by_cases c31 : ((rd_T147 l0_0 x29_2).f1) = (-1)
            ·rw [if_pos c31] at H;have c31b0 : (((rd_T147 l0_0 x29_2).f1) == (-1)) = true:=beq_iff_eq.mpr c31;have c31b1 : (((rd_T147 l0_0 x29_2).f1) != (-1)) = false:=bne_eq_false_iff_eq.mpr c31;clear c31;replace H:=Option.bind_eq_some_iff.mp H;obtain ⟨t1696,A320,H⟩:=H;replace H : (if x3_2.length + t1696.length < 17592186044416 then (impl_StoreOk.l0 k2 (x3_2 ++ t1696) l0_0 (l0_0.length : Int) (wrap64 (x29_2 + 1)) l0_0 l0_1 a0_2) else (none)) = some r:=H;have A32:=Aside0.mk A320;clear A320
             by_cases c33 : x3_2.length + t1696.length < 17592186044416
             ·rw [if_pos c33] at H;have LMc33:=Aside0.mk c33;clear c33;obtain ⟨y1699,hy1699⟩ : ∃ y_ : List Int,y_ = (x3_2 ++ t1696):=⟨_,rfl⟩;replace H : (impl_StoreOk.l0 k2 y1699 l0_0 (l0_0.length : Int) (wrap64 (x29_2 + 1)) l0_0 l0_1 a0_2) = some r:=by first | (rw [hy1699];with_reducible exact H) | (have H2_:=(Option.bind_some _ _).symm.trans H;rw [hy1699];with_reducible exact H2_) | (have H2_:=(Option.bind_some _ _).symm.trans H;with_reducible exact H2_) | with_reducible exact H | (rw [hy1699];exact H) | exact H
              have Ny1699:=Aside0.mk hy1699;clear hy1699;have H':=Aside0.mk H;clear H;have p1692 : 0 ≤ (x29_2 : Int):=of_decide_eq_true (by first | (with_reducible assumption) | assumption);have q1692 : x29_2 < (l0_0.length : Int):=of_decide_eq_true (by first | (with_reducible assumption) | assumption);obtain ⟨ad1692,e1692,hx1692_0,hx1692_1⟩:=at_T147 HR0_0.out x29_2 p1692 q1692;cases e1692;replace hx1692_0:=(HB.out.cell (World.block_lt_of_cell? w _ hx1692_0)).trans hx1692_0;replace hx1692_1:=(HB.out.cell (World.block_lt_of_cell? w _ hx1692_1)).trans hx1692_1;replace p1692:=eq_true p1692;replace q1692:=eq_true q1692
              try go_wp2_with (first | ((with_reducible refine gate_dst (N:=5) rfl ?_);refine box_event ?hg (N:=5) ?hd (cs:=#[.int .i64 0,.int .i64 0]) (t:=147) ?hr ?_;(case hd=>rfl);(case hg=>rfl);(case hr=>first | (go_simp;done) | (go_simp;rfl));intro gb1693 hg w34 hbox hb;have n0_:=Aside0.mk (Kd.R_below (rs HO_3) hb);have n1_:=Aside0.mk (blk_below (g:=gb1689) (o:=.cells #[.slice (some ad1692) l0_0.length c0_0,.slice A0_1 l0_1.length c0_1,.int .i64 a0_2] 83 (0,0)) (bs BK1689) hb);have n2_:=Aside0.mk (below_step (hs1 HB GE1689) hb);have n3_:=Aside0.mk (hbox);have n4_:=Aside0.mk ((by rw [hg];exact (below_size (hs1 HB GE1689)) : w.heap.size ≤ gb1693));have n5_:=Aside0.mk ((by rw [hg];exact (below_size (hs1 HB GE1689)) : w.heap.size ≤ gb1693));have n6_:=Aside0.mk ((by rw [hg];exact Nat.ne_of_lt (blk_lt (g:=gb1689) (o:=.cells #[.slice (some ad1692) l0_0.length c0_0,.slice A0_1 l0_1.length c0_1,.int .i64 a0_2] 83 (0,0)) (bs BK1689)) : gb1689 ≠ gb1693));have n7_:=Aside0.mk ((by rw [hg];exact Nat.ne_of_gt (blk_lt (g:=gb1689) (o:=.cells #[.slice (some ad1692) l0_0.length c0_0,.slice A0_1 l0_1.length c0_1,.int .i64 a0_2] 83 (0,0)) (bs BK1689)) : gb1693 ≠ gb1689));clear HO_3;clear BK1689;clear HB;have HO_3:=n0_;have BK1689:=n1_;have HB:=n2_;have BK1693:=n3_;have GW1693:=n4_;have GE1693:=n5_;have NB1689_1693:=n6_;have NB1693_1689:=n7_;clear n0_ n1_ n2_ n3_ n4_ n5_ n6_ n7_;clear hb hbox hg;have hnb35:=NB1693_1689.out;have hnc35:=NB1689_1693.out;have hcz36_0 : w34.cell? ⟨gb1693,0,none⟩ = some (.int .i64 0):=(blk_cell BK1693.out 0).trans rfl;have hcz36_1 : w34.cell? ⟨gb1693,1,none⟩ = some (.int .i64 0):=(blk_cell BK1693.out 1).trans rfl;have hfz36_0:=blk_frozen BK1693.out 0;have hfz36_1:=blk_frozen BK1693.out 1))
              have n0_ : Aside0 (Kd.R (Kd.int .i64) 3 ((w34.setCell ⟨gb1693,0,none⟩ (.int .i64 ((rd_T147 l0_0 x29_2).f0))).setCell ⟨gb1693,1,none⟩ (.int .i64 ((rd_T147 l0_0 x29_2).f1))) w.heap.size (fun _=>True) u3 x3_2):=⟨by (with_reducible repeat (first | apply Kd.R_alloc | apply Kd.R_drewN | apply Kd.R_drew));exact Kd.R_mono (Kd.R_far (p:=⟨gb1693,1,none⟩) (Kd.R_far (p:=⟨gb1693,0,none⟩) (Kd.R_types HO_3.out BK1693.out (by decide)) (fun _ hk=>hk.2) (.int .i64 ((rd_T147 l0_0 x29_2).f0))) (fun _ hk=>hk.2) (.int .i64 ((rd_T147 l0_0 x29_2).f1))) (fun _ hk=>trivial)⟩;have n1_ : Aside0 (((w34.setCell ⟨gb1693,0,none⟩ (.int .i64 ((rd_T147 l0_0 x29_2).f0))).setCell ⟨gb1693,1,none⟩ (.int .i64 ((rd_T147 l0_0 x29_2).f1))).heap[gb1689]? = some (.cells #[.slice (some ad1692) l0_0.length c0_0,.slice A0_1 l0_1.length c0_1,.int .i64 a0_2] 83 (0,0))):=⟨by (with_reducible repeat (first | refine blk_drewN ?_ _ | refine blk_drew ?_ | refine blk_alloc ?_ _));refine blk_far ?_ NB1689_1693.out _;(with_reducible repeat (first | refine blk_drewN ?_ _ | refine blk_drew ?_ | refine blk_alloc ?_ _));refine blk_far ?_ NB1689_1693.out _;(with_reducible repeat (first | refine blk_drewN ?_ _ | refine blk_drew ?_ | refine blk_alloc ?_ _));exact BK1689.out⟩;have n2_ : Aside0 (((w34.setCell ⟨gb1693,0,none⟩ (.int .i64 ((rd_T147 l0_0 x29_2).f0))).setCell ⟨gb1693,1,none⟩ (.int .i64 ((rd_T147 l0_0 x29_2).f1))).heap[gb1693]? = some (.cells #[.int .i64 ((rd_T147 l0_0 x29_2).f0),.int .i64 ((rd_T147 l0_0 x29_2).f1)] 147 (0,0))):=⟨by (with_reducible repeat (first | refine blk_drewN ?_ _ | refine blk_drew ?_ | refine blk_alloc ?_ _));refine blk_put (cs:=#[.int .i64 ((rd_T147 l0_0 x29_2).f0),.int .i64 0]) ?_ 1 _ rfl;(with_reducible repeat (first | refine blk_drewN ?_ _ | refine blk_drew ?_ | refine blk_alloc ?_ _));refine blk_put (cs:=#[.int .i64 0,.int .i64 0]) ?_ 0 _ rfl;(with_reducible repeat (first | refine blk_drewN ?_ _ | refine blk_drew ?_ | refine blk_alloc ?_ _));exact BK1693.out⟩;have n3_ : Aside0 (Below w.heap.size w ((w34.setCell ⟨gb1693,0,none⟩ (.int .i64 ((rd_T147 l0_0 x29_2).f0))).setCell ⟨gb1693,1,none⟩ (.int .i64 ((rd_T147 l0_0 x29_2).f1)))):=⟨hs2 HB GE1689 GE1693⟩
              (try clear HO_3)
              (try clear BK1689)
              (try clear BK1693)
              (try clear HB)
              generalize ((w34.setCell ⟨gb1693,0,none⟩ (.int .i64 ((rd_T147 l0_0 x29_2).f0))).setCell ⟨gb1693,1,none⟩ (.int .i64 ((rd_T147 l0_0 x29_2).f1))) = w37 at n0_ n1_ n2_ n3_ ⊢;have HO_3:=n0_;have BK1689:=n1_;have BK1693:=n2_;have HB:=n3_;clear n0_ n1_ n2_ n3_;have n0_:=Aside0.mk (Kd.R_drew HO_3.out);have n1_:=Aside0.mk (blk_drew BK1689.out);have n2_:=Aside0.mk (blk_drew BK1693.out);have n3_:=Aside0.mk (below_drew1 HB.out);clear HO_3;clear BK1689;clear BK1693;clear HB;have HO_3:=n0_;have BK1689:=n1_;have BK1693:=n2_;have HB:=n3_;clear n0_ n1_ n2_ n3_;have p1695 : 0 ≤ ((ji22) : Int):=of_decide_eq_true (by first | (with_reducible assumption) | assumption);have q1695 : (ji22) < (l0_0.length : Int):=of_decide_eq_true (by first | (with_reducible assumption) | assumption);obtain ⟨ad1695,e1695,hx1695_0,hx1695_1⟩:=at_T147 HR0_0.out (ji22) p1695 q1695;have hw1695_1:=hx1695_1;have hw1695_0:=hx1695_0;obtain rfl : ad1692 = ad1695:=(by injection e1695);replace hx1695_0:=(HB.out.cell (World.block_lt_of_cell? w _ hx1695_0)).trans hx1695_0;replace hx1695_1:=(HB.out.cell (World.block_lt_of_cell? w _ hx1695_1)).trans hx1695_1;replace p1695:=eq_true p1695;replace q1695:=eq_true q1695;refine start_ (n:=33) (S:=fun w'=>w'.cell? ⟨gb1693,0,none⟩ = some (.int .i64 ((rd_T147 l0_0 x29_2).f0)) ∧ w'.cell? ⟨gb1693,1,none⟩ = some (.int .i64 ((rd_T147 l0_0 x29_2).f1)) ∧ w'.cell? ⟨gb1689,0,none⟩ = some (.slice (some ad1692) l0_0.length c0_0) ∧ w'.cell? ⟨gb1689,1,none⟩ = some (.slice A0_1 l0_1.length c0_1) ∧ w'.cell? ⟨gb1689,2,none⟩ = some (.int .i64 a0_2) ∧ w'.cell? (ad1692.add (((ji22)).toNat * 2)) = some (.int .i64 ((rd_T147 l0_0 (ji22)).f0)) ∧ w'.cell? ⟨(ad1692.add (((ji22)).toNat * 2)).block,(ad1692.add (((ji22)).toNat * 2)).off + 1,none⟩ = some (.int .i64 ((rd_T147 l0_0 (ji22)).f1))) (ds:=[]) #[false,false,false,false,false,false,false,false,false,false,false,false,false,false,false,false,false,false,false,false,false,false,false,false,false,false,false,false,false,false,false,false,false] (by kernel_rfl) rfl rfl ⟨(blk_cell BK1693.out 0).trans rfl,(blk_cell BK1693.out 1).trans rfl,(blk_cell BK1689.out 0).trans rfl,(blk_cell BK1689.out 1).trans rfl,(blk_cell BK1689.out 2).trans rfl,((HB.out.cell (World.block_lt_of_cell? w _ hw1695_0)).trans hw1695_0),((HB.out.cell (World.block_lt_of_cell? w _ hw1695_1)).trans hw1695_1)⟩ (fun hHeld=>?_);refine with_tabW impl_StoreOk.tab7 impl_StoreOk.bits7 (fun HT_ HW_=>?_);generalize w37.drew = w38 at HO_3 BK1689 BK1693 HB hx1695_0 hx1695_1 hHeld ⊢;refine pure_ (i:=0) (N:=some 34) (v:=?_) (a':=?_) #[true,false,false,false,false,false,false,false,false,false,false,false,false,false,false,false,false,false,false,false,false,false,false,false,false,false,false,false,false,false,false,false,false] rfl rfl (any_of HT_.out (by kernel_rfl)) (fun _ _ _ h=>h) (Or.inl ⟨by rfl,?_⟩) ?_ ?_;rotate_left
              ·intro w';go_simp;with_reducible rfl
              rotate_left
              ·simp only [Act.put,List.setIfInBounds_toArray,List.set_cons_zero,List.set_cons_succ,i64_w,i32_w];rfl
              refine take_ (i:=1) (N:=some 35) (v:=?_) (a':=?_) #[true,true,false,false,false,false,false,false,false,false,false,false,false,false,false,false,false,false,false,false,false,false,false,false,false,false,false,false,false,false,false,false,false] rfl rfl (take_ofW HT_.out HW_.out (by kernel_rfl)) (fun _ _ _ h=>h) (Or.inl ⟨by rfl,?_⟩) hHeld ?_ ?_;rotate_left
              ·rintro w' ⟨s0,s1,s2,s3,s4,s5,s6⟩;go_simp;with_reducible rfl
              rotate_left
              ·simp only [Act.put,List.setIfInBounds_toArray,List.set_cons_zero,List.set_cons_succ,i64_w,i32_w];rfl
              refine one_ (i:=2) (N:=some 36) #[true,true,true,false,false,false,false,false,false,false,false,false,false,false,false,false,false,false,false,false,false,false,false,false,false,false,false,false,false,false,false,false,false] rfl rfl (one_of HT_.out (by kernel_rfl)) (by decide) (fun K hK=>?_);refine goes_ Try.func84 (by kernel_rfl) rfl #[.int .i64 ((rd_T147 l0_0 x29_2).f0),.int .i64 1,.int .i64 9] (by rfl) rfl rfl (by (try simp only [List.map_toArray,List.map_cons,List.map_nil]);first | done | rfl | (simp only [List.length_drop,List.length_take];rfl)) ?_;with_reducible refine (impl_in.calls ((rd_T147 l0_0 x29_2).f0) 1 9 true _ A19.out).mono ?_
              rintro e w' ⟨rfl,⟨nd,rfl⟩⟩;refine ⟨_,rfl,?_⟩;refine hK.out _ _ ⟨(blk_cell BK1693.out 0).trans rfl,(blk_cell BK1693.out 1).trans rfl,(blk_cell BK1689.out 0).trans rfl,(blk_cell BK1689.out 1).trans rfl,(blk_cell BK1689.out 2).trans rfl,((HB.out.cell (World.block_lt_of_cell? w _ hw1695_0)).trans hw1695_0),((HB.out.cell (World.block_lt_of_cell? w _ hw1695_1)).trans hw1695_1)⟩ (fun hHeld=>?_);clear hK K;refine norm_ (a':=?_) ?_ ?_;rotate_left
              ·show Act.put _ (some 36) _ = _;simp only [Act.put,List.setIfInBounds_toArray,List.set_cons_zero,List.set_cons_succ,i64_w,i32_w];rfl
              refine pure_ (i:=3) (N:=some 37) (v:=?_) (a':=?_) #[true,true,true,true,false,false,false,false,false,false,false,false,false,false,false,false,false,false,false,false,false,false,false,false,false,false,false,false,false,false,false,false,false] rfl rfl (any_of HT_.out (by kernel_rfl)) (fun _ _ _ h=>h) (Or.inl ⟨by rfl,?_⟩) ?_ ?_;rotate_left
              ·intro w';go_simp;with_reducible rfl
              rotate_left
              ·simp only [Act.put,List.setIfInBounds_toArray,List.set_cons_zero,List.set_cons_succ,i64_w,i32_w];rfl
              refine pure_ (i:=4) (N:=some 38) (v:=?_) (a':=?_) #[true,true,true,true,true,false,false,false,false,false,false,false,false,false,false,false,false,false,false,false,false,false,false,false,false,false,false,false,false,false,false,false,false] rfl rfl (any_of HT_.out (by kernel_rfl)) (fun _ _ _ h=>h) (Or.inl ⟨by rfl,?_⟩) ?_ ?_;rotate_left
              ·intro w';go_simp;with_reducible rfl
              rotate_left
              ·simp only [Act.put,List.setIfInBounds_toArray,List.set_cons_zero,List.set_cons_succ,i64_w,i32_w];rfl
              refine pure_ (i:=5) (N:=some 39) (v:=?_) (a':=?_) #[true,true,true,true,true,true,false,false,false,false,false,false,false,false,false,false,false,false,false,false,false,false,false,false,false,false,false,false,false,false,false,false,false] rfl rfl (any_of HT_.out (by kernel_rfl)) (fun _ _ _ h=>h) (Or.inl ⟨by rfl,?_⟩) ?_ ?_;rotate_left
              ·intro w';go_simp;with_reducible rfl
              rotate_left
              ·simp only [Act.put,List.setIfInBounds_toArray,List.set_cons_zero,List.set_cons_succ,i64_w,i32_w];rfl
              refine pure_ (i:=6) (N:=some 40) (v:=?_) (a':=?_) #[true,true,true,true,true,true,true,false,false,false,false,false,false,false,false,false,false,false,false,false,false,false,false,false,false,false,false,false,false,false,false,false,false] rfl rfl (any_of HT_.out (by kernel_rfl)) (fun _ _ _ h=>h) (Or.inl ⟨by rfl,?_⟩) ?_ ?_;rotate_left
              ·intro w';go_simp;with_reducible rfl
              rotate_left
              ·simp only [Act.put,List.setIfInBounds_toArray,List.set_cons_zero,List.set_cons_succ,i64_w,i32_w];rfl
              refine pure_ (i:=7) (N:=some 41) (v:=?_) (a':=?_) #[true,true,true,true,true,true,true,true,false,false,false,false,false,false,false,false,false,false,false,false,false,false,false,false,false,false,false,false,false,false,false,false,false] rfl rfl (any_of HT_.out (by kernel_rfl)) (fun _ _ _ h=>h) (Or.inl ⟨by rfl,?_⟩) ?_ ?_;rotate_left
              ·intro w';go_simp;with_reducible rfl
              rotate_left
              ·simp only [Act.put,List.setIfInBounds_toArray,List.set_cons_zero,List.set_cons_succ,i64_w,i32_w];rfl
              refine pure_ (i:=8) (N:=some 42) (v:=?_) (a':=?_) #[true,true,true,true,true,true,true,true,true,false,false,false,false,false,false,false,false,false,false,false,false,false,false,false,false,false,false,false,false,false,false,false,false] rfl rfl (any_of HT_.out (by kernel_rfl)) (fun _ _ _ h=>h) (Or.inl ⟨by rfl,?_⟩) ?_ ?_;rotate_left
              ·intro w';go_simp;with_reducible rfl
              rotate_left
              ·simp only [Act.put,List.setIfInBounds_toArray,List.set_cons_zero,List.set_cons_succ,i64_w,i32_w];rfl
              refine pure_ (i:=10) (N:=some 44) (v:=?_) (a':=?_) #[true,true,true,true,true,true,true,true,true,false,true,false,false,false,false,false,false,false,false,false,false,false,false,false,false,false,false,false,false,false,false,false,false] rfl rfl (any_of HT_.out (by kernel_rfl)) (fun _ _ _ h=>h) (Or.inl ⟨by rfl,?_⟩) ?_ ?_;rotate_left
              ·intro w';go_simp;with_reducible rfl
              rotate_left
              ·simp only [Act.put,List.setIfInBounds_toArray,List.set_cons_zero,List.set_cons_succ,i64_w,i32_w];rfl
              refine pure_ (i:=11) (N:=some 45) (v:=?_) (a':=?_) #[true,true,true,true,true,true,true,true,true,false,true,true,false,false,false,false,false,false,false,false,false,false,false,false,false,false,false,false,false,false,false,false,false] rfl rfl (any_of HT_.out (by kernel_rfl)) (fun _ _ _ h=>h) (Or.inl ⟨by rfl,?_⟩) ?_ ?_;rotate_left
              ·intro w';go_simp;with_reducible rfl
              rotate_left
              ·simp only [Act.put,List.setIfInBounds_toArray,List.set_cons_zero,List.set_cons_succ,i64_w,i32_w];rfl
              refine pure_ (i:=15) (N:=some 49) (v:=?_) (a':=?_) #[true,true,true,true,true,true,true,true,true,false,true,true,false,false,false,true,false,false,false,false,false,false,false,false,false,false,false,false,false,false,false,false,false] rfl rfl (any_of HT_.out (by kernel_rfl)) (fun _ _ _ h=>h) (Or.inl ⟨by rfl,?_⟩) ?_ ?_;rotate_left
              ·intro w';go_simp;with_reducible rfl
              rotate_left
              ·simp only [Act.put,List.setIfInBounds_toArray,List.set_cons_zero,List.set_cons_succ,i64_w,i32_w];rfl
              refine take_ (i:=9) (N:=some 43) (v:=?_) (a':=?_) #[true,true,true,true,true,true,true,true,true,true,true,true,false,false,false,true,false,false,false,false,false,false,false,false,false,false,false,false,false,false,false,false,false] rfl rfl (take_ofW HT_.out HW_.out (by kernel_rfl)) (fun _ _ _ h=>h) (Or.inl ⟨by rfl,?_⟩) hHeld ?_ ?_;rotate_left
              ·rintro w' ⟨s0,s1,s2,s3,s4,s5,s6⟩;go_simp;with_reducible rfl
              rotate_left
              ·simp only [Act.put,List.setIfInBounds_toArray,List.set_cons_zero,List.set_cons_succ,i64_w,i32_w];rfl
              refine pure_ (i:=12) (N:=some 46) (v:=?_) (a':=?_) #[true,true,true,true,true,true,true,true,true,true,true,true,true,false,false,true,false,false,false,false,false,false,false,false,false,false,false,false,false,false,false,false,false] rfl rfl (any_of HT_.out (by kernel_rfl)) (fun _ _ _ h=>h) (Or.inl ⟨by rfl,?_⟩) ?_ ?_;rotate_left
              ·intro w';go_simp;with_reducible rfl
              rotate_left
              ·simp only [Act.put,List.setIfInBounds_toArray,List.set_cons_zero,List.set_cons_succ,i64_w,i32_w];rfl
              refine pure_ (i:=13) (N:=some 47) (v:=?_) (a':=?_) #[true,true,true,true,true,true,true,true,true,true,true,true,true,true,false,true,false,false,false,false,false,false,false,false,false,false,false,false,false,false,false,false,false] rfl rfl (any_of HT_.out (by kernel_rfl)) (fun _ _ _ h=>h) (Or.inl ⟨by rfl,?_⟩) ?_ ?_;rotate_left
              ·intro w';go_simp;with_reducible rfl
              rotate_left
              ·simp only [Act.put,List.setIfInBounds_toArray,List.set_cons_zero,List.set_cons_succ,i64_w,i32_w];rfl
              refine take_ (i:=14) (N:=some 48) (v:=?_) (a':=?_) #[true,true,true,true,true,true,true,true,true,true,true,true,true,true,true,true,false,false,false,false,false,false,false,false,false,false,false,false,false,false,false,false,false] rfl rfl (take_ofW HT_.out HW_.out (by kernel_rfl)) (fun _ _ _ h=>h) (Or.inl ⟨by rfl,?_⟩) hHeld ?_ ?_;rotate_left
              ·rintro w' ⟨s0,s1,s2,s3,s4,s5,s6⟩;go_simp;with_reducible rfl
              rotate_left
              ·simp only [Act.put,List.setIfInBounds_toArray,List.set_cons_zero,List.set_cons_succ,i64_w,i32_w];rfl
              refine take_ (i:=16) (N:=some 50) (v:=?_) (a':=?_) #[true,true,true,true,true,true,true,true,true,true,true,true,true,true,true,true,true,false,false,false,false,false,false,false,false,false,false,false,false,false,false,false,false] rfl rfl (take_ofW HT_.out HW_.out (by kernel_rfl)) (fun _ _ _ h=>h) (Or.inl ⟨by rfl,?_⟩) hHeld ?_ ?_;rotate_left
              ·rintro w' ⟨s0,s1,s2,s3,s4,s5,s6⟩;go_simp;with_reducible rfl
              rotate_left
              ·simp only [Act.put,List.setIfInBounds_toArray,List.set_cons_zero,List.set_cons_succ,i64_w,i32_w];rfl
              refine pure_ (i:=17) (N:=some 51) (v:=?_) (a':=?_) #[true,true,true,true,true,true,true,true,true,true,true,true,true,true,true,true,true,true,false,false,false,false,false,false,false,false,false,false,false,false,false,false,false] rfl rfl (any_of HT_.out (by kernel_rfl)) (fun _ _ _ h=>h) (Or.inl ⟨by rfl,?_⟩) ?_ ?_;rotate_left
              ·intro w';go_simp;with_reducible rfl
              rotate_left
              ·simp only [Act.put,List.setIfInBounds_toArray,List.set_cons_zero,List.set_cons_succ,i64_w,i32_w];rfl
              refine pure_ (i:=18) (N:=some 52) (v:=?_) (a':=?_) #[true,true,true,true,true,true,true,true,true,true,true,true,true,true,true,true,true,true,true,false,false,false,false,false,false,false,false,false,false,false,false,false,false] rfl rfl (any_of HT_.out (by kernel_rfl)) (fun _ _ _ h=>h) (Or.inl ⟨by rfl,?_⟩) ?_ ?_;rotate_left
              ·intro w';go_simp;with_reducible rfl
              rotate_left
              ·simp only [Act.put,List.setIfInBounds_toArray,List.set_cons_zero,List.set_cons_succ,i64_w,i32_w];rfl
              refine pure_ (i:=19) (N:=some 53) (v:=?_) (a':=?_) #[true,true,true,true,true,true,true,true,true,true,true,true,true,true,true,true,true,true,true,true,false,false,false,false,false,false,false,false,false,false,false,false,false] rfl rfl (any_of HT_.out (by kernel_rfl)) (fun _ _ _ h=>h) (Or.inl ⟨by rfl,?_⟩) ?_ ?_;rotate_left
              ·intro w';go_simp;with_reducible rfl
              rotate_left
              ·simp only [Act.put,List.setIfInBounds_toArray,List.set_cons_zero,List.set_cons_succ,i64_w,i32_w];rfl
              refine pure_ (i:=20) (N:=some 54) (v:=?_) (a':=?_) #[true,true,true,true,true,true,true,true,true,true,true,true,true,true,true,true,true,true,true,true,true,false,false,false,false,false,false,false,false,false,false,false,false] rfl rfl (any_of HT_.out (by kernel_rfl)) (fun _ _ _ h=>h) (Or.inl ⟨by rfl,?_⟩) ?_ ?_;rotate_left
              ·intro w';go_simp;with_reducible rfl
              rotate_left
              ·simp only [Act.put,List.setIfInBounds_toArray,List.set_cons_zero,List.set_cons_succ,i64_w,i32_w];rfl
              refine pure_ (i:=21) (N:=some 55) (v:=?_) (a':=?_) #[true,true,true,true,true,true,true,true,true,true,true,true,true,true,true,true,true,true,true,true,true,true,false,false,false,false,false,false,false,false,false,false,false] rfl rfl (any_of HT_.out (by kernel_rfl)) (fun _ _ _ h=>h) (Or.inl ⟨by rfl,?_⟩) ?_ ?_;rotate_left
              ·intro w';go_simp;with_reducible rfl
              rotate_left
              ·simp only [Act.put,List.setIfInBounds_toArray,List.set_cons_zero,List.set_cons_succ,i64_w,i32_w];rfl
              refine take_ (i:=22) (N:=some 56) (v:=?_) (a':=?_) #[true,true,true,true,true,true,true,true,true,true,true,true,true,true,true,true,true,true,true,true,true,true,true,false,false,false,false,false,false,false,false,false,false] rfl rfl (take_ofW HT_.out HW_.out (by kernel_rfl)) (fun _ _ _ h=>h) (Or.inl ⟨by rfl,?_⟩) hHeld ?_ ?_;rotate_left
              ·rintro w' ⟨s0,s1,s2,s3,s4,s5,s6⟩;go_simp;with_reducible rfl
              rotate_left
              ·simp only [Act.put,List.setIfInBounds_toArray,List.set_cons_zero,List.set_cons_succ,i64_w,i32_w];rfl
              refine pure_ (i:=23) (N:=some 57) (v:=?_) (a':=?_) #[true,true,true,true,true,true,true,true,true,true,true,true,true,true,true,true,true,true,true,true,true,true,true,true,false,false,false,false,false,false,false,false,false] rfl rfl (any_of HT_.out (by kernel_rfl)) (fun _ _ _ h=>h) (Or.inl ⟨by rfl,?_⟩) ?_ ?_;rotate_left
              ·intro w';go_simp;with_reducible rfl
              rotate_left
              ·simp only [Act.put,List.setIfInBounds_toArray,List.set_cons_zero,List.set_cons_succ,i64_w,i32_w];rfl
              refine pure_ (i:=24) (N:=some 58) (v:=?_) (a':=?_) #[true,true,true,true,true,true,true,true,true,true,true,true,true,true,true,true,true,true,true,true,true,true,true,true,true,false,false,false,false,false,false,false,false] rfl rfl (any_of HT_.out (by kernel_rfl)) (fun _ _ _ h=>h) (Or.inl ⟨by rfl,?_⟩) ?_ ?_;rotate_left
              ·intro w';go_simp;with_reducible rfl
              rotate_left
              ·simp only [Act.put,List.setIfInBounds_toArray,List.set_cons_zero,List.set_cons_succ,i64_w,i32_w];rfl
              refine pure_ (i:=25) (N:=some 59) (v:=undef) (a':=?_) #[true,true,true,true,true,true,true,true,true,true,true,true,true,true,true,true,true,true,true,true,true,true,true,true,true,true,false,false,false,false,false,false,false] rfl rfl (any_of HT_.out (by kernel_rfl)) (fun _ _ _ h=>h) (Or.inr ⟨by rfl,rfl⟩) ?_ ?_;rotate_left
              ·simp only [Act.put,List.setIfInBounds_toArray,List.set_cons_zero,List.set_cons_succ,i64_w,i32_w];rfl
              refine pure_ (i:=26) (N:=some 60) (v:=undef) (a':=?_) #[true,true,true,true,true,true,true,true,true,true,true,true,true,true,true,true,true,true,true,true,true,true,true,true,true,true,true,false,false,false,false,false,false] rfl rfl (any_of HT_.out (by kernel_rfl)) (fun _ _ _ h=>h) (Or.inr ⟨by rfl,rfl⟩) ?_ ?_;rotate_left
              ·simp only [Act.put,List.setIfInBounds_toArray,List.set_cons_zero,List.set_cons_succ,i64_w,i32_w];rfl
              refine pure_ (i:=27) (N:=some 61) (v:=undef) (a':=?_) #[true,true,true,true,true,true,true,true,true,true,true,true,true,true,true,true,true,true,true,true,true,true,true,true,true,true,true,true,false,false,false,false,false] rfl rfl (any_of HT_.out (by kernel_rfl)) (fun _ _ _ h=>h) (Or.inr ⟨by rfl,rfl⟩) ?_ ?_;rotate_left
              ·simp only [Act.put,List.setIfInBounds_toArray,List.set_cons_zero,List.set_cons_succ,i64_w,i32_w];rfl
              refine pure_ (i:=28) (N:=some 62) (v:=undef) (a':=?_) #[true,true,true,true,true,true,true,true,true,true,true,true,true,true,true,true,true,true,true,true,true,true,true,true,true,true,true,true,true,false,false,false,false] rfl rfl (any_of HT_.out (by kernel_rfl)) (fun _ _ _ h=>h) (Or.inr ⟨by rfl,rfl⟩) ?_ ?_;rotate_left
              ·simp only [Act.put,List.setIfInBounds_toArray,List.set_cons_zero,List.set_cons_succ,i64_w,i32_w];rfl
              refine pure_ (i:=29) (N:=some 63) (v:=undef) (a':=?_) #[true,true,true,true,true,true,true,true,true,true,true,true,true,true,true,true,true,true,true,true,true,true,true,true,true,true,true,true,true,true,false,false,false] rfl rfl (any_of HT_.out (by kernel_rfl)) (fun _ _ _ h=>h) (Or.inr ⟨by rfl,rfl⟩) ?_ ?_;rotate_left
              ·simp only [Act.put,List.setIfInBounds_toArray,List.set_cons_zero,List.set_cons_succ,i64_w,i32_w];rfl
              refine pure_ (i:=30) (N:=some 64) (v:=undef) (a':=?_) #[true,true,true,true,true,true,true,true,true,true,true,true,true,true,true,true,true,true,true,true,true,true,true,true,true,true,true,true,true,true,true,false,false] rfl rfl (any_of HT_.out (by kernel_rfl)) (fun _ _ _ h=>h) (Or.inr ⟨by rfl,rfl⟩) ?_ ?_;rotate_left
              ·simp only [Act.put,List.setIfInBounds_toArray,List.set_cons_zero,List.set_cons_succ,i64_w,i32_w];rfl
              refine pure_ (i:=31) (N:=some 65) (v:=?_) (a':=?_) #[true,true,true,true,true,true,true,true,true,true,true,true,true,true,true,true,true,true,true,true,true,true,true,true,true,true,true,true,true,true,true,true,false] rfl rfl (any_of HT_.out (by kernel_rfl)) (fun _ _ _ h=>h) (Or.inl ⟨by rfl,?_⟩) ?_ ?_;rotate_left
              ·intro w';go_simp;with_reducible rfl
              rotate_left
              ·simp only [Act.put,List.setIfInBounds_toArray,List.set_cons_zero,List.set_cons_succ,i64_w,i32_w];rfl
              refine pure_ (i:=32) (N:=some 66) (v:=?_) (a':=?_) #[true,true,true,true,true,true,true,true,true,true,true,true,true,true,true,true,true,true,true,true,true,true,true,true,true,true,true,true,true,true,true,true,true] rfl rfl (any_of HT_.out (by kernel_rfl)) (fun _ _ _ h=>h) (Or.inl ⟨by rfl,?_⟩) ?_ ?_;rotate_left
              ·intro w';go_simp;with_reducible rfl
              rotate_left
              ·simp only [Act.put,List.setIfInBounds_toArray,List.set_cons_zero,List.set_cons_succ,i64_w,i32_w];rfl
              refine done_ (done_of HT_.out (by kernel_rfl)) ?_;have hcz39_0 : w38.cell? ⟨gb1689,0,none⟩ = some (.slice (some ad1692) l0_0.length c0_0):=(blk_cell BK1689.out 0).trans rfl;have hcz39_1 : w38.cell? ⟨gb1689,1,none⟩ = some (.slice A0_1 l0_1.length c0_1):=(blk_cell BK1689.out 1).trans rfl;have hcz39_2 : w38.cell? ⟨gb1689,2,none⟩ = some (.int .i64 a0_2):=(blk_cell BK1689.out 2).trans rfl;have hfz39_0:=blk_frozen BK1689.out 0;have hfz39_1:=blk_frozen BK1689.out 1;have hfz39_2:=blk_frozen BK1689.out 2;have hcz40_0 : w38.cell? ⟨gb1693,0,none⟩ = some (.int .i64 ((rd_T147 l0_0 x29_2).f0)):=(blk_cell BK1693.out 0).trans rfl;have hcz40_1 : w38.cell? ⟨gb1693,1,none⟩ = some (.int .i64 ((rd_T147 l0_0 x29_2).f1)):=(blk_cell BK1693.out 1).trans rfl;have hfz40_0:=blk_frozen BK1693.out 0;have hfz40_1:=blk_frozen BK1693.out 1
              try go_wp2_with (first | ((with_reducible refine gate_callee (f:=94) rfl ?_);refine goesL_ (some 72) rfl rfl Try.func94 (by kernel_rfl) rfl #[.agg #[.slice A0_1 l0_1.length c0_1],.int .i64 ((rd_T147 l0_0 x29_2).f1)] rfl (by (try simp only [List.map_toArray,List.map_cons,List.map_nil]);first | done | rfl | (simp only [List.length_drop,List.length_take];rfl)) ?_;(with_reducible refine (impl_knotsOf.calls k2 _ _ l0_1 ((rd_T147 l0_0 x29_2).f1) t1696 _ ?side1 ?side2 A32.out).mono ?_);(case side1=>repeat (first | exact (Kd.C_below HR0_1.out (hs2 HB GE1689 GE1693)) | (with_reducible refine Kd.C_alloc ?_ _) | (with_reducible refine Kd.C_drewN ?_ _) | (with_reducible refine Kd.C_drew ?_)));(case side2=>exact HC0_1.out);rintro e w41 ⟨v1697,rfl,ho0,hb⟩;refine ⟨_,rfl,?_⟩;have n0_:=Aside0.mk (Kd.R_elder' (rs HO_3) (Kd.R_base ho0) hb);have n1_:=Aside0.mk (Kd.R_lower (Kd.R_new' ho0 (Kd.R_lt (rs HO_3))) (below_size (hs2 HB GE1689 GE1693)));have n2_:=Aside0.mk (blk_below (g:=gb1689) (o:=.cells #[.slice (some ad1692) l0_0.length c0_0,.slice A0_1 l0_1.length c0_1,.int .i64 a0_2] 83 (0,0)) (bs BK1689) hb);have n3_:=Aside0.mk (blk_below (g:=gb1693) (o:=.cells #[.int .i64 ((rd_T147 l0_0 x29_2).f0),.int .i64 ((rd_T147 l0_0 x29_2).f1)] 147 (0,0)) (bs BK1693) hb);have n4_:=Aside0.mk (below_step (hs2 HB GE1689 GE1693) hb);clear HO_3;clear BK1689;clear BK1693;clear HB;have HO_3:=n0_;have HO1698:=n1_;have BK1689:=n2_;have BK1693:=n3_;have HB:=n4_;clear n0_ n1_ n2_ n3_ n4_;(try clear hb);(try clear hb2);(try clear hk);(try clear hi);(try clear ho0);obtain ⟨Ao43,co43,eo43⟩:=Kd.R_slice HO1698.out;subst eo43) | ((with_reducible refine gate_builtin (b:=.append) (xs:=#[(.tmp 67),.tmp 72]) rfl ?_);at_builtin;refine Kd.R_append_rows (Kd.int .i64) (w0:=w) w.heap.size rfl (.tmp 67) (.tmp 72) 26 3 (.int .i64 0) 8 rfl Try.underlying26 info3 rfl (by decide) (by omega) u3 x3_2 t1696 _ _ _ (fun k_=>some k_ ≠ (.slice Ao43 t1696.length co43 : Value).ownBlock) (fun _=>False) rfl rfl ?aO ?aR (fun _ _ h=>h) (fun _ h=>h.elim) ?aF ?aB ?aS ?aL ?_;(case aR=>repeat (first | exact (Kd.R_reads' HO1698.out).2.2 | (with_reducible refine Kd.C_alloc ?_ _) | (with_reducible refine Kd.C_drewN ?_ _) | (with_reducible refine Kd.C_drew ?_)));(case aB=>exact (hs2 HB GE1689 GE1693));(case aF=>exact (fun k_ hk=>Kd.fresh' (Kd.R_lt (rs HO1698)) k_ hk));(case aO=>exact (by (with_reducible repeat (first | apply Kd.R_alloc | apply Kd.R_drewN | apply Kd.R_drew));exact Kd.R_mono HO_3.out (fun _ hk=>hk.2)));(case aS=>exact (below_size (hs2 HB GE1689 GE1693)));(case aL=>have:=LMc33.out;omega);intro v1700 w42 ho hb hg hat;rw [← Ny1699.out] at ho;have n0_:=Aside0.mk (blk_grown (g:=gb1689) (o:=.cells #[.slice (some ad1692) l0_0.length c0_0,.slice A0_1 l0_1.length c0_1,.int .i64 a0_2] 83 (0,0)) (bs BK1689) hg (Kd.R_ne HO_3.out BK1689.out (by decide)));have n1_:=Aside0.mk (blk_grown (g:=gb1693) (o:=.cells #[.int .i64 ((rd_T147 l0_0 x29_2).f0),.int .i64 ((rd_T147 l0_0 x29_2).f1)] 147 (0,0)) (bs BK1693) hg (Kd.R_ne HO_3.out BK1693.out (by decide)));have n2_:=Aside0.mk (Kd.R_after (ok:=(fun _=>True)) (rs HO1698) hg hat);have n3_:=Aside0.mk (hb);have n4_:=Aside0.mk (ho);clear BK1689;clear BK1693;clear HO1698;clear HB;clear HO_3;have BK1689:=n0_;have BK1693:=n1_;have HO1698:=n2_;have HB:=n3_;have HO1701:=n4_;clear n0_ n1_ n2_ n3_ n4_;clear ho hb hg hat))
              go_roundg k2;case measure=>have:=HJ1.out;have:=HK2.out;omega
              case rel=>exact ⟨(y1699),(wrap64 (x29_2 + 1)),(by first | rfl | (simp;done) | (simp [*];done)),H',⟨by have:=HJ1.out;have:=HK2.out;omega⟩,⟨by (with_reducible repeat (first | apply Kd.R_alloc | apply Kd.R_drewN | apply Kd.R_drew));exact Kd.R_mono HO1701.out (fun _ hk=>trivial)⟩,⟨bs BK1689⟩,⟨hs2 HB GE1689 GE1693⟩⟩
             rw [if_neg c33] at H;exact absurd H (by simp)
            rw [if_neg c31] at H;have c31b0 : (((rd_T147 l0_0 x29_2).f1) == (-1)) = false:=beq_eq_false_iff_ne.mpr c31;have c31b1 : (((rd_T147 l0_0 x29_2).f1) != (-1)) = true:=bne_iff_ne.mpr c31;replace H:=Option.bind_eq_some_iff.mp H;obtain ⟨t1702,A440,H⟩:=H;replace H : (if t1702 = true then ((impl_knotsOf.f k2 l0_1 ((rd_T147 l0_0 x29_2).f1)).bind fun t1703=>(if x3_2.length + t1703.length < 17592186044416 then (impl_StoreOk.l0 k2 (x3_2 ++ t1703) l0_0 (l0_0.length : Int) (wrap64 (x29_2 + 1)) l0_0 l0_1 a0_2) else (none))) else (some false)) = some r:=H;have A44:=Aside0.mk A440;clear A440
            by_cases c45 : t1702 = true
            ·subst c45;have H1 : ((impl_knotsOf.f k2 l0_1 ((rd_T147 l0_0 x29_2).f1)).bind fun t1703=>(if x3_2.length + t1703.length < 17592186044416 then (impl_StoreOk.l0 k2 (x3_2 ++ t1703) l0_0 (l0_0.length : Int) (wrap64 (x29_2 + 1)) l0_0 l0_1 a0_2) else (none))) = some r:=by rw [if_pos rfl] at H;exact H
             clear H;have H:=H1;clear H1;replace H:=Option.bind_eq_some_iff.mp H;obtain ⟨t1703,A460,H⟩:=H;replace H : (if x3_2.length + t1703.length < 17592186044416 then (impl_StoreOk.l0 k2 (x3_2 ++ t1703) l0_0 (l0_0.length : Int) (wrap64 (x29_2 + 1)) l0_0 l0_1 a0_2) else (none)) = some r:=H;have A46:=Aside0.mk A460;clear A460
             by_cases c47 : x3_2.length + t1703.length < 17592186044416
             ·rw [if_pos c47] at H;have LMc47:=Aside0.mk c47;clear c47;obtain ⟨y1706,hy1706⟩ : ∃ y_ : List Int,y_ = (x3_2 ++ t1703):=⟨_,rfl⟩;replace H : (impl_StoreOk.l0 k2 y1706 l0_0 (l0_0.length : Int) (wrap64 (x29_2 + 1)) l0_0 l0_1 a0_2) = some r:=by first | (rw [hy1706];with_reducible exact H) | (have H2_:=(Option.bind_some _ _).symm.trans H;rw [hy1706];with_reducible exact H2_) | (have H2_:=(Option.bind_some _ _).symm.trans H;with_reducible exact H2_) | with_reducible exact H | (rw [hy1706];exact H) | exact H
              have Ny1706:=Aside0.mk hy1706;clear hy1706;have H':=Aside0.mk H;clear H;have p1692 : 0 ≤ (x29_2 : Int):=of_decide_eq_true (by first | (with_reducible assumption) | assumption);have q1692 : x29_2 < (l0_0.length : Int):=of_decide_eq_true (by first | (with_reducible assumption) | assumption);obtain ⟨ad1692,e1692,hx1692_0,hx1692_1⟩:=at_T147 HR0_0.out x29_2 p1692 q1692;cases e1692;replace hx1692_0:=(HB.out.cell (World.block_lt_of_cell? w _ hx1692_0)).trans hx1692_0;replace hx1692_1:=(HB.out.cell (World.block_lt_of_cell? w _ hx1692_1)).trans hx1692_1;replace p1692:=eq_true p1692;replace q1692:=eq_true q1692
              try go_wp2_with (first | ((with_reducible refine gate_dst (N:=5) rfl ?_);refine box_event ?hg (N:=5) ?hd (cs:=#[.int .i64 0,.int .i64 0]) (t:=147) ?hr ?_;(case hd=>rfl);(case hg=>rfl);(case hr=>first | (go_simp;done) | (go_simp;rfl));intro gb1693 hg w48 hbox hb;have n0_:=Aside0.mk (Kd.R_below (rs HO_3) hb);have n1_:=Aside0.mk (blk_below (g:=gb1689) (o:=.cells #[.slice (some ad1692) l0_0.length c0_0,.slice A0_1 l0_1.length c0_1,.int .i64 a0_2] 83 (0,0)) (bs BK1689) hb);have n2_:=Aside0.mk (below_step (hs1 HB GE1689) hb);have n3_:=Aside0.mk (hbox);have n4_:=Aside0.mk ((by rw [hg];exact (below_size (hs1 HB GE1689)) : w.heap.size ≤ gb1693));have n5_:=Aside0.mk ((by rw [hg];exact (below_size (hs1 HB GE1689)) : w.heap.size ≤ gb1693));have n6_:=Aside0.mk ((by rw [hg];exact Nat.ne_of_lt (blk_lt (g:=gb1689) (o:=.cells #[.slice (some ad1692) l0_0.length c0_0,.slice A0_1 l0_1.length c0_1,.int .i64 a0_2] 83 (0,0)) (bs BK1689)) : gb1689 ≠ gb1693));have n7_:=Aside0.mk ((by rw [hg];exact Nat.ne_of_gt (blk_lt (g:=gb1689) (o:=.cells #[.slice (some ad1692) l0_0.length c0_0,.slice A0_1 l0_1.length c0_1,.int .i64 a0_2] 83 (0,0)) (bs BK1689)) : gb1693 ≠ gb1689));clear HO_3;clear BK1689;clear HB;have HO_3:=n0_;have BK1689:=n1_;have HB:=n2_;have BK1693:=n3_;have GW1693:=n4_;have GE1693:=n5_;have NB1689_1693:=n6_;have NB1693_1689:=n7_;clear n0_ n1_ n2_ n3_ n4_ n5_ n6_ n7_;clear hb hbox hg;have hnb49:=NB1693_1689.out;have hnc49:=NB1689_1693.out;have hcz50_0 : w48.cell? ⟨gb1693,0,none⟩ = some (.int .i64 0):=(blk_cell BK1693.out 0).trans rfl;have hcz50_1 : w48.cell? ⟨gb1693,1,none⟩ = some (.int .i64 0):=(blk_cell BK1693.out 1).trans rfl;have hfz50_0:=blk_frozen BK1693.out 0;have hfz50_1:=blk_frozen BK1693.out 1))
              have n0_ : Aside0 (Kd.R (Kd.int .i64) 3 ((w48.setCell ⟨gb1693,0,none⟩ (.int .i64 ((rd_T147 l0_0 x29_2).f0))).setCell ⟨gb1693,1,none⟩ (.int .i64 ((rd_T147 l0_0 x29_2).f1))) w.heap.size (fun _=>True) u3 x3_2):=⟨by (with_reducible repeat (first | apply Kd.R_alloc | apply Kd.R_drewN | apply Kd.R_drew));exact Kd.R_mono (Kd.R_far (p:=⟨gb1693,1,none⟩) (Kd.R_far (p:=⟨gb1693,0,none⟩) (Kd.R_types HO_3.out BK1693.out (by decide)) (fun _ hk=>hk.2) (.int .i64 ((rd_T147 l0_0 x29_2).f0))) (fun _ hk=>hk.2) (.int .i64 ((rd_T147 l0_0 x29_2).f1))) (fun _ hk=>trivial)⟩;have n1_ : Aside0 (((w48.setCell ⟨gb1693,0,none⟩ (.int .i64 ((rd_T147 l0_0 x29_2).f0))).setCell ⟨gb1693,1,none⟩ (.int .i64 ((rd_T147 l0_0 x29_2).f1))).heap[gb1689]? = some (.cells #[.slice (some ad1692) l0_0.length c0_0,.slice A0_1 l0_1.length c0_1,.int .i64 a0_2] 83 (0,0))):=⟨by (with_reducible repeat (first | refine blk_drewN ?_ _ | refine blk_drew ?_ | refine blk_alloc ?_ _));refine blk_far ?_ NB1689_1693.out _;(with_reducible repeat (first | refine blk_drewN ?_ _ | refine blk_drew ?_ | refine blk_alloc ?_ _));refine blk_far ?_ NB1689_1693.out _;(with_reducible repeat (first | refine blk_drewN ?_ _ | refine blk_drew ?_ | refine blk_alloc ?_ _));exact BK1689.out⟩;have n2_ : Aside0 (((w48.setCell ⟨gb1693,0,none⟩ (.int .i64 ((rd_T147 l0_0 x29_2).f0))).setCell ⟨gb1693,1,none⟩ (.int .i64 ((rd_T147 l0_0 x29_2).f1))).heap[gb1693]? = some (.cells #[.int .i64 ((rd_T147 l0_0 x29_2).f0),.int .i64 ((rd_T147 l0_0 x29_2).f1)] 147 (0,0))):=⟨by (with_reducible repeat (first | refine blk_drewN ?_ _ | refine blk_drew ?_ | refine blk_alloc ?_ _));refine blk_put (cs:=#[.int .i64 ((rd_T147 l0_0 x29_2).f0),.int .i64 0]) ?_ 1 _ rfl;(with_reducible repeat (first | refine blk_drewN ?_ _ | refine blk_drew ?_ | refine blk_alloc ?_ _));refine blk_put (cs:=#[.int .i64 0,.int .i64 0]) ?_ 0 _ rfl;(with_reducible repeat (first | refine blk_drewN ?_ _ | refine blk_drew ?_ | refine blk_alloc ?_ _));exact BK1693.out⟩;have n3_ : Aside0 (Below w.heap.size w ((w48.setCell ⟨gb1693,0,none⟩ (.int .i64 ((rd_T147 l0_0 x29_2).f0))).setCell ⟨gb1693,1,none⟩ (.int .i64 ((rd_T147 l0_0 x29_2).f1)))):=⟨hs2 HB GE1689 GE1693⟩
              (try clear HO_3)
              (try clear BK1689)
              (try clear BK1693)
              (try clear HB)
              generalize ((w48.setCell ⟨gb1693,0,none⟩ (.int .i64 ((rd_T147 l0_0 x29_2).f0))).setCell ⟨gb1693,1,none⟩ (.int .i64 ((rd_T147 l0_0 x29_2).f1))) = w51 at n0_ n1_ n2_ n3_ ⊢;have HO_3:=n0_;have BK1689:=n1_;have BK1693:=n2_;have HB:=n3_;clear n0_ n1_ n2_ n3_;have n0_:=Aside0.mk (Kd.R_drew HO_3.out);have n1_:=Aside0.mk (blk_drew BK1689.out);have n2_:=Aside0.mk (blk_drew BK1693.out);have n3_:=Aside0.mk (below_drew1 HB.out);clear HO_3;clear BK1689;clear BK1693;clear HB;have HO_3:=n0_;have BK1689:=n1_;have BK1693:=n2_;have HB:=n3_;clear n0_ n1_ n2_ n3_;have p1695 : 0 ≤ ((ji22) : Int):=of_decide_eq_true (by first | (with_reducible assumption) | assumption);have q1695 : (ji22) < (l0_0.length : Int):=of_decide_eq_true (by first | (with_reducible assumption) | assumption);obtain ⟨ad1695,e1695,hx1695_0,hx1695_1⟩:=at_T147 HR0_0.out (ji22) p1695 q1695;have hw1695_1:=hx1695_1;have hw1695_0:=hx1695_0;obtain rfl : ad1692 = ad1695:=(by injection e1695);replace hx1695_0:=(HB.out.cell (World.block_lt_of_cell? w _ hx1695_0)).trans hx1695_0;replace hx1695_1:=(HB.out.cell (World.block_lt_of_cell? w _ hx1695_1)).trans hx1695_1;replace p1695:=eq_true p1695;replace q1695:=eq_true q1695;refine start_ (n:=33) (S:=fun w'=>w'.cell? ⟨gb1693,0,none⟩ = some (.int .i64 ((rd_T147 l0_0 x29_2).f0)) ∧ w'.cell? ⟨gb1693,1,none⟩ = some (.int .i64 ((rd_T147 l0_0 x29_2).f1)) ∧ w'.cell? ⟨gb1689,0,none⟩ = some (.slice (some ad1692) l0_0.length c0_0) ∧ w'.cell? ⟨gb1689,1,none⟩ = some (.slice A0_1 l0_1.length c0_1) ∧ w'.cell? ⟨gb1689,2,none⟩ = some (.int .i64 a0_2) ∧ w'.cell? (ad1692.add (((ji22)).toNat * 2)) = some (.int .i64 ((rd_T147 l0_0 (ji22)).f0)) ∧ w'.cell? ⟨(ad1692.add (((ji22)).toNat * 2)).block,(ad1692.add (((ji22)).toNat * 2)).off + 1,none⟩ = some (.int .i64 ((rd_T147 l0_0 (ji22)).f1))) (ds:=[]) #[false,false,false,false,false,false,false,false,false,false,false,false,false,false,false,false,false,false,false,false,false,false,false,false,false,false,false,false,false,false,false,false,false] (by kernel_rfl) rfl rfl ⟨(blk_cell BK1693.out 0).trans rfl,(blk_cell BK1693.out 1).trans rfl,(blk_cell BK1689.out 0).trans rfl,(blk_cell BK1689.out 1).trans rfl,(blk_cell BK1689.out 2).trans rfl,((HB.out.cell (World.block_lt_of_cell? w _ hw1695_0)).trans hw1695_0),((HB.out.cell (World.block_lt_of_cell? w _ hw1695_1)).trans hw1695_1)⟩ (fun hHeld=>?_);refine with_tabW impl_StoreOk.tab7 impl_StoreOk.bits7 (fun HT_ HW_=>?_);generalize w51.drew = w52 at HO_3 BK1689 BK1693 HB hx1695_0 hx1695_1 hHeld ⊢;refine pure_ (i:=0) (N:=some 34) (v:=?_) (a':=?_) #[true,false,false,false,false,false,false,false,false,false,false,false,false,false,false,false,false,false,false,false,false,false,false,false,false,false,false,false,false,false,false,false,false] rfl rfl (any_of HT_.out (by kernel_rfl)) (fun _ _ _ h=>h) (Or.inl ⟨by rfl,?_⟩) ?_ ?_;rotate_left
              ·intro w';go_simp;with_reducible rfl
              rotate_left
              ·simp only [Act.put,List.setIfInBounds_toArray,List.set_cons_zero,List.set_cons_succ,i64_w,i32_w];rfl
              refine take_ (i:=1) (N:=some 35) (v:=?_) (a':=?_) #[true,true,false,false,false,false,false,false,false,false,false,false,false,false,false,false,false,false,false,false,false,false,false,false,false,false,false,false,false,false,false,false,false] rfl rfl (take_ofW HT_.out HW_.out (by kernel_rfl)) (fun _ _ _ h=>h) (Or.inl ⟨by rfl,?_⟩) hHeld ?_ ?_;rotate_left
              ·rintro w' ⟨s0,s1,s2,s3,s4,s5,s6⟩;go_simp;with_reducible rfl
              rotate_left
              ·simp only [Act.put,List.setIfInBounds_toArray,List.set_cons_zero,List.set_cons_succ,i64_w,i32_w];rfl
              refine one_ (i:=2) (N:=some 36) #[true,true,true,false,false,false,false,false,false,false,false,false,false,false,false,false,false,false,false,false,false,false,false,false,false,false,false,false,false,false,false,false,false] rfl rfl (one_of HT_.out (by kernel_rfl)) (by decide) (fun K hK=>?_);refine goes_ Try.func84 (by kernel_rfl) rfl #[.int .i64 ((rd_T147 l0_0 x29_2).f0),.int .i64 1,.int .i64 9] (by rfl) rfl rfl (by (try simp only [List.map_toArray,List.map_cons,List.map_nil]);first | done | rfl | (simp only [List.length_drop,List.length_take];rfl)) ?_;with_reducible refine (impl_in.calls ((rd_T147 l0_0 x29_2).f0) 1 9 true _ A19.out).mono ?_
              rintro e w' ⟨rfl,⟨nd,rfl⟩⟩;refine ⟨_,rfl,?_⟩;refine hK.out _ _ ⟨(blk_cell BK1693.out 0).trans rfl,(blk_cell BK1693.out 1).trans rfl,(blk_cell BK1689.out 0).trans rfl,(blk_cell BK1689.out 1).trans rfl,(blk_cell BK1689.out 2).trans rfl,((HB.out.cell (World.block_lt_of_cell? w _ hw1695_0)).trans hw1695_0),((HB.out.cell (World.block_lt_of_cell? w _ hw1695_1)).trans hw1695_1)⟩ (fun hHeld=>?_);clear hK K;refine norm_ (a':=?_) ?_ ?_;rotate_left
              ·show Act.put _ (some 36) _ = _;simp only [Act.put,List.setIfInBounds_toArray,List.set_cons_zero,List.set_cons_succ,i64_w,i32_w];rfl
              refine pure_ (i:=3) (N:=some 37) (v:=?_) (a':=?_) #[true,true,true,true,false,false,false,false,false,false,false,false,false,false,false,false,false,false,false,false,false,false,false,false,false,false,false,false,false,false,false,false,false] rfl rfl (any_of HT_.out (by kernel_rfl)) (fun _ _ _ h=>h) (Or.inl ⟨by rfl,?_⟩) ?_ ?_;rotate_left
              ·intro w';go_simp;with_reducible rfl
              rotate_left
              ·simp only [Act.put,List.setIfInBounds_toArray,List.set_cons_zero,List.set_cons_succ,i64_w,i32_w];rfl
              refine pure_ (i:=4) (N:=some 38) (v:=?_) (a':=?_) #[true,true,true,true,true,false,false,false,false,false,false,false,false,false,false,false,false,false,false,false,false,false,false,false,false,false,false,false,false,false,false,false,false] rfl rfl (any_of HT_.out (by kernel_rfl)) (fun _ _ _ h=>h) (Or.inl ⟨by rfl,?_⟩) ?_ ?_;rotate_left
              ·intro w';go_simp;with_reducible rfl
              rotate_left
              ·simp only [Act.put,List.setIfInBounds_toArray,List.set_cons_zero,List.set_cons_succ,i64_w,i32_w];rfl
              refine pure_ (i:=5) (N:=some 39) (v:=?_) (a':=?_) #[true,true,true,true,true,true,false,false,false,false,false,false,false,false,false,false,false,false,false,false,false,false,false,false,false,false,false,false,false,false,false,false,false] rfl rfl (any_of HT_.out (by kernel_rfl)) (fun _ _ _ h=>h) (Or.inl ⟨by rfl,?_⟩) ?_ ?_;rotate_left
              ·intro w';go_simp;with_reducible rfl
              rotate_left
              ·simp only [Act.put,List.setIfInBounds_toArray,List.set_cons_zero,List.set_cons_succ,i64_w,i32_w];rfl
              refine pure_ (i:=6) (N:=some 40) (v:=?_) (a':=?_) #[true,true,true,true,true,true,true,false,false,false,false,false,false,false,false,false,false,false,false,false,false,false,false,false,false,false,false,false,false,false,false,false,false] rfl rfl (any_of HT_.out (by kernel_rfl)) (fun _ _ _ h=>h) (Or.inl ⟨by rfl,?_⟩) ?_ ?_;rotate_left
              ·intro w';go_simp;with_reducible rfl
              rotate_left
              ·simp only [Act.put,List.setIfInBounds_toArray,List.set_cons_zero,List.set_cons_succ,i64_w,i32_w];rfl
              refine pure_ (i:=7) (N:=some 41) (v:=?_) (a':=?_) #[true,true,true,true,true,true,true,true,false,false,false,false,false,false,false,false,false,false,false,false,false,false,false,false,false,false,false,false,false,false,false,false,false] rfl rfl (any_of HT_.out (by kernel_rfl)) (fun _ _ _ h=>h) (Or.inl ⟨by rfl,?_⟩) ?_ ?_;rotate_left
              ·intro w';go_simp;with_reducible rfl
              rotate_left
              ·simp only [Act.put,List.setIfInBounds_toArray,List.set_cons_zero,List.set_cons_succ,i64_w,i32_w];rfl
              refine pure_ (i:=8) (N:=some 42) (v:=?_) (a':=?_) #[true,true,true,true,true,true,true,true,true,false,false,false,false,false,false,false,false,false,false,false,false,false,false,false,false,false,false,false,false,false,false,false,false] rfl rfl (any_of HT_.out (by kernel_rfl)) (fun _ _ _ h=>h) (Or.inl ⟨by rfl,?_⟩) ?_ ?_;rotate_left
              ·intro w';go_simp;with_reducible rfl
              rotate_left
              ·simp only [Act.put,List.setIfInBounds_toArray,List.set_cons_zero,List.set_cons_succ,i64_w,i32_w];rfl
              refine pure_ (i:=10) (N:=some 44) (v:=?_) (a':=?_) #[true,true,true,true,true,true,true,true,true,false,true,false,false,false,false,false,false,false,false,false,false,false,false,false,false,false,false,false,false,false,false,false,false] rfl rfl (any_of HT_.out (by kernel_rfl)) (fun _ _ _ h=>h) (Or.inl ⟨by rfl,?_⟩) ?_ ?_;rotate_left
              ·intro w';go_simp;with_reducible rfl
              rotate_left
              ·simp only [Act.put,List.setIfInBounds_toArray,List.set_cons_zero,List.set_cons_succ,i64_w,i32_w];rfl
              refine pure_ (i:=11) (N:=some 45) (v:=?_) (a':=?_) #[true,true,true,true,true,true,true,true,true,false,true,true,false,false,false,false,false,false,false,false,false,false,false,false,false,false,false,false,false,false,false,false,false] rfl rfl (any_of HT_.out (by kernel_rfl)) (fun _ _ _ h=>h) (Or.inl ⟨by rfl,?_⟩) ?_ ?_;rotate_left
              ·intro w';go_simp;with_reducible rfl
              rotate_left
              ·simp only [Act.put,List.setIfInBounds_toArray,List.set_cons_zero,List.set_cons_succ,i64_w,i32_w];rfl
              refine pure_ (i:=15) (N:=some 49) (v:=?_) (a':=?_) #[true,true,true,true,true,true,true,true,true,false,true,true,false,false,false,true,false,false,false,false,false,false,false,false,false,false,false,false,false,false,false,false,false] rfl rfl (any_of HT_.out (by kernel_rfl)) (fun _ _ _ h=>h) (Or.inl ⟨by rfl,?_⟩) ?_ ?_;rotate_left
              ·intro w';go_simp;with_reducible rfl
              rotate_left
              ·simp only [Act.put,List.setIfInBounds_toArray,List.set_cons_zero,List.set_cons_succ,i64_w,i32_w];rfl
              refine take_ (i:=9) (N:=some 43) (v:=?_) (a':=?_) #[true,true,true,true,true,true,true,true,true,true,true,true,false,false,false,true,false,false,false,false,false,false,false,false,false,false,false,false,false,false,false,false,false] rfl rfl (take_ofW HT_.out HW_.out (by kernel_rfl)) (fun _ _ _ h=>h) (Or.inl ⟨by rfl,?_⟩) hHeld ?_ ?_;rotate_left
              ·rintro w' ⟨s0,s1,s2,s3,s4,s5,s6⟩;go_simp;with_reducible rfl
              rotate_left
              ·simp only [Act.put,List.setIfInBounds_toArray,List.set_cons_zero,List.set_cons_succ,i64_w,i32_w];rfl
              refine pure_ (i:=12) (N:=some 46) (v:=?_) (a':=?_) #[true,true,true,true,true,true,true,true,true,true,true,true,true,false,false,true,false,false,false,false,false,false,false,false,false,false,false,false,false,false,false,false,false] rfl rfl (any_of HT_.out (by kernel_rfl)) (fun _ _ _ h=>h) (Or.inl ⟨by rfl,?_⟩) ?_ ?_;rotate_left
              ·intro w';go_simp;with_reducible rfl
              rotate_left
              ·simp only [Act.put,List.setIfInBounds_toArray,List.set_cons_zero,List.set_cons_succ,i64_w,i32_w];rfl
              refine pure_ (i:=13) (N:=some 47) (v:=?_) (a':=?_) #[true,true,true,true,true,true,true,true,true,true,true,true,true,true,false,true,false,false,false,false,false,false,false,false,false,false,false,false,false,false,false,false,false] rfl rfl (any_of HT_.out (by kernel_rfl)) (fun _ _ _ h=>h) (Or.inl ⟨by rfl,?_⟩) ?_ ?_;rotate_left
              ·intro w';go_simp;with_reducible rfl
              rotate_left
              ·simp only [Act.put,List.setIfInBounds_toArray,List.set_cons_zero,List.set_cons_succ,i64_w,i32_w];rfl
              refine take_ (i:=14) (N:=some 48) (v:=?_) (a':=?_) #[true,true,true,true,true,true,true,true,true,true,true,true,true,true,true,true,false,false,false,false,false,false,false,false,false,false,false,false,false,false,false,false,false] rfl rfl (take_ofW HT_.out HW_.out (by kernel_rfl)) (fun _ _ _ h=>h) (Or.inl ⟨by rfl,?_⟩) hHeld ?_ ?_;rotate_left
              ·rintro w' ⟨s0,s1,s2,s3,s4,s5,s6⟩;go_simp;with_reducible rfl
              rotate_left
              ·simp only [Act.put,List.setIfInBounds_toArray,List.set_cons_zero,List.set_cons_succ,i64_w,i32_w];rfl
              refine take_ (i:=16) (N:=some 50) (v:=?_) (a':=?_) #[true,true,true,true,true,true,true,true,true,true,true,true,true,true,true,true,true,false,false,false,false,false,false,false,false,false,false,false,false,false,false,false,false] rfl rfl (take_ofW HT_.out HW_.out (by kernel_rfl)) (fun _ _ _ h=>h) (Or.inl ⟨by rfl,?_⟩) hHeld ?_ ?_;rotate_left
              ·rintro w' ⟨s0,s1,s2,s3,s4,s5,s6⟩;go_simp;with_reducible rfl
              rotate_left
              ·simp only [Act.put,List.setIfInBounds_toArray,List.set_cons_zero,List.set_cons_succ,i64_w,i32_w];rfl
              refine pure_ (i:=17) (N:=some 51) (v:=?_) (a':=?_) #[true,true,true,true,true,true,true,true,true,true,true,true,true,true,true,true,true,true,false,false,false,false,false,false,false,false,false,false,false,false,false,false,false] rfl rfl (any_of HT_.out (by kernel_rfl)) (fun _ _ _ h=>h) (Or.inl ⟨by rfl,?_⟩) ?_ ?_;rotate_left
              ·intro w';go_simp;with_reducible rfl
              rotate_left
              ·simp only [Act.put,List.setIfInBounds_toArray,List.set_cons_zero,List.set_cons_succ,i64_w,i32_w];rfl
              refine pure_ (i:=18) (N:=some 52) (v:=?_) (a':=?_) #[true,true,true,true,true,true,true,true,true,true,true,true,true,true,true,true,true,true,true,false,false,false,false,false,false,false,false,false,false,false,false,false,false] rfl rfl (any_of HT_.out (by kernel_rfl)) (fun _ _ _ h=>h) (Or.inl ⟨by rfl,?_⟩) ?_ ?_;rotate_left
              ·intro w';go_simp;with_reducible rfl
              rotate_left
              ·simp only [Act.put,List.setIfInBounds_toArray,List.set_cons_zero,List.set_cons_succ,i64_w,i32_w];rfl
              refine pure_ (i:=19) (N:=some 53) (v:=?_) (a':=?_) #[true,true,true,true,true,true,true,true,true,true,true,true,true,true,true,true,true,true,true,true,false,false,false,false,false,false,false,false,false,false,false,false,false] rfl rfl (any_of HT_.out (by kernel_rfl)) (fun _ _ _ h=>h) (Or.inl ⟨by rfl,?_⟩) ?_ ?_;rotate_left
              ·intro w';go_simp;with_reducible rfl
              rotate_left
              ·simp only [Act.put,List.setIfInBounds_toArray,List.set_cons_zero,List.set_cons_succ,i64_w,i32_w];rfl
              refine pure_ (i:=20) (N:=some 54) (v:=?_) (a':=?_) #[true,true,true,true,true,true,true,true,true,true,true,true,true,true,true,true,true,true,true,true,true,false,false,false,false,false,false,false,false,false,false,false,false] rfl rfl (any_of HT_.out (by kernel_rfl)) (fun _ _ _ h=>h) (Or.inl ⟨by rfl,?_⟩) ?_ ?_;rotate_left
              ·intro w';go_simp;with_reducible rfl
              rotate_left
              ·simp only [Act.put,List.setIfInBounds_toArray,List.set_cons_zero,List.set_cons_succ,i64_w,i32_w];rfl
              refine pure_ (i:=21) (N:=some 55) (v:=?_) (a':=?_) #[true,true,true,true,true,true,true,true,true,true,true,true,true,true,true,true,true,true,true,true,true,true,false,false,false,false,false,false,false,false,false,false,false] rfl rfl (any_of HT_.out (by kernel_rfl)) (fun _ _ _ h=>h) (Or.inl ⟨by rfl,?_⟩) ?_ ?_;rotate_left
              ·intro w';go_simp;with_reducible rfl
              rotate_left
              ·simp only [Act.put,List.setIfInBounds_toArray,List.set_cons_zero,List.set_cons_succ,i64_w,i32_w];rfl
              refine take_ (i:=22) (N:=some 56) (v:=?_) (a':=?_) #[true,true,true,true,true,true,true,true,true,true,true,true,true,true,true,true,true,true,true,true,true,true,true,false,false,false,false,false,false,false,false,false,false] rfl rfl (take_ofW HT_.out HW_.out (by kernel_rfl)) (fun _ _ _ h=>h) (Or.inl ⟨by rfl,?_⟩) hHeld ?_ ?_;rotate_left
              ·rintro w' ⟨s0,s1,s2,s3,s4,s5,s6⟩;go_simp;with_reducible rfl
              rotate_left
              ·simp only [Act.put,List.setIfInBounds_toArray,List.set_cons_zero,List.set_cons_succ,i64_w,i32_w];rfl
              refine pure_ (i:=23) (N:=some 57) (v:=?_) (a':=?_) #[true,true,true,true,true,true,true,true,true,true,true,true,true,true,true,true,true,true,true,true,true,true,true,true,false,false,false,false,false,false,false,false,false] rfl rfl (any_of HT_.out (by kernel_rfl)) (fun _ _ _ h=>h) (Or.inl ⟨by rfl,?_⟩) ?_ ?_;rotate_left
              ·intro w';go_simp;with_reducible rfl
              rotate_left
              ·simp only [Act.put,List.setIfInBounds_toArray,List.set_cons_zero,List.set_cons_succ,i64_w,i32_w];rfl
              refine pure_ (i:=24) (N:=some 58) (v:=?_) (a':=?_) #[true,true,true,true,true,true,true,true,true,true,true,true,true,true,true,true,true,true,true,true,true,true,true,true,true,false,false,false,false,false,false,false,false] rfl rfl (any_of HT_.out (by kernel_rfl)) (fun _ _ _ h=>h) (Or.inl ⟨by rfl,?_⟩) ?_ ?_;rotate_left
              ·intro w';go_simp;with_reducible rfl
              rotate_left
              ·simp only [Act.put,List.setIfInBounds_toArray,List.set_cons_zero,List.set_cons_succ,i64_w,i32_w];rfl
              refine pure_ (i:=25) (N:=some 59) (v:=?_) (a':=?_) #[true,true,true,true,true,true,true,true,true,true,true,true,true,true,true,true,true,true,true,true,true,true,true,true,true,true,false,false,false,false,false,false,false] rfl rfl (any_of HT_.out (by kernel_rfl)) (fun _ _ _ h=>h) (Or.inl ⟨by rfl,?_⟩) ?_ ?_;rotate_left
              ·intro w';go_simp;with_reducible rfl
              rotate_left
              ·simp only [Act.put,List.setIfInBounds_toArray,List.set_cons_zero,List.set_cons_succ,i64_w,i32_w];rfl
              refine pure_ (i:=27) (N:=some 61) (v:=?_) (a':=?_) #[true,true,true,true,true,true,true,true,true,true,true,true,true,true,true,true,true,true,true,true,true,true,true,true,true,true,false,true,false,false,false,false,false] rfl rfl (any_of HT_.out (by kernel_rfl)) (fun _ _ _ h=>h) (Or.inl ⟨by rfl,?_⟩) ?_ ?_;rotate_left
              ·intro w';go_simp;with_reducible rfl
              rotate_left
              ·simp only [Act.put,List.setIfInBounds_toArray,List.set_cons_zero,List.set_cons_succ,i64_w,i32_w];rfl
              refine take_ (i:=26) (N:=some 60) (v:=?_) (a':=?_) #[true,true,true,true,true,true,true,true,true,true,true,true,true,true,true,true,true,true,true,true,true,true,true,true,true,true,true,true,false,false,false,false,false] rfl rfl (take_ofW HT_.out HW_.out (by kernel_rfl)) (fun _ _ _ h=>h) (Or.inl ⟨by rfl,?_⟩) hHeld ?_ ?_;rotate_left
              ·rintro w' ⟨s0,s1,s2,s3,s4,s5,s6⟩;go_simp;with_reducible rfl
              rotate_left
              ·simp only [Act.put,List.setIfInBounds_toArray,List.set_cons_zero,List.set_cons_succ,i64_w,i32_w];rfl
              refine take_ (i:=28) (N:=some 62) (v:=?_) (a':=?_) #[true,true,true,true,true,true,true,true,true,true,true,true,true,true,true,true,true,true,true,true,true,true,true,true,true,true,true,true,true,false,false,false,false] rfl rfl (take_ofW HT_.out HW_.out (by kernel_rfl)) (fun _ _ _ h=>h) (Or.inl ⟨by rfl,?_⟩) hHeld ?_ ?_;rotate_left
              ·rintro w' ⟨s0,s1,s2,s3,s4,s5,s6⟩;go_simp;with_reducible rfl
              rotate_left
              ·simp only [Act.put,List.setIfInBounds_toArray,List.set_cons_zero,List.set_cons_succ,i64_w,i32_w];rfl
              refine one_ (i:=29) (N:=some 63) #[true,true,true,true,true,true,true,true,true,true,true,true,true,true,true,true,true,true,true,true,true,true,true,true,true,true,true,true,true,true,false,false,false] rfl rfl (one_of HT_.out (by kernel_rfl)) (by decide) (fun K hK=>?_);refine goes_ Try.func92 (by kernel_rfl) rfl #[.agg #[.slice A0_1 l0_1.length c0_1],.int .i64 ((rd_T147 l0_0 x29_2).f1)] (by rfl) rfl rfl (by (try simp only [List.map_toArray,List.map_cons,List.map_nil]);first | done | rfl | (simp only [List.length_drop,List.length_take];rfl)) ?_;with_reducible refine (impl_isRoot.calls _ _ l0_1 ((rd_T147 l0_0 x29_2).f1) true _ ?side1 ?side2 A44.out).mono ?_
              (case side1=>repeat (first | exact (Kd.C_below HR0_1.out (hs2 HB GE1689 GE1693)) | (with_reducible refine Kd.C_alloc ?_ _) | (with_reducible refine Kd.C_drewN ?_ _) | (with_reducible refine Kd.C_drew ?_)))
              (case side2=>exact HC0_1.out)
              rintro e w53 ⟨rfl,hb⟩;refine ⟨_,rfl,?_⟩;have n0_:=Aside0.mk (Kd.R_below (rs HO_3) hb);have n1_:=Aside0.mk (blk_below (g:=gb1689) (o:=.cells #[.slice (some ad1692) l0_0.length c0_0,.slice A0_1 l0_1.length c0_1,.int .i64 a0_2] 83 (0,0)) (bs BK1689) hb);have n2_:=Aside0.mk (blk_below (g:=gb1693) (o:=.cells #[.int .i64 ((rd_T147 l0_0 x29_2).f0),.int .i64 ((rd_T147 l0_0 x29_2).f1)] 147 (0,0)) (bs BK1693) hb);have n3_:=Aside0.mk (below_step (hs2 HB GE1689 GE1693) hb);clear HO_3;clear BK1689;clear BK1693;clear HB;have HO_3:=n0_;have BK1689:=n1_;have BK1693:=n2_;have HB:=n3_;clear n0_ n1_ n2_ n3_
              (try clear hb)
              (try clear hb2)
              (try clear hk)
              (try clear hi)
              refine hK.out _ _ ⟨(blk_cell BK1693.out 0).trans rfl,(blk_cell BK1693.out 1).trans rfl,(blk_cell BK1689.out 0).trans rfl,(blk_cell BK1689.out 1).trans rfl,(blk_cell BK1689.out 2).trans rfl,((HB.out.cell (World.block_lt_of_cell? w _ hw1695_0)).trans hw1695_0),((HB.out.cell (World.block_lt_of_cell? w _ hw1695_1)).trans hw1695_1)⟩ (fun hHeld=>?_);clear hK K;refine norm_ (a':=?_) ?_ ?_;rotate_left
              ·show Act.put _ (some 63) _ = _;simp only [Act.put,List.setIfInBounds_toArray,List.set_cons_zero,List.set_cons_succ,i64_w,i32_w];rfl
              refine pure_ (i:=30) (N:=some 64) (v:=?_) (a':=?_) #[true,true,true,true,true,true,true,true,true,true,true,true,true,true,true,true,true,true,true,true,true,true,true,true,true,true,true,true,true,true,true,false,false] rfl rfl (any_of HT_.out (by kernel_rfl)) (fun _ _ _ h=>h) (Or.inl ⟨by rfl,?_⟩) ?_ ?_;rotate_left
              ·intro w';go_simp;with_reducible rfl
              rotate_left
              ·simp only [Act.put,List.setIfInBounds_toArray,List.set_cons_zero,List.set_cons_succ,i64_w,i32_w];rfl
              refine pure_ (i:=31) (N:=some 65) (v:=?_) (a':=?_) #[true,true,true,true,true,true,true,true,true,true,true,true,true,true,true,true,true,true,true,true,true,true,true,true,true,true,true,true,true,true,true,true,false] rfl rfl (any_of HT_.out (by kernel_rfl)) (fun _ _ _ h=>h) (Or.inl ⟨by rfl,?_⟩) ?_ ?_;rotate_left
              ·intro w';go_simp;with_reducible rfl
              rotate_left
              ·simp only [Act.put,List.setIfInBounds_toArray,List.set_cons_zero,List.set_cons_succ,i64_w,i32_w];rfl
              refine pure_ (i:=32) (N:=some 66) (v:=?_) (a':=?_) #[true,true,true,true,true,true,true,true,true,true,true,true,true,true,true,true,true,true,true,true,true,true,true,true,true,true,true,true,true,true,true,true,true] rfl rfl (any_of HT_.out (by kernel_rfl)) (fun _ _ _ h=>h) (Or.inl ⟨by rfl,?_⟩) ?_ ?_;rotate_left
              ·intro w';go_simp;with_reducible rfl
              rotate_left
              ·simp only [Act.put,List.setIfInBounds_toArray,List.set_cons_zero,List.set_cons_succ,i64_w,i32_w];rfl
              refine done_ (done_of HT_.out (by kernel_rfl)) ?_;have hcz54_0 : w53.cell? ⟨gb1689,0,none⟩ = some (.slice (some ad1692) l0_0.length c0_0):=(blk_cell BK1689.out 0).trans rfl;have hcz54_1 : w53.cell? ⟨gb1689,1,none⟩ = some (.slice A0_1 l0_1.length c0_1):=(blk_cell BK1689.out 1).trans rfl;have hcz54_2 : w53.cell? ⟨gb1689,2,none⟩ = some (.int .i64 a0_2):=(blk_cell BK1689.out 2).trans rfl;have hfz54_0:=blk_frozen BK1689.out 0;have hfz54_1:=blk_frozen BK1689.out 1;have hfz54_2:=blk_frozen BK1689.out 2;have hcz55_0 : w53.cell? ⟨gb1693,0,none⟩ = some (.int .i64 ((rd_T147 l0_0 x29_2).f0)):=(blk_cell BK1693.out 0).trans rfl;have hcz55_1 : w53.cell? ⟨gb1693,1,none⟩ = some (.int .i64 ((rd_T147 l0_0 x29_2).f1)):=(blk_cell BK1693.out 1).trans rfl;have hfz55_0:=blk_frozen BK1693.out 0;have hfz55_1:=blk_frozen BK1693.out 1
              try go_wp2_with (first | ((with_reducible refine gate_callee (f:=94) rfl ?_);refine goesL_ (some 72) rfl rfl Try.func94 (by kernel_rfl) rfl #[.agg #[.slice A0_1 l0_1.length c0_1],.int .i64 ((rd_T147 l0_0 x29_2).f1)] rfl (by (try simp only [List.map_toArray,List.map_cons,List.map_nil]);first | done | rfl | (simp only [List.length_drop,List.length_take];rfl)) ?_;(with_reducible refine (impl_knotsOf.calls k2 _ _ l0_1 ((rd_T147 l0_0 x29_2).f1) t1703 _ ?side1 ?side2 A46.out).mono ?_);(case side1=>repeat (first | exact (Kd.C_below HR0_1.out HB.out) | (with_reducible refine Kd.C_alloc ?_ _) | (with_reducible refine Kd.C_drewN ?_ _) | (with_reducible refine Kd.C_drew ?_)));(case side2=>exact HC0_1.out);rintro e w56 ⟨v1704,rfl,ho0,hb⟩;refine ⟨_,rfl,?_⟩;have n0_:=Aside0.mk (Kd.R_elder' (rs HO_3) (Kd.R_base ho0) hb);have n1_:=Aside0.mk (Kd.R_lower (Kd.R_new' ho0 (Kd.R_lt (rs HO_3))) (below_size (hs2 HB GE1689 GE1693)));have n2_:=Aside0.mk (blk_below (g:=gb1689) (o:=.cells #[.slice (some ad1692) l0_0.length c0_0,.slice A0_1 l0_1.length c0_1,.int .i64 a0_2] 83 (0,0)) (bs BK1689) hb);have n3_:=Aside0.mk (blk_below (g:=gb1693) (o:=.cells #[.int .i64 ((rd_T147 l0_0 x29_2).f0),.int .i64 ((rd_T147 l0_0 x29_2).f1)] 147 (0,0)) (bs BK1693) hb);have n4_:=Aside0.mk (below_step (hs2 HB GE1689 GE1693) hb);clear HO_3;clear BK1689;clear BK1693;clear HB;have HO_3:=n0_;have HO1705:=n1_;have BK1689:=n2_;have BK1693:=n3_;have HB:=n4_;clear n0_ n1_ n2_ n3_ n4_;(try clear hb);(try clear hb2);(try clear hk);(try clear hi);(try clear ho0);obtain ⟨Ao58,co58,eo58⟩:=Kd.R_slice HO1705.out;subst eo58) | ((with_reducible refine gate_builtin (b:=.append) (xs:=#[(.tmp 67),.tmp 72]) rfl ?_);at_builtin;refine Kd.R_append_rows (Kd.int .i64) (w0:=w) w.heap.size rfl (.tmp 67) (.tmp 72) 26 3 (.int .i64 0) 8 rfl Try.underlying26 info3 rfl (by decide) (by omega) u3 x3_2 t1703 _ _ _ (fun k_=>some k_ ≠ (.slice Ao58 t1703.length co58 : Value).ownBlock) (fun _=>False) rfl rfl ?aO ?aR (fun _ _ h=>h) (fun _ h=>h.elim) ?aF ?aB ?aS ?aL ?_;(case aR=>repeat (first | exact (Kd.R_reads' HO1705.out).2.2 | (with_reducible refine Kd.C_alloc ?_ _) | (with_reducible refine Kd.C_drewN ?_ _) | (with_reducible refine Kd.C_drew ?_)));(case aB=>exact (hs2 HB GE1689 GE1693));(case aF=>exact (fun k_ hk=>Kd.fresh' (Kd.R_lt (rs HO1705)) k_ hk));(case aO=>exact (by (with_reducible repeat (first | apply Kd.R_alloc | apply Kd.R_drewN | apply Kd.R_drew));exact Kd.R_mono HO_3.out (fun _ hk=>hk.2)));(case aS=>exact (below_size (hs2 HB GE1689 GE1693)));(case aL=>have:=LMc47.out;omega);intro v1707 w57 ho hb hg hat;rw [← Ny1706.out] at ho;have n0_:=Aside0.mk (blk_grown (g:=gb1689) (o:=.cells #[.slice (some ad1692) l0_0.length c0_0,.slice A0_1 l0_1.length c0_1,.int .i64 a0_2] 83 (0,0)) (bs BK1689) hg (Kd.R_ne HO_3.out BK1689.out (by decide)));have n1_:=Aside0.mk (blk_grown (g:=gb1693) (o:=.cells #[.int .i64 ((rd_T147 l0_0 x29_2).f0),.int .i64 ((rd_T147 l0_0 x29_2).f1)] 147 (0,0)) (bs BK1693) hg (Kd.R_ne HO_3.out BK1693.out (by decide)));have n2_:=Aside0.mk (Kd.R_after (ok:=(fun _=>True)) (rs HO1705) hg hat);have n3_:=Aside0.mk (hb);have n4_:=Aside0.mk (ho);clear BK1689;clear BK1693;clear HO1705;clear HB;clear HO_3;have BK1689:=n0_;have BK1693:=n1_;have HO1705:=n2_;have HB:=n3_;have HO1708:=n4_;clear n0_ n1_ n2_ n3_ n4_;clear ho hb hg hat))
              go_roundg k2;case measure=>have:=HJ1.out;have:=HK2.out;omega
              case rel=>exact ⟨(y1706),(wrap64 (x29_2 + 1)),(by first | rfl | (simp;done) | (simp [*];done)),H',⟨by have:=HJ1.out;have:=HK2.out;omega⟩,⟨by (with_reducible repeat (first | apply Kd.R_alloc | apply Kd.R_drewN | apply Kd.R_drew));exact Kd.R_mono HO1708.out (fun _ hk=>trivial)⟩,⟨bs BK1689⟩,⟨hs2 HB GE1689 GE1693⟩⟩
             rw [if_neg c47] at H;exact absurd H (by simp)
            replace c45:=Bool.eq_false_iff.mpr c45;subst c45;have H1 : (some false) = some r:=by rw [if_neg (show ¬ (false = true) by decide)] at H;exact H
            clear H;have H:=H1;clear H1;obtain rfl:=Option.some.inj H;have p1692 : 0 ≤ (x29_2 : Int):=of_decide_eq_true (by first | (with_reducible assumption) | assumption);have q1692 : x29_2 < (l0_0.length : Int):=of_decide_eq_true (by first | (with_reducible assumption) | assumption);obtain ⟨ad1692,e1692,hx1692_0,hx1692_1⟩:=at_T147 HR0_0.out x29_2 p1692 q1692;cases e1692;replace hx1692_0:=(HB.out.cell (World.block_lt_of_cell? w _ hx1692_0)).trans hx1692_0;replace hx1692_1:=(HB.out.cell (World.block_lt_of_cell? w _ hx1692_1)).trans hx1692_1;replace p1692:=eq_true p1692;replace q1692:=eq_true q1692
            try go_wp2_with (first | ((with_reducible refine gate_dst (N:=5) rfl ?_);refine box_event ?hg (N:=5) ?hd (cs:=#[.int .i64 0,.int .i64 0]) (t:=147) ?hr ?_;(case hd=>rfl);(case hg=>rfl);(case hr=>first | (go_simp;done) | (go_simp;rfl));intro gb1693 hg w59 hbox hb;have n0_:=Aside0.mk (Kd.R_below (rs HO_3) hb);have n1_:=Aside0.mk (blk_below (g:=gb1689) (o:=.cells #[.slice (some ad1692) l0_0.length c0_0,.slice A0_1 l0_1.length c0_1,.int .i64 a0_2] 83 (0,0)) (bs BK1689) hb);have n2_:=Aside0.mk (below_step (hs1 HB GE1689) hb);have n3_:=Aside0.mk (hbox);have n4_:=Aside0.mk ((by rw [hg];exact (below_size (hs1 HB GE1689)) : w.heap.size ≤ gb1693));have n5_:=Aside0.mk ((by rw [hg];exact (below_size (hs1 HB GE1689)) : w.heap.size ≤ gb1693));have n6_:=Aside0.mk ((by rw [hg];exact Nat.ne_of_lt (blk_lt (g:=gb1689) (o:=.cells #[.slice (some ad1692) l0_0.length c0_0,.slice A0_1 l0_1.length c0_1,.int .i64 a0_2] 83 (0,0)) (bs BK1689)) : gb1689 ≠ gb1693));have n7_:=Aside0.mk ((by rw [hg];exact Nat.ne_of_gt (blk_lt (g:=gb1689) (o:=.cells #[.slice (some ad1692) l0_0.length c0_0,.slice A0_1 l0_1.length c0_1,.int .i64 a0_2] 83 (0,0)) (bs BK1689)) : gb1693 ≠ gb1689));clear HO_3;clear BK1689;clear HB;have HO_3:=n0_;have BK1689:=n1_;have HB:=n2_;have BK1693:=n3_;have GW1693:=n4_;have GE1693:=n5_;have NB1689_1693:=n6_;have NB1693_1689:=n7_;clear n0_ n1_ n2_ n3_ n4_ n5_ n6_ n7_;clear hb hbox hg;have hnb60:=NB1693_1689.out;have hnc60:=NB1689_1693.out;have hcz61_0 : w59.cell? ⟨gb1693,0,none⟩ = some (.int .i64 0):=(blk_cell BK1693.out 0).trans rfl;have hcz61_1 : w59.cell? ⟨gb1693,1,none⟩ = some (.int .i64 0):=(blk_cell BK1693.out 1).trans rfl;have hfz61_0:=blk_frozen BK1693.out 0;have hfz61_1:=blk_frozen BK1693.out 1))
            have n0_ : Aside0 (Kd.R (Kd.int .i64) 3 ((w59.setCell ⟨gb1693,0,none⟩ (.int .i64 ((rd_T147 l0_0 x29_2).f0))).setCell ⟨gb1693,1,none⟩ (.int .i64 ((rd_T147 l0_0 x29_2).f1))) w.heap.size (fun _=>True) u3 x3_2):=⟨by (with_reducible repeat (first | apply Kd.R_alloc | apply Kd.R_drewN | apply Kd.R_drew));exact Kd.R_mono (Kd.R_far (p:=⟨gb1693,1,none⟩) (Kd.R_far (p:=⟨gb1693,0,none⟩) (Kd.R_types HO_3.out BK1693.out (by decide)) (fun _ hk=>hk.2) (.int .i64 ((rd_T147 l0_0 x29_2).f0))) (fun _ hk=>hk.2) (.int .i64 ((rd_T147 l0_0 x29_2).f1))) (fun _ hk=>trivial)⟩;have n1_ : Aside0 (((w59.setCell ⟨gb1693,0,none⟩ (.int .i64 ((rd_T147 l0_0 x29_2).f0))).setCell ⟨gb1693,1,none⟩ (.int .i64 ((rd_T147 l0_0 x29_2).f1))).heap[gb1689]? = some (.cells #[.slice (some ad1692) l0_0.length c0_0,.slice A0_1 l0_1.length c0_1,.int .i64 a0_2] 83 (0,0))):=⟨by (with_reducible repeat (first | refine blk_drewN ?_ _ | refine blk_drew ?_ | refine blk_alloc ?_ _));refine blk_far ?_ NB1689_1693.out _;(with_reducible repeat (first | refine blk_drewN ?_ _ | refine blk_drew ?_ | refine blk_alloc ?_ _));refine blk_far ?_ NB1689_1693.out _;(with_reducible repeat (first | refine blk_drewN ?_ _ | refine blk_drew ?_ | refine blk_alloc ?_ _));exact BK1689.out⟩;have n2_ : Aside0 (((w59.setCell ⟨gb1693,0,none⟩ (.int .i64 ((rd_T147 l0_0 x29_2).f0))).setCell ⟨gb1693,1,none⟩ (.int .i64 ((rd_T147 l0_0 x29_2).f1))).heap[gb1693]? = some (.cells #[.int .i64 ((rd_T147 l0_0 x29_2).f0),.int .i64 ((rd_T147 l0_0 x29_2).f1)] 147 (0,0))):=⟨by (with_reducible repeat (first | refine blk_drewN ?_ _ | refine blk_drew ?_ | refine blk_alloc ?_ _));refine blk_put (cs:=#[.int .i64 ((rd_T147 l0_0 x29_2).f0),.int .i64 0]) ?_ 1 _ rfl;(with_reducible repeat (first | refine blk_drewN ?_ _ | refine blk_drew ?_ | refine blk_alloc ?_ _));refine blk_put (cs:=#[.int .i64 0,.int .i64 0]) ?_ 0 _ rfl;(with_reducible repeat (first | refine blk_drewN ?_ _ | refine blk_drew ?_ | refine blk_alloc ?_ _));exact BK1693.out⟩;have n3_ : Aside0 (Below w.heap.size w ((w59.setCell ⟨gb1693,0,none⟩ (.int .i64 ((rd_T147 l0_0 x29_2).f0))).setCell ⟨gb1693,1,none⟩ (.int .i64 ((rd_T147 l0_0 x29_2).f1)))):=⟨hs2 HB GE1689 GE1693⟩
            (try clear HO_3)
            (try clear BK1689)
            (try clear BK1693)
            (try clear HB)
            generalize ((w59.setCell ⟨gb1693,0,none⟩ (.int .i64 ((rd_T147 l0_0 x29_2).f0))).setCell ⟨gb1693,1,none⟩ (.int .i64 ((rd_T147 l0_0 x29_2).f1))) = w62 at n0_ n1_ n2_ n3_ ⊢;have HO_3:=n0_;have BK1689:=n1_;have BK1693:=n2_;have HB:=n3_;clear n0_ n1_ n2_ n3_;have n0_:=Aside0.mk (Kd.R_drew HO_3.out);have n1_:=Aside0.mk (blk_drew BK1689.out);have n2_:=Aside0.mk (blk_drew BK1693.out);have n3_:=Aside0.mk (below_drew1 HB.out);clear HO_3;clear BK1689;clear BK1693;clear HB;have HO_3:=n0_;have BK1689:=n1_;have BK1693:=n2_;have HB:=n3_;clear n0_ n1_ n2_ n3_;have p1695 : 0 ≤ ((ji22) : Int):=of_decide_eq_true (by first | (with_reducible assumption) | assumption);have q1695 : (ji22) < (l0_0.length : Int):=of_decide_eq_true (by first | (with_reducible assumption) | assumption);obtain ⟨ad1695,e1695,hx1695_0,hx1695_1⟩:=at_T147 HR0_0.out (ji22) p1695 q1695;have hw1695_1:=hx1695_1;have hw1695_0:=hx1695_0;obtain rfl : ad1692 = ad1695:=(by injection e1695);replace hx1695_0:=(HB.out.cell (World.block_lt_of_cell? w _ hx1695_0)).trans hx1695_0;replace hx1695_1:=(HB.out.cell (World.block_lt_of_cell? w _ hx1695_1)).trans hx1695_1;replace p1695:=eq_true p1695;replace q1695:=eq_true q1695;refine start_ (n:=33) (S:=fun w'=>w'.cell? ⟨gb1693,0,none⟩ = some (.int .i64 ((rd_T147 l0_0 x29_2).f0)) ∧ w'.cell? ⟨gb1693,1,none⟩ = some (.int .i64 ((rd_T147 l0_0 x29_2).f1)) ∧ w'.cell? ⟨gb1689,0,none⟩ = some (.slice (some ad1692) l0_0.length c0_0) ∧ w'.cell? ⟨gb1689,1,none⟩ = some (.slice A0_1 l0_1.length c0_1) ∧ w'.cell? ⟨gb1689,2,none⟩ = some (.int .i64 a0_2) ∧ w'.cell? (ad1692.add (((ji22)).toNat * 2)) = some (.int .i64 ((rd_T147 l0_0 (ji22)).f0)) ∧ w'.cell? ⟨(ad1692.add (((ji22)).toNat * 2)).block,(ad1692.add (((ji22)).toNat * 2)).off + 1,none⟩ = some (.int .i64 ((rd_T147 l0_0 (ji22)).f1))) (ds:=[]) #[false,false,false,false,false,false,false,false,false,false,false,false,false,false,false,false,false,false,false,false,false,false,false,false,false,false,false,false,false,false,false,false,false] (by kernel_rfl) rfl rfl ⟨(blk_cell BK1693.out 0).trans rfl,(blk_cell BK1693.out 1).trans rfl,(blk_cell BK1689.out 0).trans rfl,(blk_cell BK1689.out 1).trans rfl,(blk_cell BK1689.out 2).trans rfl,((HB.out.cell (World.block_lt_of_cell? w _ hw1695_0)).trans hw1695_0),((HB.out.cell (World.block_lt_of_cell? w _ hw1695_1)).trans hw1695_1)⟩ (fun hHeld=>?_);refine with_tabW impl_StoreOk.tab7 impl_StoreOk.bits7 (fun HT_ HW_=>?_);generalize w62.drew = w63 at HO_3 BK1689 BK1693 HB hx1695_0 hx1695_1 hHeld ⊢;refine pure_ (i:=0) (N:=some 34) (v:=?_) (a':=?_) #[true,false,false,false,false,false,false,false,false,false,false,false,false,false,false,false,false,false,false,false,false,false,false,false,false,false,false,false,false,false,false,false,false] rfl rfl (any_of HT_.out (by kernel_rfl)) (fun _ _ _ h=>h) (Or.inl ⟨by rfl,?_⟩) ?_ ?_;rotate_left
            ·intro w';go_simp;with_reducible rfl
            rotate_left
            ·simp only [Act.put,List.setIfInBounds_toArray,List.set_cons_zero,List.set_cons_succ,i64_w,i32_w];rfl
            refine take_ (i:=1) (N:=some 35) (v:=?_) (a':=?_) #[true,true,false,false,false,false,false,false,false,false,false,false,false,false,false,false,false,false,false,false,false,false,false,false,false,false,false,false,false,false,false,false,false] rfl rfl (take_ofW HT_.out HW_.out (by kernel_rfl)) (fun _ _ _ h=>h) (Or.inl ⟨by rfl,?_⟩) hHeld ?_ ?_;rotate_left
            ·rintro w' ⟨s0,s1,s2,s3,s4,s5,s6⟩;go_simp;with_reducible rfl
            rotate_left
            ·simp only [Act.put,List.setIfInBounds_toArray,List.set_cons_zero,List.set_cons_succ,i64_w,i32_w];rfl
            refine one_ (i:=2) (N:=some 36) #[true,true,true,false,false,false,false,false,false,false,false,false,false,false,false,false,false,false,false,false,false,false,false,false,false,false,false,false,false,false,false,false,false] rfl rfl (one_of HT_.out (by kernel_rfl)) (by decide) (fun K hK=>?_);refine goes_ Try.func84 (by kernel_rfl) rfl #[.int .i64 ((rd_T147 l0_0 x29_2).f0),.int .i64 1,.int .i64 9] (by rfl) rfl rfl (by (try simp only [List.map_toArray,List.map_cons,List.map_nil]);first | done | rfl | (simp only [List.length_drop,List.length_take];rfl)) ?_;with_reducible refine (impl_in.calls ((rd_T147 l0_0 x29_2).f0) 1 9 true _ A19.out).mono ?_
            rintro e w' ⟨rfl,⟨nd,rfl⟩⟩;refine ⟨_,rfl,?_⟩;refine hK.out _ _ ⟨(blk_cell BK1693.out 0).trans rfl,(blk_cell BK1693.out 1).trans rfl,(blk_cell BK1689.out 0).trans rfl,(blk_cell BK1689.out 1).trans rfl,(blk_cell BK1689.out 2).trans rfl,((HB.out.cell (World.block_lt_of_cell? w _ hw1695_0)).trans hw1695_0),((HB.out.cell (World.block_lt_of_cell? w _ hw1695_1)).trans hw1695_1)⟩ (fun hHeld=>?_);clear hK K;refine norm_ (a':=?_) ?_ ?_;rotate_left
            ·show Act.put _ (some 36) _ = _;simp only [Act.put,List.setIfInBounds_toArray,List.set_cons_zero,List.set_cons_succ,i64_w,i32_w];rfl
            refine pure_ (i:=3) (N:=some 37) (v:=?_) (a':=?_) #[true,true,true,true,false,false,false,false,false,false,false,false,false,false,false,false,false,false,false,false,false,false,false,false,false,false,false,false,false,false,false,false,false] rfl rfl (any_of HT_.out (by kernel_rfl)) (fun _ _ _ h=>h) (Or.inl ⟨by rfl,?_⟩) ?_ ?_;rotate_left
            ·intro w';go_simp;with_reducible rfl
            rotate_left
            ·simp only [Act.put,List.setIfInBounds_toArray,List.set_cons_zero,List.set_cons_succ,i64_w,i32_w];rfl
            refine pure_ (i:=4) (N:=some 38) (v:=?_) (a':=?_) #[true,true,true,true,true,false,false,false,false,false,false,false,false,false,false,false,false,false,false,false,false,false,false,false,false,false,false,false,false,false,false,false,false] rfl rfl (any_of HT_.out (by kernel_rfl)) (fun _ _ _ h=>h) (Or.inl ⟨by rfl,?_⟩) ?_ ?_;rotate_left
            ·intro w';go_simp;with_reducible rfl
            rotate_left
            ·simp only [Act.put,List.setIfInBounds_toArray,List.set_cons_zero,List.set_cons_succ,i64_w,i32_w];rfl
            refine pure_ (i:=5) (N:=some 39) (v:=?_) (a':=?_) #[true,true,true,true,true,true,false,false,false,false,false,false,false,false,false,false,false,false,false,false,false,false,false,false,false,false,false,false,false,false,false,false,false] rfl rfl (any_of HT_.out (by kernel_rfl)) (fun _ _ _ h=>h) (Or.inl ⟨by rfl,?_⟩) ?_ ?_;rotate_left
            ·intro w';go_simp;with_reducible rfl
            rotate_left
            ·simp only [Act.put,List.setIfInBounds_toArray,List.set_cons_zero,List.set_cons_succ,i64_w,i32_w];rfl
            refine pure_ (i:=6) (N:=some 40) (v:=?_) (a':=?_) #[true,true,true,true,true,true,true,false,false,false,false,false,false,false,false,false,false,false,false,false,false,false,false,false,false,false,false,false,false,false,false,false,false] rfl rfl (any_of HT_.out (by kernel_rfl)) (fun _ _ _ h=>h) (Or.inl ⟨by rfl,?_⟩) ?_ ?_;rotate_left
            ·intro w';go_simp;with_reducible rfl
            rotate_left
            ·simp only [Act.put,List.setIfInBounds_toArray,List.set_cons_zero,List.set_cons_succ,i64_w,i32_w];rfl
            refine pure_ (i:=7) (N:=some 41) (v:=?_) (a':=?_) #[true,true,true,true,true,true,true,true,false,false,false,false,false,false,false,false,false,false,false,false,false,false,false,false,false,false,false,false,false,false,false,false,false] rfl rfl (any_of HT_.out (by kernel_rfl)) (fun _ _ _ h=>h) (Or.inl ⟨by rfl,?_⟩) ?_ ?_;rotate_left
            ·intro w';go_simp;with_reducible rfl
            rotate_left
            ·simp only [Act.put,List.setIfInBounds_toArray,List.set_cons_zero,List.set_cons_succ,i64_w,i32_w];rfl
            refine pure_ (i:=8) (N:=some 42) (v:=?_) (a':=?_) #[true,true,true,true,true,true,true,true,true,false,false,false,false,false,false,false,false,false,false,false,false,false,false,false,false,false,false,false,false,false,false,false,false] rfl rfl (any_of HT_.out (by kernel_rfl)) (fun _ _ _ h=>h) (Or.inl ⟨by rfl,?_⟩) ?_ ?_;rotate_left
            ·intro w';go_simp;with_reducible rfl
            rotate_left
            ·simp only [Act.put,List.setIfInBounds_toArray,List.set_cons_zero,List.set_cons_succ,i64_w,i32_w];rfl
            refine pure_ (i:=10) (N:=some 44) (v:=?_) (a':=?_) #[true,true,true,true,true,true,true,true,true,false,true,false,false,false,false,false,false,false,false,false,false,false,false,false,false,false,false,false,false,false,false,false,false] rfl rfl (any_of HT_.out (by kernel_rfl)) (fun _ _ _ h=>h) (Or.inl ⟨by rfl,?_⟩) ?_ ?_;rotate_left
            ·intro w';go_simp;with_reducible rfl
            rotate_left
            ·simp only [Act.put,List.setIfInBounds_toArray,List.set_cons_zero,List.set_cons_succ,i64_w,i32_w];rfl
            refine pure_ (i:=11) (N:=some 45) (v:=?_) (a':=?_) #[true,true,true,true,true,true,true,true,true,false,true,true,false,false,false,false,false,false,false,false,false,false,false,false,false,false,false,false,false,false,false,false,false] rfl rfl (any_of HT_.out (by kernel_rfl)) (fun _ _ _ h=>h) (Or.inl ⟨by rfl,?_⟩) ?_ ?_;rotate_left
            ·intro w';go_simp;with_reducible rfl
            rotate_left
            ·simp only [Act.put,List.setIfInBounds_toArray,List.set_cons_zero,List.set_cons_succ,i64_w,i32_w];rfl
            refine pure_ (i:=15) (N:=some 49) (v:=?_) (a':=?_) #[true,true,true,true,true,true,true,true,true,false,true,true,false,false,false,true,false,false,false,false,false,false,false,false,false,false,false,false,false,false,false,false,false] rfl rfl (any_of HT_.out (by kernel_rfl)) (fun _ _ _ h=>h) (Or.inl ⟨by rfl,?_⟩) ?_ ?_;rotate_left
            ·intro w';go_simp;with_reducible rfl
            rotate_left
            ·simp only [Act.put,List.setIfInBounds_toArray,List.set_cons_zero,List.set_cons_succ,i64_w,i32_w];rfl
            refine take_ (i:=9) (N:=some 43) (v:=?_) (a':=?_) #[true,true,true,true,true,true,true,true,true,true,true,true,false,false,false,true,false,false,false,false,false,false,false,false,false,false,false,false,false,false,false,false,false] rfl rfl (take_ofW HT_.out HW_.out (by kernel_rfl)) (fun _ _ _ h=>h) (Or.inl ⟨by rfl,?_⟩) hHeld ?_ ?_;rotate_left
            ·rintro w' ⟨s0,s1,s2,s3,s4,s5,s6⟩;go_simp;with_reducible rfl
            rotate_left
            ·simp only [Act.put,List.setIfInBounds_toArray,List.set_cons_zero,List.set_cons_succ,i64_w,i32_w];rfl
            refine pure_ (i:=12) (N:=some 46) (v:=?_) (a':=?_) #[true,true,true,true,true,true,true,true,true,true,true,true,true,false,false,true,false,false,false,false,false,false,false,false,false,false,false,false,false,false,false,false,false] rfl rfl (any_of HT_.out (by kernel_rfl)) (fun _ _ _ h=>h) (Or.inl ⟨by rfl,?_⟩) ?_ ?_;rotate_left
            ·intro w';go_simp;with_reducible rfl
            rotate_left
            ·simp only [Act.put,List.setIfInBounds_toArray,List.set_cons_zero,List.set_cons_succ,i64_w,i32_w];rfl
            refine pure_ (i:=13) (N:=some 47) (v:=?_) (a':=?_) #[true,true,true,true,true,true,true,true,true,true,true,true,true,true,false,true,false,false,false,false,false,false,false,false,false,false,false,false,false,false,false,false,false] rfl rfl (any_of HT_.out (by kernel_rfl)) (fun _ _ _ h=>h) (Or.inl ⟨by rfl,?_⟩) ?_ ?_;rotate_left
            ·intro w';go_simp;with_reducible rfl
            rotate_left
            ·simp only [Act.put,List.setIfInBounds_toArray,List.set_cons_zero,List.set_cons_succ,i64_w,i32_w];rfl
            refine take_ (i:=14) (N:=some 48) (v:=?_) (a':=?_) #[true,true,true,true,true,true,true,true,true,true,true,true,true,true,true,true,false,false,false,false,false,false,false,false,false,false,false,false,false,false,false,false,false] rfl rfl (take_ofW HT_.out HW_.out (by kernel_rfl)) (fun _ _ _ h=>h) (Or.inl ⟨by rfl,?_⟩) hHeld ?_ ?_;rotate_left
            ·rintro w' ⟨s0,s1,s2,s3,s4,s5,s6⟩;go_simp;with_reducible rfl
            rotate_left
            ·simp only [Act.put,List.setIfInBounds_toArray,List.set_cons_zero,List.set_cons_succ,i64_w,i32_w];rfl
            refine take_ (i:=16) (N:=some 50) (v:=?_) (a':=?_) #[true,true,true,true,true,true,true,true,true,true,true,true,true,true,true,true,true,false,false,false,false,false,false,false,false,false,false,false,false,false,false,false,false] rfl rfl (take_ofW HT_.out HW_.out (by kernel_rfl)) (fun _ _ _ h=>h) (Or.inl ⟨by rfl,?_⟩) hHeld ?_ ?_;rotate_left
            ·rintro w' ⟨s0,s1,s2,s3,s4,s5,s6⟩;go_simp;with_reducible rfl
            rotate_left
            ·simp only [Act.put,List.setIfInBounds_toArray,List.set_cons_zero,List.set_cons_succ,i64_w,i32_w];rfl
            refine pure_ (i:=17) (N:=some 51) (v:=?_) (a':=?_) #[true,true,true,true,true,true,true,true,true,true,true,true,true,true,true,true,true,true,false,false,false,false,false,false,false,false,false,false,false,false,false,false,false] rfl rfl (any_of HT_.out (by kernel_rfl)) (fun _ _ _ h=>h) (Or.inl ⟨by rfl,?_⟩) ?_ ?_;rotate_left
            ·intro w';go_simp;with_reducible rfl
            rotate_left
            ·simp only [Act.put,List.setIfInBounds_toArray,List.set_cons_zero,List.set_cons_succ,i64_w,i32_w];rfl
            refine pure_ (i:=18) (N:=some 52) (v:=?_) (a':=?_) #[true,true,true,true,true,true,true,true,true,true,true,true,true,true,true,true,true,true,true,false,false,false,false,false,false,false,false,false,false,false,false,false,false] rfl rfl (any_of HT_.out (by kernel_rfl)) (fun _ _ _ h=>h) (Or.inl ⟨by rfl,?_⟩) ?_ ?_;rotate_left
            ·intro w';go_simp;with_reducible rfl
            rotate_left
            ·simp only [Act.put,List.setIfInBounds_toArray,List.set_cons_zero,List.set_cons_succ,i64_w,i32_w];rfl
            refine pure_ (i:=19) (N:=some 53) (v:=?_) (a':=?_) #[true,true,true,true,true,true,true,true,true,true,true,true,true,true,true,true,true,true,true,true,false,false,false,false,false,false,false,false,false,false,false,false,false] rfl rfl (any_of HT_.out (by kernel_rfl)) (fun _ _ _ h=>h) (Or.inl ⟨by rfl,?_⟩) ?_ ?_;rotate_left
            ·intro w';go_simp;with_reducible rfl
            rotate_left
            ·simp only [Act.put,List.setIfInBounds_toArray,List.set_cons_zero,List.set_cons_succ,i64_w,i32_w];rfl
            refine pure_ (i:=20) (N:=some 54) (v:=?_) (a':=?_) #[true,true,true,true,true,true,true,true,true,true,true,true,true,true,true,true,true,true,true,true,true,false,false,false,false,false,false,false,false,false,false,false,false] rfl rfl (any_of HT_.out (by kernel_rfl)) (fun _ _ _ h=>h) (Or.inl ⟨by rfl,?_⟩) ?_ ?_;rotate_left
            ·intro w';go_simp;with_reducible rfl
            rotate_left
            ·simp only [Act.put,List.setIfInBounds_toArray,List.set_cons_zero,List.set_cons_succ,i64_w,i32_w];rfl
            refine pure_ (i:=21) (N:=some 55) (v:=?_) (a':=?_) #[true,true,true,true,true,true,true,true,true,true,true,true,true,true,true,true,true,true,true,true,true,true,false,false,false,false,false,false,false,false,false,false,false] rfl rfl (any_of HT_.out (by kernel_rfl)) (fun _ _ _ h=>h) (Or.inl ⟨by rfl,?_⟩) ?_ ?_;rotate_left
            ·intro w';go_simp;with_reducible rfl
            rotate_left
            ·simp only [Act.put,List.setIfInBounds_toArray,List.set_cons_zero,List.set_cons_succ,i64_w,i32_w];rfl
            refine take_ (i:=22) (N:=some 56) (v:=?_) (a':=?_) #[true,true,true,true,true,true,true,true,true,true,true,true,true,true,true,true,true,true,true,true,true,true,true,false,false,false,false,false,false,false,false,false,false] rfl rfl (take_ofW HT_.out HW_.out (by kernel_rfl)) (fun _ _ _ h=>h) (Or.inl ⟨by rfl,?_⟩) hHeld ?_ ?_;rotate_left
            ·rintro w' ⟨s0,s1,s2,s3,s4,s5,s6⟩;go_simp;with_reducible rfl
            rotate_left
            ·simp only [Act.put,List.setIfInBounds_toArray,List.set_cons_zero,List.set_cons_succ,i64_w,i32_w];rfl
            refine pure_ (i:=23) (N:=some 57) (v:=?_) (a':=?_) #[true,true,true,true,true,true,true,true,true,true,true,true,true,true,true,true,true,true,true,true,true,true,true,true,false,false,false,false,false,false,false,false,false] rfl rfl (any_of HT_.out (by kernel_rfl)) (fun _ _ _ h=>h) (Or.inl ⟨by rfl,?_⟩) ?_ ?_;rotate_left
            ·intro w';go_simp;with_reducible rfl
            rotate_left
            ·simp only [Act.put,List.setIfInBounds_toArray,List.set_cons_zero,List.set_cons_succ,i64_w,i32_w];rfl
            refine pure_ (i:=24) (N:=some 58) (v:=?_) (a':=?_) #[true,true,true,true,true,true,true,true,true,true,true,true,true,true,true,true,true,true,true,true,true,true,true,true,true,false,false,false,false,false,false,false,false] rfl rfl (any_of HT_.out (by kernel_rfl)) (fun _ _ _ h=>h) (Or.inl ⟨by rfl,?_⟩) ?_ ?_;rotate_left
            ·intro w';go_simp;with_reducible rfl
            rotate_left
            ·simp only [Act.put,List.setIfInBounds_toArray,List.set_cons_zero,List.set_cons_succ,i64_w,i32_w];rfl
            refine pure_ (i:=25) (N:=some 59) (v:=?_) (a':=?_) #[true,true,true,true,true,true,true,true,true,true,true,true,true,true,true,true,true,true,true,true,true,true,true,true,true,true,false,false,false,false,false,false,false] rfl rfl (any_of HT_.out (by kernel_rfl)) (fun _ _ _ h=>h) (Or.inl ⟨by rfl,?_⟩) ?_ ?_;rotate_left
            ·intro w';go_simp;with_reducible rfl
            rotate_left
            ·simp only [Act.put,List.setIfInBounds_toArray,List.set_cons_zero,List.set_cons_succ,i64_w,i32_w];rfl
            refine pure_ (i:=27) (N:=some 61) (v:=?_) (a':=?_) #[true,true,true,true,true,true,true,true,true,true,true,true,true,true,true,true,true,true,true,true,true,true,true,true,true,true,false,true,false,false,false,false,false] rfl rfl (any_of HT_.out (by kernel_rfl)) (fun _ _ _ h=>h) (Or.inl ⟨by rfl,?_⟩) ?_ ?_;rotate_left
            ·intro w';go_simp;with_reducible rfl
            rotate_left
            ·simp only [Act.put,List.setIfInBounds_toArray,List.set_cons_zero,List.set_cons_succ,i64_w,i32_w];rfl
            refine take_ (i:=26) (N:=some 60) (v:=?_) (a':=?_) #[true,true,true,true,true,true,true,true,true,true,true,true,true,true,true,true,true,true,true,true,true,true,true,true,true,true,true,true,false,false,false,false,false] rfl rfl (take_ofW HT_.out HW_.out (by kernel_rfl)) (fun _ _ _ h=>h) (Or.inl ⟨by rfl,?_⟩) hHeld ?_ ?_;rotate_left
            ·rintro w' ⟨s0,s1,s2,s3,s4,s5,s6⟩;go_simp;with_reducible rfl
            rotate_left
            ·simp only [Act.put,List.setIfInBounds_toArray,List.set_cons_zero,List.set_cons_succ,i64_w,i32_w];rfl
            refine take_ (i:=28) (N:=some 62) (v:=?_) (a':=?_) #[true,true,true,true,true,true,true,true,true,true,true,true,true,true,true,true,true,true,true,true,true,true,true,true,true,true,true,true,true,false,false,false,false] rfl rfl (take_ofW HT_.out HW_.out (by kernel_rfl)) (fun _ _ _ h=>h) (Or.inl ⟨by rfl,?_⟩) hHeld ?_ ?_;rotate_left
            ·rintro w' ⟨s0,s1,s2,s3,s4,s5,s6⟩;go_simp;with_reducible rfl
            rotate_left
            ·simp only [Act.put,List.setIfInBounds_toArray,List.set_cons_zero,List.set_cons_succ,i64_w,i32_w];rfl
            refine one_ (i:=29) (N:=some 63) #[true,true,true,true,true,true,true,true,true,true,true,true,true,true,true,true,true,true,true,true,true,true,true,true,true,true,true,true,true,true,false,false,false] rfl rfl (one_of HT_.out (by kernel_rfl)) (by decide) (fun K hK=>?_);refine goes_ Try.func92 (by kernel_rfl) rfl #[.agg #[.slice A0_1 l0_1.length c0_1],.int .i64 ((rd_T147 l0_0 x29_2).f1)] (by rfl) rfl rfl (by (try simp only [List.map_toArray,List.map_cons,List.map_nil]);first | done | rfl | (simp only [List.length_drop,List.length_take];rfl)) ?_;with_reducible refine (impl_isRoot.calls _ _ l0_1 ((rd_T147 l0_0 x29_2).f1) false _ ?side1 ?side2 A44.out).mono ?_
            (case side1=>repeat (first | exact (Kd.C_below HR0_1.out (hs2 HB GE1689 GE1693)) | (with_reducible refine Kd.C_alloc ?_ _) | (with_reducible refine Kd.C_drewN ?_ _) | (with_reducible refine Kd.C_drew ?_)))
            (case side2=>exact HC0_1.out)
            rintro e w64 ⟨rfl,hb⟩;refine ⟨_,rfl,?_⟩;have n0_:=Aside0.mk (Kd.R_below (rs HO_3) hb);have n1_:=Aside0.mk (blk_below (g:=gb1689) (o:=.cells #[.slice (some ad1692) l0_0.length c0_0,.slice A0_1 l0_1.length c0_1,.int .i64 a0_2] 83 (0,0)) (bs BK1689) hb);have n2_:=Aside0.mk (blk_below (g:=gb1693) (o:=.cells #[.int .i64 ((rd_T147 l0_0 x29_2).f0),.int .i64 ((rd_T147 l0_0 x29_2).f1)] 147 (0,0)) (bs BK1693) hb);have n3_:=Aside0.mk (below_step (hs2 HB GE1689 GE1693) hb);clear HO_3;clear BK1689;clear BK1693;clear HB;have HO_3:=n0_;have BK1689:=n1_;have BK1693:=n2_;have HB:=n3_;clear n0_ n1_ n2_ n3_
            (try clear hb)
            (try clear hb2)
            (try clear hk)
            (try clear hi)
            refine hK.out _ _ ⟨(blk_cell BK1693.out 0).trans rfl,(blk_cell BK1693.out 1).trans rfl,(blk_cell BK1689.out 0).trans rfl,(blk_cell BK1689.out 1).trans rfl,(blk_cell BK1689.out 2).trans rfl,((HB.out.cell (World.block_lt_of_cell? w _ hw1695_0)).trans hw1695_0),((HB.out.cell (World.block_lt_of_cell? w _ hw1695_1)).trans hw1695_1)⟩ (fun hHeld=>?_);clear hK K;refine norm_ (a':=?_) ?_ ?_;rotate_left
            ·show Act.put _ (some 63) _ = _;simp only [Act.put,List.setIfInBounds_toArray,List.set_cons_zero,List.set_cons_succ,i64_w,i32_w];rfl
            refine pure_ (i:=30) (N:=some 64) (v:=?_) (a':=?_) #[true,true,true,true,true,true,true,true,true,true,true,true,true,true,true,true,true,true,true,true,true,true,true,true,true,true,true,true,true,true,true,false,false] rfl rfl (any_of HT_.out (by kernel_rfl)) (fun _ _ _ h=>h) (Or.inl ⟨by rfl,?_⟩) ?_ ?_;rotate_left
            ·intro w';go_simp;with_reducible rfl
            rotate_left
            ·simp only [Act.put,List.setIfInBounds_toArray,List.set_cons_zero,List.set_cons_succ,i64_w,i32_w];rfl
            refine pure_ (i:=31) (N:=some 65) (v:=?_) (a':=?_) #[true,true,true,true,true,true,true,true,true,true,true,true,true,true,true,true,true,true,true,true,true,true,true,true,true,true,true,true,true,true,true,true,false] rfl rfl (any_of HT_.out (by kernel_rfl)) (fun _ _ _ h=>h) (Or.inl ⟨by rfl,?_⟩) ?_ ?_;rotate_left
            ·intro w';go_simp;with_reducible rfl
            rotate_left
            ·simp only [Act.put,List.setIfInBounds_toArray,List.set_cons_zero,List.set_cons_succ,i64_w,i32_w];rfl
            refine pure_ (i:=32) (N:=some 66) (v:=?_) (a':=?_) #[true,true,true,true,true,true,true,true,true,true,true,true,true,true,true,true,true,true,true,true,true,true,true,true,true,true,true,true,true,true,true,true,true] rfl rfl (any_of HT_.out (by kernel_rfl)) (fun _ _ _ h=>h) (Or.inl ⟨by rfl,?_⟩) ?_ ?_;rotate_left
            ·intro w';go_simp;with_reducible rfl
            rotate_left
            ·simp only [Act.put,List.setIfInBounds_toArray,List.set_cons_zero,List.set_cons_succ,i64_w,i32_w];rfl
            refine done_ (done_of HT_.out (by kernel_rfl)) ?_
            try go_wp2
            go_ret
            exact ⟨by first | rfl | (simp [errW_none,errW_some] <;> rfl) | (simp only [← hji22];first | rfl | (simp [errW_none,errW_some] <;> rfl)) | (simp [*,errW_none,errW_some] <;> rfl),hs2 HB GE1689 GE1693⟩
           rw [if_neg c24] at H;exact absurd H (by simp)
          rw [if_neg c23] at H;exact absurd H (by simp)
         rw [if_neg c21] at H;have c21b0 : decide (0 < x29_2) = false:=decide_eq_false c21;clear c21
         by_cases c65 : ((rd_T147 l0_0 x29_2).f1) = (-1)
         ·rw [if_pos c65] at H;have c65b0 : (((rd_T147 l0_0 x29_2).f1) == (-1)) = true:=beq_iff_eq.mpr c65;have c65b1 : (((rd_T147 l0_0 x29_2).f1) != (-1)) = false:=bne_eq_false_iff_eq.mpr c65;clear c65;replace H:=Option.bind_eq_some_iff.mp H;obtain ⟨t1709,A660,H⟩:=H;replace H : (if x3_2.length + t1709.length < 17592186044416 then (impl_StoreOk.l0 k2 (x3_2 ++ t1709) l0_0 (l0_0.length : Int) (wrap64 (x29_2 + 1)) l0_0 l0_1 a0_2) else (none)) = some r:=H;have A66:=Aside0.mk A660;clear A660
          by_cases c67 : x3_2.length + t1709.length < 17592186044416
          ·rw [if_pos c67] at H;have LMc67:=Aside0.mk c67;clear c67;obtain ⟨y1712,hy1712⟩ : ∃ y_ : List Int,y_ = (x3_2 ++ t1709):=⟨_,rfl⟩;replace H : (impl_StoreOk.l0 k2 y1712 l0_0 (l0_0.length : Int) (wrap64 (x29_2 + 1)) l0_0 l0_1 a0_2) = some r:=by first | (rw [hy1712];with_reducible exact H) | (have H2_:=(Option.bind_some _ _).symm.trans H;rw [hy1712];with_reducible exact H2_) | (have H2_:=(Option.bind_some _ _).symm.trans H;with_reducible exact H2_) | with_reducible exact H | (rw [hy1712];exact H) | exact H
           have Ny1712:=Aside0.mk hy1712;clear hy1712;have H':=Aside0.mk H;clear H;have p1692 : 0 ≤ (x29_2 : Int):=of_decide_eq_true (by first | (with_reducible assumption) | assumption);have q1692 : x29_2 < (l0_0.length : Int):=of_decide_eq_true (by first | (with_reducible assumption) | assumption);obtain ⟨ad1692,e1692,hx1692_0,hx1692_1⟩:=at_T147 HR0_0.out x29_2 p1692 q1692;cases e1692;replace hx1692_0:=(HB.out.cell (World.block_lt_of_cell? w _ hx1692_0)).trans hx1692_0;replace hx1692_1:=(HB.out.cell (World.block_lt_of_cell? w _ hx1692_1)).trans hx1692_1;replace p1692:=eq_true p1692;replace q1692:=eq_true q1692
           try go_wp2_with (first | ((with_reducible refine gate_dst (N:=5) rfl ?_);refine box_event ?hg (N:=5) ?hd (cs:=#[.int .i64 0,.int .i64 0]) (t:=147) ?hr ?_;(case hd=>rfl);(case hg=>rfl);(case hr=>first | (go_simp;done) | (go_simp;rfl));intro gb1693 hg w68 hbox hb;have n0_:=Aside0.mk (Kd.R_below (rs HO_3) hb);have n1_:=Aside0.mk (blk_below (g:=gb1689) (o:=.cells #[.slice (some ad1692) l0_0.length c0_0,.slice A0_1 l0_1.length c0_1,.int .i64 a0_2] 83 (0,0)) (bs BK1689) hb);have n2_:=Aside0.mk (below_step (hs1 HB GE1689) hb);have n3_:=Aside0.mk (hbox);have n4_:=Aside0.mk ((by rw [hg];exact (below_size (hs1 HB GE1689)) : w.heap.size ≤ gb1693));have n5_:=Aside0.mk ((by rw [hg];exact (below_size (hs1 HB GE1689)) : w.heap.size ≤ gb1693));have n6_:=Aside0.mk ((by rw [hg];exact Nat.ne_of_lt (blk_lt (g:=gb1689) (o:=.cells #[.slice (some ad1692) l0_0.length c0_0,.slice A0_1 l0_1.length c0_1,.int .i64 a0_2] 83 (0,0)) (bs BK1689)) : gb1689 ≠ gb1693));have n7_:=Aside0.mk ((by rw [hg];exact Nat.ne_of_gt (blk_lt (g:=gb1689) (o:=.cells #[.slice (some ad1692) l0_0.length c0_0,.slice A0_1 l0_1.length c0_1,.int .i64 a0_2] 83 (0,0)) (bs BK1689)) : gb1693 ≠ gb1689));clear HO_3;clear BK1689;clear HB;have HO_3:=n0_;have BK1689:=n1_;have HB:=n2_;have BK1693:=n3_;have GW1693:=n4_;have GE1693:=n5_;have NB1689_1693:=n6_;have NB1693_1689:=n7_;clear n0_ n1_ n2_ n3_ n4_ n5_ n6_ n7_;clear hb hbox hg;have hnb69:=NB1693_1689.out;have hnc69:=NB1689_1693.out;have hcz70_0 : w68.cell? ⟨gb1693,0,none⟩ = some (.int .i64 0):=(blk_cell BK1693.out 0).trans rfl;have hcz70_1 : w68.cell? ⟨gb1693,1,none⟩ = some (.int .i64 0):=(blk_cell BK1693.out 1).trans rfl;have hfz70_0:=blk_frozen BK1693.out 0;have hfz70_1:=blk_frozen BK1693.out 1))
           have n0_ : Aside0 (Kd.R (Kd.int .i64) 3 ((w68.setCell ⟨gb1693,0,none⟩ (.int .i64 ((rd_T147 l0_0 x29_2).f0))).setCell ⟨gb1693,1,none⟩ (.int .i64 ((rd_T147 l0_0 x29_2).f1))) w.heap.size (fun _=>True) u3 x3_2):=⟨by (with_reducible repeat (first | apply Kd.R_alloc | apply Kd.R_drewN | apply Kd.R_drew));exact Kd.R_mono (Kd.R_far (p:=⟨gb1693,1,none⟩) (Kd.R_far (p:=⟨gb1693,0,none⟩) (Kd.R_types HO_3.out BK1693.out (by decide)) (fun _ hk=>hk.2) (.int .i64 ((rd_T147 l0_0 x29_2).f0))) (fun _ hk=>hk.2) (.int .i64 ((rd_T147 l0_0 x29_2).f1))) (fun _ hk=>trivial)⟩;have n1_ : Aside0 (((w68.setCell ⟨gb1693,0,none⟩ (.int .i64 ((rd_T147 l0_0 x29_2).f0))).setCell ⟨gb1693,1,none⟩ (.int .i64 ((rd_T147 l0_0 x29_2).f1))).heap[gb1689]? = some (.cells #[.slice (some ad1692) l0_0.length c0_0,.slice A0_1 l0_1.length c0_1,.int .i64 a0_2] 83 (0,0))):=⟨by (with_reducible repeat (first | refine blk_drewN ?_ _ | refine blk_drew ?_ | refine blk_alloc ?_ _));refine blk_far ?_ NB1689_1693.out _;(with_reducible repeat (first | refine blk_drewN ?_ _ | refine blk_drew ?_ | refine blk_alloc ?_ _));refine blk_far ?_ NB1689_1693.out _;(with_reducible repeat (first | refine blk_drewN ?_ _ | refine blk_drew ?_ | refine blk_alloc ?_ _));exact BK1689.out⟩;have n2_ : Aside0 (((w68.setCell ⟨gb1693,0,none⟩ (.int .i64 ((rd_T147 l0_0 x29_2).f0))).setCell ⟨gb1693,1,none⟩ (.int .i64 ((rd_T147 l0_0 x29_2).f1))).heap[gb1693]? = some (.cells #[.int .i64 ((rd_T147 l0_0 x29_2).f0),.int .i64 ((rd_T147 l0_0 x29_2).f1)] 147 (0,0))):=⟨by (with_reducible repeat (first | refine blk_drewN ?_ _ | refine blk_drew ?_ | refine blk_alloc ?_ _));refine blk_put (cs:=#[.int .i64 ((rd_T147 l0_0 x29_2).f0),.int .i64 0]) ?_ 1 _ rfl;(with_reducible repeat (first | refine blk_drewN ?_ _ | refine blk_drew ?_ | refine blk_alloc ?_ _));refine blk_put (cs:=#[.int .i64 0,.int .i64 0]) ?_ 0 _ rfl;(with_reducible repeat (first | refine blk_drewN ?_ _ | refine blk_drew ?_ | refine blk_alloc ?_ _));exact BK1693.out⟩;have n3_ : Aside0 (Below w.heap.size w ((w68.setCell ⟨gb1693,0,none⟩ (.int .i64 ((rd_T147 l0_0 x29_2).f0))).setCell ⟨gb1693,1,none⟩ (.int .i64 ((rd_T147 l0_0 x29_2).f1)))):=⟨hs2 HB GE1689 GE1693⟩
           (try clear HO_3)
           (try clear BK1689)
           (try clear BK1693)
           (try clear HB)
           generalize ((w68.setCell ⟨gb1693,0,none⟩ (.int .i64 ((rd_T147 l0_0 x29_2).f0))).setCell ⟨gb1693,1,none⟩ (.int .i64 ((rd_T147 l0_0 x29_2).f1))) = w71 at n0_ n1_ n2_ n3_ ⊢;have HO_3:=n0_;have BK1689:=n1_;have BK1693:=n2_;have HB:=n3_;clear n0_ n1_ n2_ n3_;have n0_:=Aside0.mk (Kd.R_drew HO_3.out);have n1_:=Aside0.mk (blk_drew BK1689.out);have n2_:=Aside0.mk (blk_drew BK1693.out);have n3_:=Aside0.mk (below_drew1 HB.out);clear HO_3;clear BK1689;clear BK1693;clear HB;have HO_3:=n0_;have BK1689:=n1_;have BK1693:=n2_;have HB:=n3_;clear n0_ n1_ n2_ n3_;refine start_ (n:=33) (S:=fun w'=>w'.cell? ⟨gb1693,0,none⟩ = some (.int .i64 ((rd_T147 l0_0 x29_2).f0)) ∧ w'.cell? ⟨gb1693,1,none⟩ = some (.int .i64 ((rd_T147 l0_0 x29_2).f1))) (ds:=[]) #[false,false,false,false,false,false,false,false,false,false,false,false,false,false,false,false,false,false,false,false,false,false,false,false,false,false,false,false,false,false,false,false,false] (by kernel_rfl) rfl rfl ⟨(blk_cell BK1693.out 0).trans rfl,(blk_cell BK1693.out 1).trans rfl⟩ (fun hHeld=>?_);refine with_tabW impl_StoreOk.tab7 impl_StoreOk.bits7 (fun HT_ HW_=>?_);generalize w71.drew = w72 at HO_3 BK1689 BK1693 HB hHeld ⊢;refine pure_ (i:=0) (N:=some 34) (v:=?_) (a':=?_) #[true,false,false,false,false,false,false,false,false,false,false,false,false,false,false,false,false,false,false,false,false,false,false,false,false,false,false,false,false,false,false,false,false] rfl rfl (any_of HT_.out (by kernel_rfl)) (fun _ _ _ h=>h) (Or.inl ⟨by rfl,?_⟩) ?_ ?_;rotate_left
           ·intro w';go_simp;with_reducible rfl
           rotate_left
           ·simp only [Act.put,List.setIfInBounds_toArray,List.set_cons_zero,List.set_cons_succ,i64_w,i32_w];rfl
           refine take_ (i:=1) (N:=some 35) (v:=?_) (a':=?_) #[true,true,false,false,false,false,false,false,false,false,false,false,false,false,false,false,false,false,false,false,false,false,false,false,false,false,false,false,false,false,false,false,false] rfl rfl (take_ofW HT_.out HW_.out (by kernel_rfl)) (fun _ _ _ h=>h) (Or.inl ⟨by rfl,?_⟩) hHeld ?_ ?_;rotate_left
           ·rintro w' ⟨s0,s1⟩;go_simp;with_reducible rfl
           rotate_left
           ·simp only [Act.put,List.setIfInBounds_toArray,List.set_cons_zero,List.set_cons_succ,i64_w,i32_w];rfl
           refine one_ (i:=2) (N:=some 36) #[true,true,true,false,false,false,false,false,false,false,false,false,false,false,false,false,false,false,false,false,false,false,false,false,false,false,false,false,false,false,false,false,false] rfl rfl (one_of HT_.out (by kernel_rfl)) (by decide) (fun K hK=>?_);refine goes_ Try.func84 (by kernel_rfl) rfl #[.int .i64 ((rd_T147 l0_0 x29_2).f0),.int .i64 1,.int .i64 9] (by rfl) rfl rfl (by (try simp only [List.map_toArray,List.map_cons,List.map_nil]);first | done | rfl | (simp only [List.length_drop,List.length_take];rfl)) ?_;with_reducible refine (impl_in.calls ((rd_T147 l0_0 x29_2).f0) 1 9 true _ A19.out).mono ?_
           rintro e w' ⟨rfl,⟨nd,rfl⟩⟩;refine ⟨_,rfl,?_⟩;refine hK.out _ _ ⟨(blk_cell BK1693.out 0).trans rfl,(blk_cell BK1693.out 1).trans rfl⟩ (fun hHeld=>?_);clear hK K;refine norm_ (a':=?_) ?_ ?_;rotate_left
           ·show Act.put _ (some 36) _ = _;simp only [Act.put,List.setIfInBounds_toArray,List.set_cons_zero,List.set_cons_succ,i64_w,i32_w];rfl
           refine pure_ (i:=3) (N:=some 37) (v:=?_) (a':=?_) #[true,true,true,true,false,false,false,false,false,false,false,false,false,false,false,false,false,false,false,false,false,false,false,false,false,false,false,false,false,false,false,false,false] rfl rfl (any_of HT_.out (by kernel_rfl)) (fun _ _ _ h=>h) (Or.inl ⟨by rfl,?_⟩) ?_ ?_;rotate_left
           ·intro w';go_simp;with_reducible rfl
           rotate_left
           ·simp only [Act.put,List.setIfInBounds_toArray,List.set_cons_zero,List.set_cons_succ,i64_w,i32_w];rfl
           refine pure_ (i:=4) (N:=some 38) (v:=?_) (a':=?_) #[true,true,true,true,true,false,false,false,false,false,false,false,false,false,false,false,false,false,false,false,false,false,false,false,false,false,false,false,false,false,false,false,false] rfl rfl (any_of HT_.out (by kernel_rfl)) (fun _ _ _ h=>h) (Or.inl ⟨by rfl,?_⟩) ?_ ?_;rotate_left
           ·intro w';go_simp;with_reducible rfl
           rotate_left
           ·simp only [Act.put,List.setIfInBounds_toArray,List.set_cons_zero,List.set_cons_succ,i64_w,i32_w];rfl
           refine pure_ (i:=5) (N:=some 39) (v:=?_) (a':=?_) #[true,true,true,true,true,true,false,false,false,false,false,false,false,false,false,false,false,false,false,false,false,false,false,false,false,false,false,false,false,false,false,false,false] rfl rfl (any_of HT_.out (by kernel_rfl)) (fun _ _ _ h=>h) (Or.inl ⟨by rfl,?_⟩) ?_ ?_;rotate_left
           ·intro w';go_simp;with_reducible rfl
           rotate_left
           ·simp only [Act.put,List.setIfInBounds_toArray,List.set_cons_zero,List.set_cons_succ,i64_w,i32_w];rfl
           refine pure_ (i:=6) (N:=some 40) (v:=?_) (a':=?_) #[true,true,true,true,true,true,true,false,false,false,false,false,false,false,false,false,false,false,false,false,false,false,false,false,false,false,false,false,false,false,false,false,false] rfl rfl (any_of HT_.out (by kernel_rfl)) (fun _ _ _ h=>h) (Or.inl ⟨by rfl,?_⟩) ?_ ?_;rotate_left
           ·intro w';go_simp;with_reducible rfl
           rotate_left
           ·simp only [Act.put,List.setIfInBounds_toArray,List.set_cons_zero,List.set_cons_succ,i64_w,i32_w];rfl
           refine pure_ (i:=7) (N:=some 41) (v:=?_) (a':=?_) #[true,true,true,true,true,true,true,true,false,false,false,false,false,false,false,false,false,false,false,false,false,false,false,false,false,false,false,false,false,false,false,false,false] rfl rfl (any_of HT_.out (by kernel_rfl)) (fun _ _ _ h=>h) (Or.inl ⟨by rfl,?_⟩) ?_ ?_;rotate_left
           ·intro w';go_simp;with_reducible rfl
           rotate_left
           ·simp only [Act.put,List.setIfInBounds_toArray,List.set_cons_zero,List.set_cons_succ,i64_w,i32_w];rfl
           refine pure_ (i:=8) (N:=some 42) (v:=undef) (a':=?_) #[true,true,true,true,true,true,true,true,true,false,false,false,false,false,false,false,false,false,false,false,false,false,false,false,false,false,false,false,false,false,false,false,false] rfl rfl (any_of HT_.out (by kernel_rfl)) (fun _ _ _ h=>h) (Or.inr ⟨by rfl,rfl⟩) ?_ ?_;rotate_left
           ·simp only [Act.put,List.setIfInBounds_toArray,List.set_cons_zero,List.set_cons_succ,i64_w,i32_w];rfl
           refine pure_ (i:=9) (N:=some 43) (v:=undef) (a':=?_) #[true,true,true,true,true,true,true,true,true,true,false,false,false,false,false,false,false,false,false,false,false,false,false,false,false,false,false,false,false,false,false,false,false] rfl rfl (any_of HT_.out (by kernel_rfl)) (fun _ _ _ h=>h) (Or.inr ⟨by rfl,rfl⟩) ?_ ?_;rotate_left
           ·simp only [Act.put,List.setIfInBounds_toArray,List.set_cons_zero,List.set_cons_succ,i64_w,i32_w];rfl
           refine pure_ (i:=10) (N:=some 44) (v:=undef) (a':=?_) #[true,true,true,true,true,true,true,true,true,true,true,false,false,false,false,false,false,false,false,false,false,false,false,false,false,false,false,false,false,false,false,false,false] rfl rfl (any_of HT_.out (by kernel_rfl)) (fun _ _ _ h=>h) (Or.inr ⟨by rfl,rfl⟩) ?_ ?_;rotate_left
           ·simp only [Act.put,List.setIfInBounds_toArray,List.set_cons_zero,List.set_cons_succ,i64_w,i32_w];rfl
           refine pure_ (i:=11) (N:=some 45) (v:=undef) (a':=?_) #[true,true,true,true,true,true,true,true,true,true,true,true,false,false,false,false,false,false,false,false,false,false,false,false,false,false,false,false,false,false,false,false,false] rfl rfl (any_of HT_.out (by kernel_rfl)) (fun _ _ _ h=>h) (Or.inr ⟨by rfl,rfl⟩) ?_ ?_;rotate_left
           ·simp only [Act.put,List.setIfInBounds_toArray,List.set_cons_zero,List.set_cons_succ,i64_w,i32_w];rfl
           refine pure_ (i:=12) (N:=some 46) (v:=undef) (a':=?_) #[true,true,true,true,true,true,true,true,true,true,true,true,true,false,false,false,false,false,false,false,false,false,false,false,false,false,false,false,false,false,false,false,false] rfl rfl (any_of HT_.out (by kernel_rfl)) (fun _ _ _ h=>h) (Or.inr ⟨by rfl,rfl⟩) ?_ ?_;rotate_left
           ·simp only [Act.put,List.setIfInBounds_toArray,List.set_cons_zero,List.set_cons_succ,i64_w,i32_w];rfl
           refine pure_ (i:=13) (N:=some 47) (v:=undef) (a':=?_) #[true,true,true,true,true,true,true,true,true,true,true,true,true,true,false,false,false,false,false,false,false,false,false,false,false,false,false,false,false,false,false,false,false] rfl rfl (any_of HT_.out (by kernel_rfl)) (fun _ _ _ h=>h) (Or.inr ⟨by rfl,rfl⟩) ?_ ?_;rotate_left
           ·simp only [Act.put,List.setIfInBounds_toArray,List.set_cons_zero,List.set_cons_succ,i64_w,i32_w];rfl
           refine pure_ (i:=14) (N:=some 48) (v:=undef) (a':=?_) #[true,true,true,true,true,true,true,true,true,true,true,true,true,true,true,false,false,false,false,false,false,false,false,false,false,false,false,false,false,false,false,false,false] rfl rfl (any_of HT_.out (by kernel_rfl)) (fun _ _ _ h=>h) (Or.inr ⟨by rfl,rfl⟩) ?_ ?_;rotate_left
           ·simp only [Act.put,List.setIfInBounds_toArray,List.set_cons_zero,List.set_cons_succ,i64_w,i32_w];rfl
           refine pure_ (i:=15) (N:=some 49) (v:=undef) (a':=?_) #[true,true,true,true,true,true,true,true,true,true,true,true,true,true,true,true,false,false,false,false,false,false,false,false,false,false,false,false,false,false,false,false,false] rfl rfl (any_of HT_.out (by kernel_rfl)) (fun _ _ _ h=>h) (Or.inr ⟨by rfl,rfl⟩) ?_ ?_;rotate_left
           ·simp only [Act.put,List.setIfInBounds_toArray,List.set_cons_zero,List.set_cons_succ,i64_w,i32_w];rfl
           refine pure_ (i:=16) (N:=some 50) (v:=undef) (a':=?_) #[true,true,true,true,true,true,true,true,true,true,true,true,true,true,true,true,true,false,false,false,false,false,false,false,false,false,false,false,false,false,false,false,false] rfl rfl (any_of HT_.out (by kernel_rfl)) (fun _ _ _ h=>h) (Or.inr ⟨by rfl,rfl⟩) ?_ ?_;rotate_left
           ·simp only [Act.put,List.setIfInBounds_toArray,List.set_cons_zero,List.set_cons_succ,i64_w,i32_w];rfl
           refine pure_ (i:=17) (N:=some 51) (v:=undef) (a':=?_) #[true,true,true,true,true,true,true,true,true,true,true,true,true,true,true,true,true,true,false,false,false,false,false,false,false,false,false,false,false,false,false,false,false] rfl rfl (any_of HT_.out (by kernel_rfl)) (fun _ _ _ h=>h) (Or.inr ⟨by rfl,rfl⟩) ?_ ?_;rotate_left
           ·simp only [Act.put,List.setIfInBounds_toArray,List.set_cons_zero,List.set_cons_succ,i64_w,i32_w];rfl
           refine pure_ (i:=18) (N:=some 52) (v:=?_) (a':=?_) #[true,true,true,true,true,true,true,true,true,true,true,true,true,true,true,true,true,true,true,false,false,false,false,false,false,false,false,false,false,false,false,false,false] rfl rfl (any_of HT_.out (by kernel_rfl)) (fun _ _ _ h=>h) (Or.inl ⟨by rfl,?_⟩) ?_ ?_;rotate_left
           ·intro w';go_simp;with_reducible rfl
           rotate_left
           ·simp only [Act.put,List.setIfInBounds_toArray,List.set_cons_zero,List.set_cons_succ,i64_w,i32_w];rfl
           refine pure_ (i:=19) (N:=some 53) (v:=?_) (a':=?_) #[true,true,true,true,true,true,true,true,true,true,true,true,true,true,true,true,true,true,true,true,false,false,false,false,false,false,false,false,false,false,false,false,false] rfl rfl (any_of HT_.out (by kernel_rfl)) (fun _ _ _ h=>h) (Or.inl ⟨by rfl,?_⟩) ?_ ?_;rotate_left
           ·intro w';go_simp;with_reducible rfl
           rotate_left
           ·simp only [Act.put,List.setIfInBounds_toArray,List.set_cons_zero,List.set_cons_succ,i64_w,i32_w];rfl
           refine pure_ (i:=20) (N:=some 54) (v:=?_) (a':=?_) #[true,true,true,true,true,true,true,true,true,true,true,true,true,true,true,true,true,true,true,true,true,false,false,false,false,false,false,false,false,false,false,false,false] rfl rfl (any_of HT_.out (by kernel_rfl)) (fun _ _ _ h=>h) (Or.inl ⟨by rfl,?_⟩) ?_ ?_;rotate_left
           ·intro w';go_simp;with_reducible rfl
           rotate_left
           ·simp only [Act.put,List.setIfInBounds_toArray,List.set_cons_zero,List.set_cons_succ,i64_w,i32_w];rfl
           refine pure_ (i:=21) (N:=some 55) (v:=?_) (a':=?_) #[true,true,true,true,true,true,true,true,true,true,true,true,true,true,true,true,true,true,true,true,true,true,false,false,false,false,false,false,false,false,false,false,false] rfl rfl (any_of HT_.out (by kernel_rfl)) (fun _ _ _ h=>h) (Or.inl ⟨by rfl,?_⟩) ?_ ?_;rotate_left
           ·intro w';go_simp;with_reducible rfl
           rotate_left
           ·simp only [Act.put,List.setIfInBounds_toArray,List.set_cons_zero,List.set_cons_succ,i64_w,i32_w];rfl
           refine take_ (i:=22) (N:=some 56) (v:=?_) (a':=?_) #[true,true,true,true,true,true,true,true,true,true,true,true,true,true,true,true,true,true,true,true,true,true,true,false,false,false,false,false,false,false,false,false,false] rfl rfl (take_ofW HT_.out HW_.out (by kernel_rfl)) (fun _ _ _ h=>h) (Or.inl ⟨by rfl,?_⟩) hHeld ?_ ?_;rotate_left
           ·rintro w' ⟨s0,s1⟩;go_simp;with_reducible rfl
           rotate_left
           ·simp only [Act.put,List.setIfInBounds_toArray,List.set_cons_zero,List.set_cons_succ,i64_w,i32_w];rfl
           refine pure_ (i:=23) (N:=some 57) (v:=?_) (a':=?_) #[true,true,true,true,true,true,true,true,true,true,true,true,true,true,true,true,true,true,true,true,true,true,true,true,false,false,false,false,false,false,false,false,false] rfl rfl (any_of HT_.out (by kernel_rfl)) (fun _ _ _ h=>h) (Or.inl ⟨by rfl,?_⟩) ?_ ?_;rotate_left
           ·intro w';go_simp;with_reducible rfl
           rotate_left
           ·simp only [Act.put,List.setIfInBounds_toArray,List.set_cons_zero,List.set_cons_succ,i64_w,i32_w];rfl
           refine pure_ (i:=24) (N:=some 58) (v:=?_) (a':=?_) #[true,true,true,true,true,true,true,true,true,true,true,true,true,true,true,true,true,true,true,true,true,true,true,true,true,false,false,false,false,false,false,false,false] rfl rfl (any_of HT_.out (by kernel_rfl)) (fun _ _ _ h=>h) (Or.inl ⟨by rfl,?_⟩) ?_ ?_;rotate_left
           ·intro w';go_simp;with_reducible rfl
           rotate_left
           ·simp only [Act.put,List.setIfInBounds_toArray,List.set_cons_zero,List.set_cons_succ,i64_w,i32_w];rfl
           refine pure_ (i:=25) (N:=some 59) (v:=undef) (a':=?_) #[true,true,true,true,true,true,true,true,true,true,true,true,true,true,true,true,true,true,true,true,true,true,true,true,true,true,false,false,false,false,false,false,false] rfl rfl (any_of HT_.out (by kernel_rfl)) (fun _ _ _ h=>h) (Or.inr ⟨by rfl,rfl⟩) ?_ ?_;rotate_left
           ·simp only [Act.put,List.setIfInBounds_toArray,List.set_cons_zero,List.set_cons_succ,i64_w,i32_w];rfl
           refine pure_ (i:=26) (N:=some 60) (v:=undef) (a':=?_) #[true,true,true,true,true,true,true,true,true,true,true,true,true,true,true,true,true,true,true,true,true,true,true,true,true,true,true,false,false,false,false,false,false] rfl rfl (any_of HT_.out (by kernel_rfl)) (fun _ _ _ h=>h) (Or.inr ⟨by rfl,rfl⟩) ?_ ?_;rotate_left
           ·simp only [Act.put,List.setIfInBounds_toArray,List.set_cons_zero,List.set_cons_succ,i64_w,i32_w];rfl
           refine pure_ (i:=27) (N:=some 61) (v:=undef) (a':=?_) #[true,true,true,true,true,true,true,true,true,true,true,true,true,true,true,true,true,true,true,true,true,true,true,true,true,true,true,true,false,false,false,false,false] rfl rfl (any_of HT_.out (by kernel_rfl)) (fun _ _ _ h=>h) (Or.inr ⟨by rfl,rfl⟩) ?_ ?_;rotate_left
           ·simp only [Act.put,List.setIfInBounds_toArray,List.set_cons_zero,List.set_cons_succ,i64_w,i32_w];rfl
           refine pure_ (i:=28) (N:=some 62) (v:=undef) (a':=?_) #[true,true,true,true,true,true,true,true,true,true,true,true,true,true,true,true,true,true,true,true,true,true,true,true,true,true,true,true,true,false,false,false,false] rfl rfl (any_of HT_.out (by kernel_rfl)) (fun _ _ _ h=>h) (Or.inr ⟨by rfl,rfl⟩) ?_ ?_;rotate_left
           ·simp only [Act.put,List.setIfInBounds_toArray,List.set_cons_zero,List.set_cons_succ,i64_w,i32_w];rfl
           refine pure_ (i:=29) (N:=some 63) (v:=undef) (a':=?_) #[true,true,true,true,true,true,true,true,true,true,true,true,true,true,true,true,true,true,true,true,true,true,true,true,true,true,true,true,true,true,false,false,false] rfl rfl (any_of HT_.out (by kernel_rfl)) (fun _ _ _ h=>h) (Or.inr ⟨by rfl,rfl⟩) ?_ ?_;rotate_left
           ·simp only [Act.put,List.setIfInBounds_toArray,List.set_cons_zero,List.set_cons_succ,i64_w,i32_w];rfl
           refine pure_ (i:=30) (N:=some 64) (v:=undef) (a':=?_) #[true,true,true,true,true,true,true,true,true,true,true,true,true,true,true,true,true,true,true,true,true,true,true,true,true,true,true,true,true,true,true,false,false] rfl rfl (any_of HT_.out (by kernel_rfl)) (fun _ _ _ h=>h) (Or.inr ⟨by rfl,rfl⟩) ?_ ?_;rotate_left
           ·simp only [Act.put,List.setIfInBounds_toArray,List.set_cons_zero,List.set_cons_succ,i64_w,i32_w];rfl
           refine pure_ (i:=31) (N:=some 65) (v:=?_) (a':=?_) #[true,true,true,true,true,true,true,true,true,true,true,true,true,true,true,true,true,true,true,true,true,true,true,true,true,true,true,true,true,true,true,true,false] rfl rfl (any_of HT_.out (by kernel_rfl)) (fun _ _ _ h=>h) (Or.inl ⟨by rfl,?_⟩) ?_ ?_;rotate_left
           ·intro w';go_simp;with_reducible rfl
           rotate_left
           ·simp only [Act.put,List.setIfInBounds_toArray,List.set_cons_zero,List.set_cons_succ,i64_w,i32_w];rfl
           refine pure_ (i:=32) (N:=some 66) (v:=?_) (a':=?_) #[true,true,true,true,true,true,true,true,true,true,true,true,true,true,true,true,true,true,true,true,true,true,true,true,true,true,true,true,true,true,true,true,true] rfl rfl (any_of HT_.out (by kernel_rfl)) (fun _ _ _ h=>h) (Or.inl ⟨by rfl,?_⟩) ?_ ?_;rotate_left
           ·intro w';go_simp;with_reducible rfl
           rotate_left
           ·simp only [Act.put,List.setIfInBounds_toArray,List.set_cons_zero,List.set_cons_succ,i64_w,i32_w];rfl
           refine done_ (done_of HT_.out (by kernel_rfl)) ?_;have hcz73_0 : w72.cell? ⟨gb1689,0,none⟩ = some (.slice (some ad1692) l0_0.length c0_0):=(blk_cell BK1689.out 0).trans rfl;have hcz73_1 : w72.cell? ⟨gb1689,1,none⟩ = some (.slice A0_1 l0_1.length c0_1):=(blk_cell BK1689.out 1).trans rfl;have hcz73_2 : w72.cell? ⟨gb1689,2,none⟩ = some (.int .i64 a0_2):=(blk_cell BK1689.out 2).trans rfl;have hfz73_0:=blk_frozen BK1689.out 0;have hfz73_1:=blk_frozen BK1689.out 1;have hfz73_2:=blk_frozen BK1689.out 2;have hcz74_0 : w72.cell? ⟨gb1693,0,none⟩ = some (.int .i64 ((rd_T147 l0_0 x29_2).f0)):=(blk_cell BK1693.out 0).trans rfl;have hcz74_1 : w72.cell? ⟨gb1693,1,none⟩ = some (.int .i64 ((rd_T147 l0_0 x29_2).f1)):=(blk_cell BK1693.out 1).trans rfl;have hfz74_0:=blk_frozen BK1693.out 0;have hfz74_1:=blk_frozen BK1693.out 1
           try go_wp2_with (first | ((with_reducible refine gate_callee (f:=94) rfl ?_);refine goesL_ (some 72) rfl rfl Try.func94 (by kernel_rfl) rfl #[.agg #[.slice A0_1 l0_1.length c0_1],.int .i64 ((rd_T147 l0_0 x29_2).f1)] rfl (by (try simp only [List.map_toArray,List.map_cons,List.map_nil]);first | done | rfl | (simp only [List.length_drop,List.length_take];rfl)) ?_;(with_reducible refine (impl_knotsOf.calls k2 _ _ l0_1 ((rd_T147 l0_0 x29_2).f1) t1709 _ ?side1 ?side2 A66.out).mono ?_);(case side1=>repeat (first | exact (Kd.C_below HR0_1.out (hs2 HB GE1689 GE1693)) | (with_reducible refine Kd.C_alloc ?_ _) | (with_reducible refine Kd.C_drewN ?_ _) | (with_reducible refine Kd.C_drew ?_)));(case side2=>exact HC0_1.out);rintro e w75 ⟨v1710,rfl,ho0,hb⟩;refine ⟨_,rfl,?_⟩;have n0_:=Aside0.mk (Kd.R_elder' (rs HO_3) (Kd.R_base ho0) hb);have n1_:=Aside0.mk (Kd.R_lower (Kd.R_new' ho0 (Kd.R_lt (rs HO_3))) (below_size (hs2 HB GE1689 GE1693)));have n2_:=Aside0.mk (blk_below (g:=gb1689) (o:=.cells #[.slice (some ad1692) l0_0.length c0_0,.slice A0_1 l0_1.length c0_1,.int .i64 a0_2] 83 (0,0)) (bs BK1689) hb);have n3_:=Aside0.mk (blk_below (g:=gb1693) (o:=.cells #[.int .i64 ((rd_T147 l0_0 x29_2).f0),.int .i64 ((rd_T147 l0_0 x29_2).f1)] 147 (0,0)) (bs BK1693) hb);have n4_:=Aside0.mk (below_step (hs2 HB GE1689 GE1693) hb);clear HO_3;clear BK1689;clear BK1693;clear HB;have HO_3:=n0_;have HO1711:=n1_;have BK1689:=n2_;have BK1693:=n3_;have HB:=n4_;clear n0_ n1_ n2_ n3_ n4_;(try clear hb);(try clear hb2);(try clear hk);(try clear hi);(try clear ho0);obtain ⟨Ao77,co77,eo77⟩:=Kd.R_slice HO1711.out;subst eo77) | ((with_reducible refine gate_builtin (b:=.append) (xs:=#[(.tmp 67),.tmp 72]) rfl ?_);at_builtin;refine Kd.R_append_rows (Kd.int .i64) (w0:=w) w.heap.size rfl (.tmp 67) (.tmp 72) 26 3 (.int .i64 0) 8 rfl Try.underlying26 info3 rfl (by decide) (by omega) u3 x3_2 t1709 _ _ _ (fun k_=>some k_ ≠ (.slice Ao77 t1709.length co77 : Value).ownBlock) (fun _=>False) rfl rfl ?aO ?aR (fun _ _ h=>h) (fun _ h=>h.elim) ?aF ?aB ?aS ?aL ?_;(case aR=>repeat (first | exact (Kd.R_reads' HO1711.out).2.2 | (with_reducible refine Kd.C_alloc ?_ _) | (with_reducible refine Kd.C_drewN ?_ _) | (with_reducible refine Kd.C_drew ?_)));(case aB=>exact (hs2 HB GE1689 GE1693));(case aF=>exact (fun k_ hk=>Kd.fresh' (Kd.R_lt (rs HO1711)) k_ hk));(case aO=>exact (by (with_reducible repeat (first | apply Kd.R_alloc | apply Kd.R_drewN | apply Kd.R_drew));exact Kd.R_mono HO_3.out (fun _ hk=>hk.2)));(case aS=>exact (below_size (hs2 HB GE1689 GE1693)));(case aL=>have:=LMc67.out;omega);intro v1713 w76 ho hb hg hat;rw [← Ny1712.out] at ho;have n0_:=Aside0.mk (blk_grown (g:=gb1689) (o:=.cells #[.slice (some ad1692) l0_0.length c0_0,.slice A0_1 l0_1.length c0_1,.int .i64 a0_2] 83 (0,0)) (bs BK1689) hg (Kd.R_ne HO_3.out BK1689.out (by decide)));have n1_:=Aside0.mk (blk_grown (g:=gb1693) (o:=.cells #[.int .i64 ((rd_T147 l0_0 x29_2).f0),.int .i64 ((rd_T147 l0_0 x29_2).f1)] 147 (0,0)) (bs BK1693) hg (Kd.R_ne HO_3.out BK1693.out (by decide)));have n2_:=Aside0.mk (Kd.R_after (ok:=(fun _=>True)) (rs HO1711) hg hat);have n3_:=Aside0.mk (hb);have n4_:=Aside0.mk (ho);clear BK1689;clear BK1693;clear HO1711;clear HB;clear HO_3;have BK1689:=n0_;have BK1693:=n1_;have HO1711:=n2_;have HB:=n3_;have HO1714:=n4_;clear n0_ n1_ n2_ n3_ n4_;clear ho hb hg hat))
           go_roundg k2;case measure=>have:=HJ1.out;have:=HK2.out;omega
           case rel=>exact ⟨(y1712),(wrap64 (x29_2 + 1)),(by first | rfl | (simp;done) | (simp [*];done)),H',⟨by have:=HJ1.out;have:=HK2.out;omega⟩,⟨by (with_reducible repeat (first | apply Kd.R_alloc | apply Kd.R_drewN | apply Kd.R_drew));exact Kd.R_mono HO1714.out (fun _ hk=>trivial)⟩,⟨bs BK1689⟩,⟨hs2 HB GE1689 GE1693⟩⟩
          rw [if_neg c67] at H;exact absurd H (by simp)
         rw [if_neg c65] at H;have c65b0 : (((rd_T147 l0_0 x29_2).f1) == (-1)) = false:=beq_eq_false_iff_ne.mpr c65;have c65b1 : (((rd_T147 l0_0 x29_2).f1) != (-1)) = true:=bne_iff_ne.mpr c65;replace H:=Option.bind_eq_some_iff.mp H;obtain ⟨t1715,A780,H⟩:=H;replace H : (if t1715 = true then ((impl_knotsOf.f k2 l0_1 ((rd_T147 l0_0 x29_2).f1)).bind fun t1716=>(if x3_2.length + t1716.length < 17592186044416 then (impl_StoreOk.l0 k2 (x3_2 ++ t1716) l0_0 (l0_0.length : Int) (wrap64 (x29_2 + 1)) l0_0 l0_1 a0_2) else (none))) else (some false)) = some r:=H;have A78:=Aside0.mk A780;clear A780
         by_cases c79 : t1715 = true
         ·subst c79;have H1 : ((impl_knotsOf.f k2 l0_1 ((rd_T147 l0_0 x29_2).f1)).bind fun t1716=>(if x3_2.length + t1716.length < 17592186044416 then (impl_StoreOk.l0 k2 (x3_2 ++ t1716) l0_0 (l0_0.length : Int) (wrap64 (x29_2 + 1)) l0_0 l0_1 a0_2) else (none))) = some r:=by rw [if_pos rfl] at H;exact H
          clear H;have H:=H1;clear H1;replace H:=Option.bind_eq_some_iff.mp H;obtain ⟨t1716,A800,H⟩:=H;replace H : (if x3_2.length + t1716.length < 17592186044416 then (impl_StoreOk.l0 k2 (x3_2 ++ t1716) l0_0 (l0_0.length : Int) (wrap64 (x29_2 + 1)) l0_0 l0_1 a0_2) else (none)) = some r:=H;have A80:=Aside0.mk A800;clear A800
          by_cases c81 : x3_2.length + t1716.length < 17592186044416
          ·rw [if_pos c81] at H;have LMc81:=Aside0.mk c81;clear c81;obtain ⟨y1719,hy1719⟩ : ∃ y_ : List Int,y_ = (x3_2 ++ t1716):=⟨_,rfl⟩;replace H : (impl_StoreOk.l0 k2 y1719 l0_0 (l0_0.length : Int) (wrap64 (x29_2 + 1)) l0_0 l0_1 a0_2) = some r:=by first | (rw [hy1719];with_reducible exact H) | (have H2_:=(Option.bind_some _ _).symm.trans H;rw [hy1719];with_reducible exact H2_) | (have H2_:=(Option.bind_some _ _).symm.trans H;with_reducible exact H2_) | with_reducible exact H | (rw [hy1719];exact H) | exact H
           have Ny1719:=Aside0.mk hy1719;clear hy1719;have H':=Aside0.mk H;clear H;have p1692 : 0 ≤ (x29_2 : Int):=of_decide_eq_true (by first | (with_reducible assumption) | assumption);have q1692 : x29_2 < (l0_0.length : Int):=of_decide_eq_true (by first | (with_reducible assumption) | assumption);obtain ⟨ad1692,e1692,hx1692_0,hx1692_1⟩:=at_T147 HR0_0.out x29_2 p1692 q1692;cases e1692;replace hx1692_0:=(HB.out.cell (World.block_lt_of_cell? w _ hx1692_0)).trans hx1692_0;replace hx1692_1:=(HB.out.cell (World.block_lt_of_cell? w _ hx1692_1)).trans hx1692_1;replace p1692:=eq_true p1692;replace q1692:=eq_true q1692
           try go_wp2_with (first | ((with_reducible refine gate_dst (N:=5) rfl ?_);refine box_event ?hg (N:=5) ?hd (cs:=#[.int .i64 0,.int .i64 0]) (t:=147) ?hr ?_;(case hd=>rfl);(case hg=>rfl);(case hr=>first | (go_simp;done) | (go_simp;rfl));intro gb1693 hg w82 hbox hb;have n0_:=Aside0.mk (Kd.R_below (rs HO_3) hb);have n1_:=Aside0.mk (blk_below (g:=gb1689) (o:=.cells #[.slice (some ad1692) l0_0.length c0_0,.slice A0_1 l0_1.length c0_1,.int .i64 a0_2] 83 (0,0)) (bs BK1689) hb);have n2_:=Aside0.mk (below_step (hs1 HB GE1689) hb);have n3_:=Aside0.mk (hbox);have n4_:=Aside0.mk ((by rw [hg];exact (below_size (hs1 HB GE1689)) : w.heap.size ≤ gb1693));have n5_:=Aside0.mk ((by rw [hg];exact (below_size (hs1 HB GE1689)) : w.heap.size ≤ gb1693));have n6_:=Aside0.mk ((by rw [hg];exact Nat.ne_of_lt (blk_lt (g:=gb1689) (o:=.cells #[.slice (some ad1692) l0_0.length c0_0,.slice A0_1 l0_1.length c0_1,.int .i64 a0_2] 83 (0,0)) (bs BK1689)) : gb1689 ≠ gb1693));have n7_:=Aside0.mk ((by rw [hg];exact Nat.ne_of_gt (blk_lt (g:=gb1689) (o:=.cells #[.slice (some ad1692) l0_0.length c0_0,.slice A0_1 l0_1.length c0_1,.int .i64 a0_2] 83 (0,0)) (bs BK1689)) : gb1693 ≠ gb1689));clear HO_3;clear BK1689;clear HB;have HO_3:=n0_;have BK1689:=n1_;have HB:=n2_;have BK1693:=n3_;have GW1693:=n4_;have GE1693:=n5_;have NB1689_1693:=n6_;have NB1693_1689:=n7_;clear n0_ n1_ n2_ n3_ n4_ n5_ n6_ n7_;clear hb hbox hg;have hnb83:=NB1693_1689.out;have hnc83:=NB1689_1693.out;have hcz84_0 : w82.cell? ⟨gb1693,0,none⟩ = some (.int .i64 0):=(blk_cell BK1693.out 0).trans rfl;have hcz84_1 : w82.cell? ⟨gb1693,1,none⟩ = some (.int .i64 0):=(blk_cell BK1693.out 1).trans rfl;have hfz84_0:=blk_frozen BK1693.out 0;have hfz84_1:=blk_frozen BK1693.out 1))
           have n0_ : Aside0 (Kd.R (Kd.int .i64) 3 ((w82.setCell ⟨gb1693,0,none⟩ (.int .i64 ((rd_T147 l0_0 x29_2).f0))).setCell ⟨gb1693,1,none⟩ (.int .i64 ((rd_T147 l0_0 x29_2).f1))) w.heap.size (fun _=>True) u3 x3_2):=⟨by (with_reducible repeat (first | apply Kd.R_alloc | apply Kd.R_drewN | apply Kd.R_drew));exact Kd.R_mono (Kd.R_far (p:=⟨gb1693,1,none⟩) (Kd.R_far (p:=⟨gb1693,0,none⟩) (Kd.R_types HO_3.out BK1693.out (by decide)) (fun _ hk=>hk.2) (.int .i64 ((rd_T147 l0_0 x29_2).f0))) (fun _ hk=>hk.2) (.int .i64 ((rd_T147 l0_0 x29_2).f1))) (fun _ hk=>trivial)⟩;have n1_ : Aside0 (((w82.setCell ⟨gb1693,0,none⟩ (.int .i64 ((rd_T147 l0_0 x29_2).f0))).setCell ⟨gb1693,1,none⟩ (.int .i64 ((rd_T147 l0_0 x29_2).f1))).heap[gb1689]? = some (.cells #[.slice (some ad1692) l0_0.length c0_0,.slice A0_1 l0_1.length c0_1,.int .i64 a0_2] 83 (0,0))):=⟨by (with_reducible repeat (first | refine blk_drewN ?_ _ | refine blk_drew ?_ | refine blk_alloc ?_ _));refine blk_far ?_ NB1689_1693.out _;(with_reducible repeat (first | refine blk_drewN ?_ _ | refine blk_drew ?_ | refine blk_alloc ?_ _));refine blk_far ?_ NB1689_1693.out _;(with_reducible repeat (first | refine blk_drewN ?_ _ | refine blk_drew ?_ | refine blk_alloc ?_ _));exact BK1689.out⟩;have n2_ : Aside0 (((w82.setCell ⟨gb1693,0,none⟩ (.int .i64 ((rd_T147 l0_0 x29_2).f0))).setCell ⟨gb1693,1,none⟩ (.int .i64 ((rd_T147 l0_0 x29_2).f1))).heap[gb1693]? = some (.cells #[.int .i64 ((rd_T147 l0_0 x29_2).f0),.int .i64 ((rd_T147 l0_0 x29_2).f1)] 147 (0,0))):=⟨by (with_reducible repeat (first | refine blk_drewN ?_ _ | refine blk_drew ?_ | refine blk_alloc ?_ _));refine blk_put (cs:=#[.int .i64 ((rd_T147 l0_0 x29_2).f0),.int .i64 0]) ?_ 1 _ rfl;(with_reducible repeat (first | refine blk_drewN ?_ _ | refine blk_drew ?_ | refine blk_alloc ?_ _));refine blk_put (cs:=#[.int .i64 0,.int .i64 0]) ?_ 0 _ rfl;(with_reducible repeat (first | refine blk_drewN ?_ _ | refine blk_drew ?_ | refine blk_alloc ?_ _));exact BK1693.out⟩;have n3_ : Aside0 (Below w.heap.size w ((w82.setCell ⟨gb1693,0,none⟩ (.int .i64 ((rd_T147 l0_0 x29_2).f0))).setCell ⟨gb1693,1,none⟩ (.int .i64 ((rd_T147 l0_0 x29_2).f1)))):=⟨hs2 HB GE1689 GE1693⟩
           (try clear HO_3)
           (try clear BK1689)
           (try clear BK1693)
           (try clear HB)
           generalize ((w82.setCell ⟨gb1693,0,none⟩ (.int .i64 ((rd_T147 l0_0 x29_2).f0))).setCell ⟨gb1693,1,none⟩ (.int .i64 ((rd_T147 l0_0 x29_2).f1))) = w85 at n0_ n1_ n2_ n3_ ⊢;have HO_3:=n0_;have BK1689:=n1_;have BK1693:=n2_;have HB:=n3_;clear n0_ n1_ n2_ n3_;have n0_:=Aside0.mk (Kd.R_drew HO_3.out);have n1_:=Aside0.mk (blk_drew BK1689.out);have n2_:=Aside0.mk (blk_drew BK1693.out);have n3_:=Aside0.mk (below_drew1 HB.out);clear HO_3;clear BK1689;clear BK1693;clear HB;have HO_3:=n0_;have BK1689:=n1_;have BK1693:=n2_;have HB:=n3_;clear n0_ n1_ n2_ n3_;refine start_ (n:=33) (S:=fun w'=>w'.cell? ⟨gb1693,0,none⟩ = some (.int .i64 ((rd_T147 l0_0 x29_2).f0)) ∧ w'.cell? ⟨gb1693,1,none⟩ = some (.int .i64 ((rd_T147 l0_0 x29_2).f1)) ∧ w'.cell? ⟨gb1689,0,none⟩ = some (.slice (some ad1692) l0_0.length c0_0) ∧ w'.cell? ⟨gb1689,1,none⟩ = some (.slice A0_1 l0_1.length c0_1) ∧ w'.cell? ⟨gb1689,2,none⟩ = some (.int .i64 a0_2)) (ds:=[]) #[false,false,false,false,false,false,false,false,false,false,false,false,false,false,false,false,false,false,false,false,false,false,false,false,false,false,false,false,false,false,false,false,false] (by kernel_rfl) rfl rfl ⟨(blk_cell BK1693.out 0).trans rfl,(blk_cell BK1693.out 1).trans rfl,(blk_cell BK1689.out 0).trans rfl,(blk_cell BK1689.out 1).trans rfl,(blk_cell BK1689.out 2).trans rfl⟩ (fun hHeld=>?_);refine with_tabW impl_StoreOk.tab7 impl_StoreOk.bits7 (fun HT_ HW_=>?_);generalize w85.drew = w86 at HO_3 BK1689 BK1693 HB hHeld ⊢;refine pure_ (i:=0) (N:=some 34) (v:=?_) (a':=?_) #[true,false,false,false,false,false,false,false,false,false,false,false,false,false,false,false,false,false,false,false,false,false,false,false,false,false,false,false,false,false,false,false,false] rfl rfl (any_of HT_.out (by kernel_rfl)) (fun _ _ _ h=>h) (Or.inl ⟨by rfl,?_⟩) ?_ ?_;rotate_left
           ·intro w';go_simp;with_reducible rfl
           rotate_left
           ·simp only [Act.put,List.setIfInBounds_toArray,List.set_cons_zero,List.set_cons_succ,i64_w,i32_w];rfl
           refine take_ (i:=1) (N:=some 35) (v:=?_) (a':=?_) #[true,true,false,false,false,false,false,false,false,false,false,false,false,false,false,false,false,false,false,false,false,false,false,false,false,false,false,false,false,false,false,false,false] rfl rfl (take_ofW HT_.out HW_.out (by kernel_rfl)) (fun _ _ _ h=>h) (Or.inl ⟨by rfl,?_⟩) hHeld ?_ ?_;rotate_left
           ·rintro w' ⟨s0,s1,s2,s3,s4⟩;go_simp;with_reducible rfl
           rotate_left
           ·simp only [Act.put,List.setIfInBounds_toArray,List.set_cons_zero,List.set_cons_succ,i64_w,i32_w];rfl
           refine one_ (i:=2) (N:=some 36) #[true,true,true,false,false,false,false,false,false,false,false,false,false,false,false,false,false,false,false,false,false,false,false,false,false,false,false,false,false,false,false,false,false] rfl rfl (one_of HT_.out (by kernel_rfl)) (by decide) (fun K hK=>?_);refine goes_ Try.func84 (by kernel_rfl) rfl #[.int .i64 ((rd_T147 l0_0 x29_2).f0),.int .i64 1,.int .i64 9] (by rfl) rfl rfl (by (try simp only [List.map_toArray,List.map_cons,List.map_nil]);first | done | rfl | (simp only [List.length_drop,List.length_take];rfl)) ?_;with_reducible refine (impl_in.calls ((rd_T147 l0_0 x29_2).f0) 1 9 true _ A19.out).mono ?_
           rintro e w' ⟨rfl,⟨nd,rfl⟩⟩;refine ⟨_,rfl,?_⟩;refine hK.out _ _ ⟨(blk_cell BK1693.out 0).trans rfl,(blk_cell BK1693.out 1).trans rfl,(blk_cell BK1689.out 0).trans rfl,(blk_cell BK1689.out 1).trans rfl,(blk_cell BK1689.out 2).trans rfl⟩ (fun hHeld=>?_);clear hK K;refine norm_ (a':=?_) ?_ ?_;rotate_left
           ·show Act.put _ (some 36) _ = _;simp only [Act.put,List.setIfInBounds_toArray,List.set_cons_zero,List.set_cons_succ,i64_w,i32_w];rfl
           refine pure_ (i:=3) (N:=some 37) (v:=?_) (a':=?_) #[true,true,true,true,false,false,false,false,false,false,false,false,false,false,false,false,false,false,false,false,false,false,false,false,false,false,false,false,false,false,false,false,false] rfl rfl (any_of HT_.out (by kernel_rfl)) (fun _ _ _ h=>h) (Or.inl ⟨by rfl,?_⟩) ?_ ?_;rotate_left
           ·intro w';go_simp;with_reducible rfl
           rotate_left
           ·simp only [Act.put,List.setIfInBounds_toArray,List.set_cons_zero,List.set_cons_succ,i64_w,i32_w];rfl
           refine pure_ (i:=4) (N:=some 38) (v:=?_) (a':=?_) #[true,true,true,true,true,false,false,false,false,false,false,false,false,false,false,false,false,false,false,false,false,false,false,false,false,false,false,false,false,false,false,false,false] rfl rfl (any_of HT_.out (by kernel_rfl)) (fun _ _ _ h=>h) (Or.inl ⟨by rfl,?_⟩) ?_ ?_;rotate_left
           ·intro w';go_simp;with_reducible rfl
           rotate_left
           ·simp only [Act.put,List.setIfInBounds_toArray,List.set_cons_zero,List.set_cons_succ,i64_w,i32_w];rfl
           refine pure_ (i:=5) (N:=some 39) (v:=?_) (a':=?_) #[true,true,true,true,true,true,false,false,false,false,false,false,false,false,false,false,false,false,false,false,false,false,false,false,false,false,false,false,false,false,false,false,false] rfl rfl (any_of HT_.out (by kernel_rfl)) (fun _ _ _ h=>h) (Or.inl ⟨by rfl,?_⟩) ?_ ?_;rotate_left
           ·intro w';go_simp;with_reducible rfl
           rotate_left
           ·simp only [Act.put,List.setIfInBounds_toArray,List.set_cons_zero,List.set_cons_succ,i64_w,i32_w];rfl
           refine pure_ (i:=6) (N:=some 40) (v:=?_) (a':=?_) #[true,true,true,true,true,true,true,false,false,false,false,false,false,false,false,false,false,false,false,false,false,false,false,false,false,false,false,false,false,false,false,false,false] rfl rfl (any_of HT_.out (by kernel_rfl)) (fun _ _ _ h=>h) (Or.inl ⟨by rfl,?_⟩) ?_ ?_;rotate_left
           ·intro w';go_simp;with_reducible rfl
           rotate_left
           ·simp only [Act.put,List.setIfInBounds_toArray,List.set_cons_zero,List.set_cons_succ,i64_w,i32_w];rfl
           refine pure_ (i:=7) (N:=some 41) (v:=?_) (a':=?_) #[true,true,true,true,true,true,true,true,false,false,false,false,false,false,false,false,false,false,false,false,false,false,false,false,false,false,false,false,false,false,false,false,false] rfl rfl (any_of HT_.out (by kernel_rfl)) (fun _ _ _ h=>h) (Or.inl ⟨by rfl,?_⟩) ?_ ?_;rotate_left
           ·intro w';go_simp;with_reducible rfl
           rotate_left
           ·simp only [Act.put,List.setIfInBounds_toArray,List.set_cons_zero,List.set_cons_succ,i64_w,i32_w];rfl
           refine pure_ (i:=8) (N:=some 42) (v:=undef) (a':=?_) #[true,true,true,true,true,true,true,true,true,false,false,false,false,false,false,false,false,false,false,false,false,false,false,false,false,false,false,false,false,false,false,false,false] rfl rfl (any_of HT_.out (by kernel_rfl)) (fun _ _ _ h=>h) (Or.inr ⟨by rfl,rfl⟩) ?_ ?_;rotate_left
           ·simp only [Act.put,List.setIfInBounds_toArray,List.set_cons_zero,List.set_cons_succ,i64_w,i32_w];rfl
           refine pure_ (i:=9) (N:=some 43) (v:=undef) (a':=?_) #[true,true,true,true,true,true,true,true,true,true,false,false,false,false,false,false,false,false,false,false,false,false,false,false,false,false,false,false,false,false,false,false,false] rfl rfl (any_of HT_.out (by kernel_rfl)) (fun _ _ _ h=>h) (Or.inr ⟨by rfl,rfl⟩) ?_ ?_;rotate_left
           ·simp only [Act.put,List.setIfInBounds_toArray,List.set_cons_zero,List.set_cons_succ,i64_w,i32_w];rfl
           refine pure_ (i:=10) (N:=some 44) (v:=undef) (a':=?_) #[true,true,true,true,true,true,true,true,true,true,true,false,false,false,false,false,false,false,false,false,false,false,false,false,false,false,false,false,false,false,false,false,false] rfl rfl (any_of HT_.out (by kernel_rfl)) (fun _ _ _ h=>h) (Or.inr ⟨by rfl,rfl⟩) ?_ ?_;rotate_left
           ·simp only [Act.put,List.setIfInBounds_toArray,List.set_cons_zero,List.set_cons_succ,i64_w,i32_w];rfl
           refine pure_ (i:=11) (N:=some 45) (v:=undef) (a':=?_) #[true,true,true,true,true,true,true,true,true,true,true,true,false,false,false,false,false,false,false,false,false,false,false,false,false,false,false,false,false,false,false,false,false] rfl rfl (any_of HT_.out (by kernel_rfl)) (fun _ _ _ h=>h) (Or.inr ⟨by rfl,rfl⟩) ?_ ?_;rotate_left
           ·simp only [Act.put,List.setIfInBounds_toArray,List.set_cons_zero,List.set_cons_succ,i64_w,i32_w];rfl
           refine pure_ (i:=12) (N:=some 46) (v:=undef) (a':=?_) #[true,true,true,true,true,true,true,true,true,true,true,true,true,false,false,false,false,false,false,false,false,false,false,false,false,false,false,false,false,false,false,false,false] rfl rfl (any_of HT_.out (by kernel_rfl)) (fun _ _ _ h=>h) (Or.inr ⟨by rfl,rfl⟩) ?_ ?_;rotate_left
           ·simp only [Act.put,List.setIfInBounds_toArray,List.set_cons_zero,List.set_cons_succ,i64_w,i32_w];rfl
           refine pure_ (i:=13) (N:=some 47) (v:=undef) (a':=?_) #[true,true,true,true,true,true,true,true,true,true,true,true,true,true,false,false,false,false,false,false,false,false,false,false,false,false,false,false,false,false,false,false,false] rfl rfl (any_of HT_.out (by kernel_rfl)) (fun _ _ _ h=>h) (Or.inr ⟨by rfl,rfl⟩) ?_ ?_;rotate_left
           ·simp only [Act.put,List.setIfInBounds_toArray,List.set_cons_zero,List.set_cons_succ,i64_w,i32_w];rfl
           refine pure_ (i:=14) (N:=some 48) (v:=undef) (a':=?_) #[true,true,true,true,true,true,true,true,true,true,true,true,true,true,true,false,false,false,false,false,false,false,false,false,false,false,false,false,false,false,false,false,false] rfl rfl (any_of HT_.out (by kernel_rfl)) (fun _ _ _ h=>h) (Or.inr ⟨by rfl,rfl⟩) ?_ ?_;rotate_left
           ·simp only [Act.put,List.setIfInBounds_toArray,List.set_cons_zero,List.set_cons_succ,i64_w,i32_w];rfl
           refine pure_ (i:=15) (N:=some 49) (v:=undef) (a':=?_) #[true,true,true,true,true,true,true,true,true,true,true,true,true,true,true,true,false,false,false,false,false,false,false,false,false,false,false,false,false,false,false,false,false] rfl rfl (any_of HT_.out (by kernel_rfl)) (fun _ _ _ h=>h) (Or.inr ⟨by rfl,rfl⟩) ?_ ?_;rotate_left
           ·simp only [Act.put,List.setIfInBounds_toArray,List.set_cons_zero,List.set_cons_succ,i64_w,i32_w];rfl
           refine pure_ (i:=16) (N:=some 50) (v:=undef) (a':=?_) #[true,true,true,true,true,true,true,true,true,true,true,true,true,true,true,true,true,false,false,false,false,false,false,false,false,false,false,false,false,false,false,false,false] rfl rfl (any_of HT_.out (by kernel_rfl)) (fun _ _ _ h=>h) (Or.inr ⟨by rfl,rfl⟩) ?_ ?_;rotate_left
           ·simp only [Act.put,List.setIfInBounds_toArray,List.set_cons_zero,List.set_cons_succ,i64_w,i32_w];rfl
           refine pure_ (i:=17) (N:=some 51) (v:=undef) (a':=?_) #[true,true,true,true,true,true,true,true,true,true,true,true,true,true,true,true,true,true,false,false,false,false,false,false,false,false,false,false,false,false,false,false,false] rfl rfl (any_of HT_.out (by kernel_rfl)) (fun _ _ _ h=>h) (Or.inr ⟨by rfl,rfl⟩) ?_ ?_;rotate_left
           ·simp only [Act.put,List.setIfInBounds_toArray,List.set_cons_zero,List.set_cons_succ,i64_w,i32_w];rfl
           refine pure_ (i:=18) (N:=some 52) (v:=?_) (a':=?_) #[true,true,true,true,true,true,true,true,true,true,true,true,true,true,true,true,true,true,true,false,false,false,false,false,false,false,false,false,false,false,false,false,false] rfl rfl (any_of HT_.out (by kernel_rfl)) (fun _ _ _ h=>h) (Or.inl ⟨by rfl,?_⟩) ?_ ?_;rotate_left
           ·intro w';go_simp;with_reducible rfl
           rotate_left
           ·simp only [Act.put,List.setIfInBounds_toArray,List.set_cons_zero,List.set_cons_succ,i64_w,i32_w];rfl
           refine pure_ (i:=19) (N:=some 53) (v:=?_) (a':=?_) #[true,true,true,true,true,true,true,true,true,true,true,true,true,true,true,true,true,true,true,true,false,false,false,false,false,false,false,false,false,false,false,false,false] rfl rfl (any_of HT_.out (by kernel_rfl)) (fun _ _ _ h=>h) (Or.inl ⟨by rfl,?_⟩) ?_ ?_;rotate_left
           ·intro w';go_simp;with_reducible rfl
           rotate_left
           ·simp only [Act.put,List.setIfInBounds_toArray,List.set_cons_zero,List.set_cons_succ,i64_w,i32_w];rfl
           refine pure_ (i:=20) (N:=some 54) (v:=?_) (a':=?_) #[true,true,true,true,true,true,true,true,true,true,true,true,true,true,true,true,true,true,true,true,true,false,false,false,false,false,false,false,false,false,false,false,false] rfl rfl (any_of HT_.out (by kernel_rfl)) (fun _ _ _ h=>h) (Or.inl ⟨by rfl,?_⟩) ?_ ?_;rotate_left
           ·intro w';go_simp;with_reducible rfl
           rotate_left
           ·simp only [Act.put,List.setIfInBounds_toArray,List.set_cons_zero,List.set_cons_succ,i64_w,i32_w];rfl
           refine pure_ (i:=21) (N:=some 55) (v:=?_) (a':=?_) #[true,true,true,true,true,true,true,true,true,true,true,true,true,true,true,true,true,true,true,true,true,true,false,false,false,false,false,false,false,false,false,false,false] rfl rfl (any_of HT_.out (by kernel_rfl)) (fun _ _ _ h=>h) (Or.inl ⟨by rfl,?_⟩) ?_ ?_;rotate_left
           ·intro w';go_simp;with_reducible rfl
           rotate_left
           ·simp only [Act.put,List.setIfInBounds_toArray,List.set_cons_zero,List.set_cons_succ,i64_w,i32_w];rfl
           refine take_ (i:=22) (N:=some 56) (v:=?_) (a':=?_) #[true,true,true,true,true,true,true,true,true,true,true,true,true,true,true,true,true,true,true,true,true,true,true,false,false,false,false,false,false,false,false,false,false] rfl rfl (take_ofW HT_.out HW_.out (by kernel_rfl)) (fun _ _ _ h=>h) (Or.inl ⟨by rfl,?_⟩) hHeld ?_ ?_;rotate_left
           ·rintro w' ⟨s0,s1,s2,s3,s4⟩;go_simp;with_reducible rfl
           rotate_left
           ·simp only [Act.put,List.setIfInBounds_toArray,List.set_cons_zero,List.set_cons_succ,i64_w,i32_w];rfl
           refine pure_ (i:=23) (N:=some 57) (v:=?_) (a':=?_) #[true,true,true,true,true,true,true,true,true,true,true,true,true,true,true,true,true,true,true,true,true,true,true,true,false,false,false,false,false,false,false,false,false] rfl rfl (any_of HT_.out (by kernel_rfl)) (fun _ _ _ h=>h) (Or.inl ⟨by rfl,?_⟩) ?_ ?_;rotate_left
           ·intro w';go_simp;with_reducible rfl
           rotate_left
           ·simp only [Act.put,List.setIfInBounds_toArray,List.set_cons_zero,List.set_cons_succ,i64_w,i32_w];rfl
           refine pure_ (i:=24) (N:=some 58) (v:=?_) (a':=?_) #[true,true,true,true,true,true,true,true,true,true,true,true,true,true,true,true,true,true,true,true,true,true,true,true,true,false,false,false,false,false,false,false,false] rfl rfl (any_of HT_.out (by kernel_rfl)) (fun _ _ _ h=>h) (Or.inl ⟨by rfl,?_⟩) ?_ ?_;rotate_left
           ·intro w';go_simp;with_reducible rfl
           rotate_left
           ·simp only [Act.put,List.setIfInBounds_toArray,List.set_cons_zero,List.set_cons_succ,i64_w,i32_w];rfl
           refine pure_ (i:=25) (N:=some 59) (v:=?_) (a':=?_) #[true,true,true,true,true,true,true,true,true,true,true,true,true,true,true,true,true,true,true,true,true,true,true,true,true,true,false,false,false,false,false,false,false] rfl rfl (any_of HT_.out (by kernel_rfl)) (fun _ _ _ h=>h) (Or.inl ⟨by rfl,?_⟩) ?_ ?_;rotate_left
           ·intro w';go_simp;with_reducible rfl
           rotate_left
           ·simp only [Act.put,List.setIfInBounds_toArray,List.set_cons_zero,List.set_cons_succ,i64_w,i32_w];rfl
           refine pure_ (i:=27) (N:=some 61) (v:=?_) (a':=?_) #[true,true,true,true,true,true,true,true,true,true,true,true,true,true,true,true,true,true,true,true,true,true,true,true,true,true,false,true,false,false,false,false,false] rfl rfl (any_of HT_.out (by kernel_rfl)) (fun _ _ _ h=>h) (Or.inl ⟨by rfl,?_⟩) ?_ ?_;rotate_left
           ·intro w';go_simp;with_reducible rfl
           rotate_left
           ·simp only [Act.put,List.setIfInBounds_toArray,List.set_cons_zero,List.set_cons_succ,i64_w,i32_w];rfl
           refine take_ (i:=26) (N:=some 60) (v:=?_) (a':=?_) #[true,true,true,true,true,true,true,true,true,true,true,true,true,true,true,true,true,true,true,true,true,true,true,true,true,true,true,true,false,false,false,false,false] rfl rfl (take_ofW HT_.out HW_.out (by kernel_rfl)) (fun _ _ _ h=>h) (Or.inl ⟨by rfl,?_⟩) hHeld ?_ ?_;rotate_left
           ·rintro w' ⟨s0,s1,s2,s3,s4⟩;go_simp;with_reducible rfl
           rotate_left
           ·simp only [Act.put,List.setIfInBounds_toArray,List.set_cons_zero,List.set_cons_succ,i64_w,i32_w];rfl
           refine take_ (i:=28) (N:=some 62) (v:=?_) (a':=?_) #[true,true,true,true,true,true,true,true,true,true,true,true,true,true,true,true,true,true,true,true,true,true,true,true,true,true,true,true,true,false,false,false,false] rfl rfl (take_ofW HT_.out HW_.out (by kernel_rfl)) (fun _ _ _ h=>h) (Or.inl ⟨by rfl,?_⟩) hHeld ?_ ?_;rotate_left
           ·rintro w' ⟨s0,s1,s2,s3,s4⟩;go_simp;with_reducible rfl
           rotate_left
           ·simp only [Act.put,List.setIfInBounds_toArray,List.set_cons_zero,List.set_cons_succ,i64_w,i32_w];rfl
           refine one_ (i:=29) (N:=some 63) #[true,true,true,true,true,true,true,true,true,true,true,true,true,true,true,true,true,true,true,true,true,true,true,true,true,true,true,true,true,true,false,false,false] rfl rfl (one_of HT_.out (by kernel_rfl)) (by decide) (fun K hK=>?_);refine goes_ Try.func92 (by kernel_rfl) rfl #[.agg #[.slice A0_1 l0_1.length c0_1],.int .i64 ((rd_T147 l0_0 x29_2).f1)] (by rfl) rfl rfl (by (try simp only [List.map_toArray,List.map_cons,List.map_nil]);first | done | rfl | (simp only [List.length_drop,List.length_take];rfl)) ?_;with_reducible refine (impl_isRoot.calls _ _ l0_1 ((rd_T147 l0_0 x29_2).f1) true _ ?side1 ?side2 A78.out).mono ?_
           (case side1=>repeat (first | exact (Kd.C_below HR0_1.out (hs2 HB GE1689 GE1693)) | (with_reducible refine Kd.C_alloc ?_ _) | (with_reducible refine Kd.C_drewN ?_ _) | (with_reducible refine Kd.C_drew ?_)))
           (case side2=>exact HC0_1.out)
           rintro e w87 ⟨rfl,hb⟩;refine ⟨_,rfl,?_⟩;have n0_:=Aside0.mk (Kd.R_below (rs HO_3) hb);have n1_:=Aside0.mk (blk_below (g:=gb1689) (o:=.cells #[.slice (some ad1692) l0_0.length c0_0,.slice A0_1 l0_1.length c0_1,.int .i64 a0_2] 83 (0,0)) (bs BK1689) hb);have n2_:=Aside0.mk (blk_below (g:=gb1693) (o:=.cells #[.int .i64 ((rd_T147 l0_0 x29_2).f0),.int .i64 ((rd_T147 l0_0 x29_2).f1)] 147 (0,0)) (bs BK1693) hb);have n3_:=Aside0.mk (below_step (hs2 HB GE1689 GE1693) hb);clear HO_3;clear BK1689;clear BK1693;clear HB;have HO_3:=n0_;have BK1689:=n1_;have BK1693:=n2_;have HB:=n3_;clear n0_ n1_ n2_ n3_
           (try clear hb)
           (try clear hb2)
           (try clear hk)
           (try clear hi)
           refine hK.out _ _ ⟨(blk_cell BK1693.out 0).trans rfl,(blk_cell BK1693.out 1).trans rfl,(blk_cell BK1689.out 0).trans rfl,(blk_cell BK1689.out 1).trans rfl,(blk_cell BK1689.out 2).trans rfl⟩ (fun hHeld=>?_);clear hK K;refine norm_ (a':=?_) ?_ ?_;rotate_left
           ·show Act.put _ (some 63) _ = _;simp only [Act.put,List.setIfInBounds_toArray,List.set_cons_zero,List.set_cons_succ,i64_w,i32_w];rfl
           refine pure_ (i:=30) (N:=some 64) (v:=?_) (a':=?_) #[true,true,true,true,true,true,true,true,true,true,true,true,true,true,true,true,true,true,true,true,true,true,true,true,true,true,true,true,true,true,true,false,false] rfl rfl (any_of HT_.out (by kernel_rfl)) (fun _ _ _ h=>h) (Or.inl ⟨by rfl,?_⟩) ?_ ?_;rotate_left
           ·intro w';go_simp;with_reducible rfl
           rotate_left
           ·simp only [Act.put,List.setIfInBounds_toArray,List.set_cons_zero,List.set_cons_succ,i64_w,i32_w];rfl
           refine pure_ (i:=31) (N:=some 65) (v:=?_) (a':=?_) #[true,true,true,true,true,true,true,true,true,true,true,true,true,true,true,true,true,true,true,true,true,true,true,true,true,true,true,true,true,true,true,true,false] rfl rfl (any_of HT_.out (by kernel_rfl)) (fun _ _ _ h=>h) (Or.inl ⟨by rfl,?_⟩) ?_ ?_;rotate_left
           ·intro w';go_simp;with_reducible rfl
           rotate_left
           ·simp only [Act.put,List.setIfInBounds_toArray,List.set_cons_zero,List.set_cons_succ,i64_w,i32_w];rfl
           refine pure_ (i:=32) (N:=some 66) (v:=?_) (a':=?_) #[true,true,true,true,true,true,true,true,true,true,true,true,true,true,true,true,true,true,true,true,true,true,true,true,true,true,true,true,true,true,true,true,true] rfl rfl (any_of HT_.out (by kernel_rfl)) (fun _ _ _ h=>h) (Or.inl ⟨by rfl,?_⟩) ?_ ?_;rotate_left
           ·intro w';go_simp;with_reducible rfl
           rotate_left
           ·simp only [Act.put,List.setIfInBounds_toArray,List.set_cons_zero,List.set_cons_succ,i64_w,i32_w];rfl
           refine done_ (done_of HT_.out (by kernel_rfl)) ?_;have hcz88_0 : w87.cell? ⟨gb1689,0,none⟩ = some (.slice (some ad1692) l0_0.length c0_0):=(blk_cell BK1689.out 0).trans rfl;have hcz88_1 : w87.cell? ⟨gb1689,1,none⟩ = some (.slice A0_1 l0_1.length c0_1):=(blk_cell BK1689.out 1).trans rfl;have hcz88_2 : w87.cell? ⟨gb1689,2,none⟩ = some (.int .i64 a0_2):=(blk_cell BK1689.out 2).trans rfl;have hfz88_0:=blk_frozen BK1689.out 0;have hfz88_1:=blk_frozen BK1689.out 1;have hfz88_2:=blk_frozen BK1689.out 2;have hcz89_0 : w87.cell? ⟨gb1693,0,none⟩ = some (.int .i64 ((rd_T147 l0_0 x29_2).f0)):=(blk_cell BK1693.out 0).trans rfl;have hcz89_1 : w87.cell? ⟨gb1693,1,none⟩ = some (.int .i64 ((rd_T147 l0_0 x29_2).f1)):=(blk_cell BK1693.out 1).trans rfl;have hfz89_0:=blk_frozen BK1693.out 0;have hfz89_1:=blk_frozen BK1693.out 1
           try go_wp2_with (first | ((with_reducible refine gate_callee (f:=94) rfl ?_);refine goesL_ (some 72) rfl rfl Try.func94 (by kernel_rfl) rfl #[.agg #[.slice A0_1 l0_1.length c0_1],.int .i64 ((rd_T147 l0_0 x29_2).f1)] rfl (by (try simp only [List.map_toArray,List.map_cons,List.map_nil]);first | done | rfl | (simp only [List.length_drop,List.length_take];rfl)) ?_;(with_reducible refine (impl_knotsOf.calls k2 _ _ l0_1 ((rd_T147 l0_0 x29_2).f1) t1716 _ ?side1 ?side2 A80.out).mono ?_);(case side1=>repeat (first | exact (Kd.C_below HR0_1.out HB.out) | (with_reducible refine Kd.C_alloc ?_ _) | (with_reducible refine Kd.C_drewN ?_ _) | (with_reducible refine Kd.C_drew ?_)));(case side2=>exact HC0_1.out);rintro e w90 ⟨v1717,rfl,ho0,hb⟩;refine ⟨_,rfl,?_⟩;have n0_:=Aside0.mk (Kd.R_elder' (rs HO_3) (Kd.R_base ho0) hb);have n1_:=Aside0.mk (Kd.R_lower (Kd.R_new' ho0 (Kd.R_lt (rs HO_3))) (below_size (hs2 HB GE1689 GE1693)));have n2_:=Aside0.mk (blk_below (g:=gb1689) (o:=.cells #[.slice (some ad1692) l0_0.length c0_0,.slice A0_1 l0_1.length c0_1,.int .i64 a0_2] 83 (0,0)) (bs BK1689) hb);have n3_:=Aside0.mk (blk_below (g:=gb1693) (o:=.cells #[.int .i64 ((rd_T147 l0_0 x29_2).f0),.int .i64 ((rd_T147 l0_0 x29_2).f1)] 147 (0,0)) (bs BK1693) hb);have n4_:=Aside0.mk (below_step (hs2 HB GE1689 GE1693) hb);clear HO_3;clear BK1689;clear BK1693;clear HB;have HO_3:=n0_;have HO1718:=n1_;have BK1689:=n2_;have BK1693:=n3_;have HB:=n4_;clear n0_ n1_ n2_ n3_ n4_;(try clear hb);(try clear hb2);(try clear hk);(try clear hi);(try clear ho0);obtain ⟨Ao92,co92,eo92⟩:=Kd.R_slice HO1718.out;subst eo92) | ((with_reducible refine gate_builtin (b:=.append) (xs:=#[(.tmp 67),.tmp 72]) rfl ?_);at_builtin;refine Kd.R_append_rows (Kd.int .i64) (w0:=w) w.heap.size rfl (.tmp 67) (.tmp 72) 26 3 (.int .i64 0) 8 rfl Try.underlying26 info3 rfl (by decide) (by omega) u3 x3_2 t1716 _ _ _ (fun k_=>some k_ ≠ (.slice Ao92 t1716.length co92 : Value).ownBlock) (fun _=>False) rfl rfl ?aO ?aR (fun _ _ h=>h) (fun _ h=>h.elim) ?aF ?aB ?aS ?aL ?_;(case aR=>repeat (first | exact (Kd.R_reads' HO1718.out).2.2 | (with_reducible refine Kd.C_alloc ?_ _) | (with_reducible refine Kd.C_drewN ?_ _) | (with_reducible refine Kd.C_drew ?_)));(case aB=>exact (hs2 HB GE1689 GE1693));(case aF=>exact (fun k_ hk=>Kd.fresh' (Kd.R_lt (rs HO1718)) k_ hk));(case aO=>exact (by (with_reducible repeat (first | apply Kd.R_alloc | apply Kd.R_drewN | apply Kd.R_drew));exact Kd.R_mono HO_3.out (fun _ hk=>hk.2)));(case aS=>exact (below_size (hs2 HB GE1689 GE1693)));(case aL=>have:=LMc81.out;omega);intro v1720 w91 ho hb hg hat;rw [← Ny1719.out] at ho;have n0_:=Aside0.mk (blk_grown (g:=gb1689) (o:=.cells #[.slice (some ad1692) l0_0.length c0_0,.slice A0_1 l0_1.length c0_1,.int .i64 a0_2] 83 (0,0)) (bs BK1689) hg (Kd.R_ne HO_3.out BK1689.out (by decide)));have n1_:=Aside0.mk (blk_grown (g:=gb1693) (o:=.cells #[.int .i64 ((rd_T147 l0_0 x29_2).f0),.int .i64 ((rd_T147 l0_0 x29_2).f1)] 147 (0,0)) (bs BK1693) hg (Kd.R_ne HO_3.out BK1693.out (by decide)));have n2_:=Aside0.mk (Kd.R_after (ok:=(fun _=>True)) (rs HO1718) hg hat);have n3_:=Aside0.mk (hb);have n4_:=Aside0.mk (ho);clear BK1689;clear BK1693;clear HO1718;clear HB;clear HO_3;have BK1689:=n0_;have BK1693:=n1_;have HO1718:=n2_;have HB:=n3_;have HO1721:=n4_;clear n0_ n1_ n2_ n3_ n4_;clear ho hb hg hat))
           go_roundg k2;case measure=>have:=HJ1.out;have:=HK2.out;omega
           case rel=>exact ⟨(y1719),(wrap64 (x29_2 + 1)),(by first | rfl | (simp;done) | (simp [*];done)),H',⟨by have:=HJ1.out;have:=HK2.out;omega⟩,⟨by (with_reducible repeat (first | apply Kd.R_alloc | apply Kd.R_drewN | apply Kd.R_drew));exact Kd.R_mono HO1721.out (fun _ hk=>trivial)⟩,⟨bs BK1689⟩,⟨hs2 HB GE1689 GE1693⟩⟩
          rw [if_neg c81] at H;exact absurd H (by simp)
         replace c79:=Bool.eq_false_iff.mpr c79;subst c79;have H1 : (some false) = some r:=by rw [if_neg (show ¬ (false = true) by decide)] at H;exact H
         clear H;have H:=H1;clear H1;obtain rfl:=Option.some.inj H;have p1692 : 0 ≤ (x29_2 : Int):=of_decide_eq_true (by first | (with_reducible assumption) | assumption);have q1692 : x29_2 < (l0_0.length : Int):=of_decide_eq_true (by first | (with_reducible assumption) | assumption);obtain ⟨ad1692,e1692,hx1692_0,hx1692_1⟩:=at_T147 HR0_0.out x29_2 p1692 q1692;cases e1692;replace hx1692_0:=(HB.out.cell (World.block_lt_of_cell? w _ hx1692_0)).trans hx1692_0;replace hx1692_1:=(HB.out.cell (World.block_lt_of_cell? w _ hx1692_1)).trans hx1692_1;replace p1692:=eq_true p1692;replace q1692:=eq_true q1692
         try go_wp2_with (first | ((with_reducible refine gate_dst (N:=5) rfl ?_);refine box_event ?hg (N:=5) ?hd (cs:=#[.int .i64 0,.int .i64 0]) (t:=147) ?hr ?_;(case hd=>rfl);(case hg=>rfl);(case hr=>first | (go_simp;done) | (go_simp;rfl));intro gb1693 hg w93 hbox hb;have n0_:=Aside0.mk (Kd.R_below (rs HO_3) hb);have n1_:=Aside0.mk (blk_below (g:=gb1689) (o:=.cells #[.slice (some ad1692) l0_0.length c0_0,.slice A0_1 l0_1.length c0_1,.int .i64 a0_2] 83 (0,0)) (bs BK1689) hb);have n2_:=Aside0.mk (below_step (hs1 HB GE1689) hb);have n3_:=Aside0.mk (hbox);have n4_:=Aside0.mk ((by rw [hg];exact (below_size (hs1 HB GE1689)) : w.heap.size ≤ gb1693));have n5_:=Aside0.mk ((by rw [hg];exact (below_size (hs1 HB GE1689)) : w.heap.size ≤ gb1693));have n6_:=Aside0.mk ((by rw [hg];exact Nat.ne_of_lt (blk_lt (g:=gb1689) (o:=.cells #[.slice (some ad1692) l0_0.length c0_0,.slice A0_1 l0_1.length c0_1,.int .i64 a0_2] 83 (0,0)) (bs BK1689)) : gb1689 ≠ gb1693));have n7_:=Aside0.mk ((by rw [hg];exact Nat.ne_of_gt (blk_lt (g:=gb1689) (o:=.cells #[.slice (some ad1692) l0_0.length c0_0,.slice A0_1 l0_1.length c0_1,.int .i64 a0_2] 83 (0,0)) (bs BK1689)) : gb1693 ≠ gb1689));clear HO_3;clear BK1689;clear HB;have HO_3:=n0_;have BK1689:=n1_;have HB:=n2_;have BK1693:=n3_;have GW1693:=n4_;have GE1693:=n5_;have NB1689_1693:=n6_;have NB1693_1689:=n7_;clear n0_ n1_ n2_ n3_ n4_ n5_ n6_ n7_;clear hb hbox hg;have hnb94:=NB1693_1689.out;have hnc94:=NB1689_1693.out;have hcz95_0 : w93.cell? ⟨gb1693,0,none⟩ = some (.int .i64 0):=(blk_cell BK1693.out 0).trans rfl;have hcz95_1 : w93.cell? ⟨gb1693,1,none⟩ = some (.int .i64 0):=(blk_cell BK1693.out 1).trans rfl;have hfz95_0:=blk_frozen BK1693.out 0;have hfz95_1:=blk_frozen BK1693.out 1))
         have n0_ : Aside0 (Kd.R (Kd.int .i64) 3 ((w93.setCell ⟨gb1693,0,none⟩ (.int .i64 ((rd_T147 l0_0 x29_2).f0))).setCell ⟨gb1693,1,none⟩ (.int .i64 ((rd_T147 l0_0 x29_2).f1))) w.heap.size (fun _=>True) u3 x3_2):=⟨by (with_reducible repeat (first | apply Kd.R_alloc | apply Kd.R_drewN | apply Kd.R_drew));exact Kd.R_mono (Kd.R_far (p:=⟨gb1693,1,none⟩) (Kd.R_far (p:=⟨gb1693,0,none⟩) (Kd.R_types HO_3.out BK1693.out (by decide)) (fun _ hk=>hk.2) (.int .i64 ((rd_T147 l0_0 x29_2).f0))) (fun _ hk=>hk.2) (.int .i64 ((rd_T147 l0_0 x29_2).f1))) (fun _ hk=>trivial)⟩;have n1_ : Aside0 (((w93.setCell ⟨gb1693,0,none⟩ (.int .i64 ((rd_T147 l0_0 x29_2).f0))).setCell ⟨gb1693,1,none⟩ (.int .i64 ((rd_T147 l0_0 x29_2).f1))).heap[gb1689]? = some (.cells #[.slice (some ad1692) l0_0.length c0_0,.slice A0_1 l0_1.length c0_1,.int .i64 a0_2] 83 (0,0))):=⟨by (with_reducible repeat (first | refine blk_drewN ?_ _ | refine blk_drew ?_ | refine blk_alloc ?_ _));refine blk_far ?_ NB1689_1693.out _;(with_reducible repeat (first | refine blk_drewN ?_ _ | refine blk_drew ?_ | refine blk_alloc ?_ _));refine blk_far ?_ NB1689_1693.out _;(with_reducible repeat (first | refine blk_drewN ?_ _ | refine blk_drew ?_ | refine blk_alloc ?_ _));exact BK1689.out⟩;have n2_ : Aside0 (((w93.setCell ⟨gb1693,0,none⟩ (.int .i64 ((rd_T147 l0_0 x29_2).f0))).setCell ⟨gb1693,1,none⟩ (.int .i64 ((rd_T147 l0_0 x29_2).f1))).heap[gb1693]? = some (.cells #[.int .i64 ((rd_T147 l0_0 x29_2).f0),.int .i64 ((rd_T147 l0_0 x29_2).f1)] 147 (0,0))):=⟨by (with_reducible repeat (first | refine blk_drewN ?_ _ | refine blk_drew ?_ | refine blk_alloc ?_ _));refine blk_put (cs:=#[.int .i64 ((rd_T147 l0_0 x29_2).f0),.int .i64 0]) ?_ 1 _ rfl;(with_reducible repeat (first | refine blk_drewN ?_ _ | refine blk_drew ?_ | refine blk_alloc ?_ _));refine blk_put (cs:=#[.int .i64 0,.int .i64 0]) ?_ 0 _ rfl;(with_reducible repeat (first | refine blk_drewN ?_ _ | refine blk_drew ?_ | refine blk_alloc ?_ _));exact BK1693.out⟩;have n3_ : Aside0 (Below w.heap.size w ((w93.setCell ⟨gb1693,0,none⟩ (.int .i64 ((rd_T147 l0_0 x29_2).f0))).setCell ⟨gb1693,1,none⟩ (.int .i64 ((rd_T147 l0_0 x29_2).f1)))):=⟨hs2 HB GE1689 GE1693⟩
         (try clear HO_3)
         (try clear BK1689)
         (try clear BK1693)
         (try clear HB)
         generalize ((w93.setCell ⟨gb1693,0,none⟩ (.int .i64 ((rd_T147 l0_0 x29_2).f0))).setCell ⟨gb1693,1,none⟩ (.int .i64 ((rd_T147 l0_0 x29_2).f1))) = w96 at n0_ n1_ n2_ n3_ ⊢;have HO_3:=n0_;have BK1689:=n1_;have BK1693:=n2_;have HB:=n3_;clear n0_ n1_ n2_ n3_;have n0_:=Aside0.mk (Kd.R_drew HO_3.out);have n1_:=Aside0.mk (blk_drew BK1689.out);have n2_:=Aside0.mk (blk_drew BK1693.out);have n3_:=Aside0.mk (below_drew1 HB.out);clear HO_3;clear BK1689;clear BK1693;clear HB;have HO_3:=n0_;have BK1689:=n1_;have BK1693:=n2_;have HB:=n3_;clear n0_ n1_ n2_ n3_;refine start_ (n:=33) (S:=fun w'=>w'.cell? ⟨gb1693,0,none⟩ = some (.int .i64 ((rd_T147 l0_0 x29_2).f0)) ∧ w'.cell? ⟨gb1693,1,none⟩ = some (.int .i64 ((rd_T147 l0_0 x29_2).f1)) ∧ w'.cell? ⟨gb1689,0,none⟩ = some (.slice (some ad1692) l0_0.length c0_0) ∧ w'.cell? ⟨gb1689,1,none⟩ = some (.slice A0_1 l0_1.length c0_1) ∧ w'.cell? ⟨gb1689,2,none⟩ = some (.int .i64 a0_2)) (ds:=[]) #[false,false,false,false,false,false,false,false,false,false,false,false,false,false,false,false,false,false,false,false,false,false,false,false,false,false,false,false,false,false,false,false,false] (by kernel_rfl) rfl rfl ⟨(blk_cell BK1693.out 0).trans rfl,(blk_cell BK1693.out 1).trans rfl,(blk_cell BK1689.out 0).trans rfl,(blk_cell BK1689.out 1).trans rfl,(blk_cell BK1689.out 2).trans rfl⟩ (fun hHeld=>?_);refine with_tabW impl_StoreOk.tab7 impl_StoreOk.bits7 (fun HT_ HW_=>?_);generalize w96.drew = w97 at HO_3 BK1689 BK1693 HB hHeld ⊢;refine pure_ (i:=0) (N:=some 34) (v:=?_) (a':=?_) #[true,false,false,false,false,false,false,false,false,false,false,false,false,false,false,false,false,false,false,false,false,false,false,false,false,false,false,false,false,false,false,false,false] rfl rfl (any_of HT_.out (by kernel_rfl)) (fun _ _ _ h=>h) (Or.inl ⟨by rfl,?_⟩) ?_ ?_;rotate_left
         ·intro w';go_simp;with_reducible rfl
         rotate_left
         ·simp only [Act.put,List.setIfInBounds_toArray,List.set_cons_zero,List.set_cons_succ,i64_w,i32_w];rfl
         refine take_ (i:=1) (N:=some 35) (v:=?_) (a':=?_) #[true,true,false,false,false,false,false,false,false,false,false,false,false,false,false,false,false,false,false,false,false,false,false,false,false,false,false,false,false,false,false,false,false] rfl rfl (take_ofW HT_.out HW_.out (by kernel_rfl)) (fun _ _ _ h=>h) (Or.inl ⟨by rfl,?_⟩) hHeld ?_ ?_;rotate_left
         ·rintro w' ⟨s0,s1,s2,s3,s4⟩;go_simp;with_reducible rfl
         rotate_left
         ·simp only [Act.put,List.setIfInBounds_toArray,List.set_cons_zero,List.set_cons_succ,i64_w,i32_w];rfl
         refine one_ (i:=2) (N:=some 36) #[true,true,true,false,false,false,false,false,false,false,false,false,false,false,false,false,false,false,false,false,false,false,false,false,false,false,false,false,false,false,false,false,false] rfl rfl (one_of HT_.out (by kernel_rfl)) (by decide) (fun K hK=>?_);refine goes_ Try.func84 (by kernel_rfl) rfl #[.int .i64 ((rd_T147 l0_0 x29_2).f0),.int .i64 1,.int .i64 9] (by rfl) rfl rfl (by (try simp only [List.map_toArray,List.map_cons,List.map_nil]);first | done | rfl | (simp only [List.length_drop,List.length_take];rfl)) ?_;with_reducible refine (impl_in.calls ((rd_T147 l0_0 x29_2).f0) 1 9 true _ A19.out).mono ?_
         rintro e w' ⟨rfl,⟨nd,rfl⟩⟩;refine ⟨_,rfl,?_⟩;refine hK.out _ _ ⟨(blk_cell BK1693.out 0).trans rfl,(blk_cell BK1693.out 1).trans rfl,(blk_cell BK1689.out 0).trans rfl,(blk_cell BK1689.out 1).trans rfl,(blk_cell BK1689.out 2).trans rfl⟩ (fun hHeld=>?_);clear hK K;refine norm_ (a':=?_) ?_ ?_;rotate_left
         ·show Act.put _ (some 36) _ = _;simp only [Act.put,List.setIfInBounds_toArray,List.set_cons_zero,List.set_cons_succ,i64_w,i32_w];rfl
         refine pure_ (i:=3) (N:=some 37) (v:=?_) (a':=?_) #[true,true,true,true,false,false,false,false,false,false,false,false,false,false,false,false,false,false,false,false,false,false,false,false,false,false,false,false,false,false,false,false,false] rfl rfl (any_of HT_.out (by kernel_rfl)) (fun _ _ _ h=>h) (Or.inl ⟨by rfl,?_⟩) ?_ ?_;rotate_left
         ·intro w';go_simp;with_reducible rfl
         rotate_left
         ·simp only [Act.put,List.setIfInBounds_toArray,List.set_cons_zero,List.set_cons_succ,i64_w,i32_w];rfl
         refine pure_ (i:=4) (N:=some 38) (v:=?_) (a':=?_) #[true,true,true,true,true,false,false,false,false,false,false,false,false,false,false,false,false,false,false,false,false,false,false,false,false,false,false,false,false,false,false,false,false] rfl rfl (any_of HT_.out (by kernel_rfl)) (fun _ _ _ h=>h) (Or.inl ⟨by rfl,?_⟩) ?_ ?_;rotate_left
         ·intro w';go_simp;with_reducible rfl
         rotate_left
         ·simp only [Act.put,List.setIfInBounds_toArray,List.set_cons_zero,List.set_cons_succ,i64_w,i32_w];rfl
         refine pure_ (i:=5) (N:=some 39) (v:=?_) (a':=?_) #[true,true,true,true,true,true,false,false,false,false,false,false,false,false,false,false,false,false,false,false,false,false,false,false,false,false,false,false,false,false,false,false,false] rfl rfl (any_of HT_.out (by kernel_rfl)) (fun _ _ _ h=>h) (Or.inl ⟨by rfl,?_⟩) ?_ ?_;rotate_left
         ·intro w';go_simp;with_reducible rfl
         rotate_left
         ·simp only [Act.put,List.setIfInBounds_toArray,List.set_cons_zero,List.set_cons_succ,i64_w,i32_w];rfl
         refine pure_ (i:=6) (N:=some 40) (v:=?_) (a':=?_) #[true,true,true,true,true,true,true,false,false,false,false,false,false,false,false,false,false,false,false,false,false,false,false,false,false,false,false,false,false,false,false,false,false] rfl rfl (any_of HT_.out (by kernel_rfl)) (fun _ _ _ h=>h) (Or.inl ⟨by rfl,?_⟩) ?_ ?_;rotate_left
         ·intro w';go_simp;with_reducible rfl
         rotate_left
         ·simp only [Act.put,List.setIfInBounds_toArray,List.set_cons_zero,List.set_cons_succ,i64_w,i32_w];rfl
         refine pure_ (i:=7) (N:=some 41) (v:=?_) (a':=?_) #[true,true,true,true,true,true,true,true,false,false,false,false,false,false,false,false,false,false,false,false,false,false,false,false,false,false,false,false,false,false,false,false,false] rfl rfl (any_of HT_.out (by kernel_rfl)) (fun _ _ _ h=>h) (Or.inl ⟨by rfl,?_⟩) ?_ ?_;rotate_left
         ·intro w';go_simp;with_reducible rfl
         rotate_left
         ·simp only [Act.put,List.setIfInBounds_toArray,List.set_cons_zero,List.set_cons_succ,i64_w,i32_w];rfl
         refine pure_ (i:=8) (N:=some 42) (v:=undef) (a':=?_) #[true,true,true,true,true,true,true,true,true,false,false,false,false,false,false,false,false,false,false,false,false,false,false,false,false,false,false,false,false,false,false,false,false] rfl rfl (any_of HT_.out (by kernel_rfl)) (fun _ _ _ h=>h) (Or.inr ⟨by rfl,rfl⟩) ?_ ?_;rotate_left
         ·simp only [Act.put,List.setIfInBounds_toArray,List.set_cons_zero,List.set_cons_succ,i64_w,i32_w];rfl
         refine pure_ (i:=9) (N:=some 43) (v:=undef) (a':=?_) #[true,true,true,true,true,true,true,true,true,true,false,false,false,false,false,false,false,false,false,false,false,false,false,false,false,false,false,false,false,false,false,false,false] rfl rfl (any_of HT_.out (by kernel_rfl)) (fun _ _ _ h=>h) (Or.inr ⟨by rfl,rfl⟩) ?_ ?_;rotate_left
         ·simp only [Act.put,List.setIfInBounds_toArray,List.set_cons_zero,List.set_cons_succ,i64_w,i32_w];rfl
         refine pure_ (i:=10) (N:=some 44) (v:=undef) (a':=?_) #[true,true,true,true,true,true,true,true,true,true,true,false,false,false,false,false,false,false,false,false,false,false,false,false,false,false,false,false,false,false,false,false,false] rfl rfl (any_of HT_.out (by kernel_rfl)) (fun _ _ _ h=>h) (Or.inr ⟨by rfl,rfl⟩) ?_ ?_;rotate_left
         ·simp only [Act.put,List.setIfInBounds_toArray,List.set_cons_zero,List.set_cons_succ,i64_w,i32_w];rfl
         refine pure_ (i:=11) (N:=some 45) (v:=undef) (a':=?_) #[true,true,true,true,true,true,true,true,true,true,true,true,false,false,false,false,false,false,false,false,false,false,false,false,false,false,false,false,false,false,false,false,false] rfl rfl (any_of HT_.out (by kernel_rfl)) (fun _ _ _ h=>h) (Or.inr ⟨by rfl,rfl⟩) ?_ ?_;rotate_left
         ·simp only [Act.put,List.setIfInBounds_toArray,List.set_cons_zero,List.set_cons_succ,i64_w,i32_w];rfl
         refine pure_ (i:=12) (N:=some 46) (v:=undef) (a':=?_) #[true,true,true,true,true,true,true,true,true,true,true,true,true,false,false,false,false,false,false,false,false,false,false,false,false,false,false,false,false,false,false,false,false] rfl rfl (any_of HT_.out (by kernel_rfl)) (fun _ _ _ h=>h) (Or.inr ⟨by rfl,rfl⟩) ?_ ?_;rotate_left
         ·simp only [Act.put,List.setIfInBounds_toArray,List.set_cons_zero,List.set_cons_succ,i64_w,i32_w];rfl
         refine pure_ (i:=13) (N:=some 47) (v:=undef) (a':=?_) #[true,true,true,true,true,true,true,true,true,true,true,true,true,true,false,false,false,false,false,false,false,false,false,false,false,false,false,false,false,false,false,false,false] rfl rfl (any_of HT_.out (by kernel_rfl)) (fun _ _ _ h=>h) (Or.inr ⟨by rfl,rfl⟩) ?_ ?_;rotate_left
         ·simp only [Act.put,List.setIfInBounds_toArray,List.set_cons_zero,List.set_cons_succ,i64_w,i32_w];rfl
         refine pure_ (i:=14) (N:=some 48) (v:=undef) (a':=?_) #[true,true,true,true,true,true,true,true,true,true,true,true,true,true,true,false,false,false,false,false,false,false,false,false,false,false,false,false,false,false,false,false,false] rfl rfl (any_of HT_.out (by kernel_rfl)) (fun _ _ _ h=>h) (Or.inr ⟨by rfl,rfl⟩) ?_ ?_;rotate_left
         ·simp only [Act.put,List.setIfInBounds_toArray,List.set_cons_zero,List.set_cons_succ,i64_w,i32_w];rfl
         refine pure_ (i:=15) (N:=some 49) (v:=undef) (a':=?_) #[true,true,true,true,true,true,true,true,true,true,true,true,true,true,true,true,false,false,false,false,false,false,false,false,false,false,false,false,false,false,false,false,false] rfl rfl (any_of HT_.out (by kernel_rfl)) (fun _ _ _ h=>h) (Or.inr ⟨by rfl,rfl⟩) ?_ ?_;rotate_left
         ·simp only [Act.put,List.setIfInBounds_toArray,List.set_cons_zero,List.set_cons_succ,i64_w,i32_w];rfl
         refine pure_ (i:=16) (N:=some 50) (v:=undef) (a':=?_) #[true,true,true,true,true,true,true,true,true,true,true,true,true,true,true,true,true,false,false,false,false,false,false,false,false,false,false,false,false,false,false,false,false] rfl rfl (any_of HT_.out (by kernel_rfl)) (fun _ _ _ h=>h) (Or.inr ⟨by rfl,rfl⟩) ?_ ?_;rotate_left
         ·simp only [Act.put,List.setIfInBounds_toArray,List.set_cons_zero,List.set_cons_succ,i64_w,i32_w];rfl
         refine pure_ (i:=17) (N:=some 51) (v:=undef) (a':=?_) #[true,true,true,true,true,true,true,true,true,true,true,true,true,true,true,true,true,true,false,false,false,false,false,false,false,false,false,false,false,false,false,false,false] rfl rfl (any_of HT_.out (by kernel_rfl)) (fun _ _ _ h=>h) (Or.inr ⟨by rfl,rfl⟩) ?_ ?_;rotate_left
         ·simp only [Act.put,List.setIfInBounds_toArray,List.set_cons_zero,List.set_cons_succ,i64_w,i32_w];rfl
         refine pure_ (i:=18) (N:=some 52) (v:=?_) (a':=?_) #[true,true,true,true,true,true,true,true,true,true,true,true,true,true,true,true,true,true,true,false,false,false,false,false,false,false,false,false,false,false,false,false,false] rfl rfl (any_of HT_.out (by kernel_rfl)) (fun _ _ _ h=>h) (Or.inl ⟨by rfl,?_⟩) ?_ ?_;rotate_left
         ·intro w';go_simp;with_reducible rfl
         rotate_left
         ·simp only [Act.put,List.setIfInBounds_toArray,List.set_cons_zero,List.set_cons_succ,i64_w,i32_w];rfl
         refine pure_ (i:=19) (N:=some 53) (v:=?_) (a':=?_) #[true,true,true,true,true,true,true,true,true,true,true,true,true,true,true,true,true,true,true,true,false,false,false,false,false,false,false,false,false,false,false,false,false] rfl rfl (any_of HT_.out (by kernel_rfl)) (fun _ _ _ h=>h) (Or.inl ⟨by rfl,?_⟩) ?_ ?_;rotate_left
         ·intro w';go_simp;with_reducible rfl
         rotate_left
         ·simp only [Act.put,List.setIfInBounds_toArray,List.set_cons_zero,List.set_cons_succ,i64_w,i32_w];rfl
         refine pure_ (i:=20) (N:=some 54) (v:=?_) (a':=?_) #[true,true,true,true,true,true,true,true,true,true,true,true,true,true,true,true,true,true,true,true,true,false,false,false,false,false,false,false,false,false,false,false,false] rfl rfl (any_of HT_.out (by kernel_rfl)) (fun _ _ _ h=>h) (Or.inl ⟨by rfl,?_⟩) ?_ ?_;rotate_left
         ·intro w';go_simp;with_reducible rfl
         rotate_left
         ·simp only [Act.put,List.setIfInBounds_toArray,List.set_cons_zero,List.set_cons_succ,i64_w,i32_w];rfl
         refine pure_ (i:=21) (N:=some 55) (v:=?_) (a':=?_) #[true,true,true,true,true,true,true,true,true,true,true,true,true,true,true,true,true,true,true,true,true,true,false,false,false,false,false,false,false,false,false,false,false] rfl rfl (any_of HT_.out (by kernel_rfl)) (fun _ _ _ h=>h) (Or.inl ⟨by rfl,?_⟩) ?_ ?_;rotate_left
         ·intro w';go_simp;with_reducible rfl
         rotate_left
         ·simp only [Act.put,List.setIfInBounds_toArray,List.set_cons_zero,List.set_cons_succ,i64_w,i32_w];rfl
         refine take_ (i:=22) (N:=some 56) (v:=?_) (a':=?_) #[true,true,true,true,true,true,true,true,true,true,true,true,true,true,true,true,true,true,true,true,true,true,true,false,false,false,false,false,false,false,false,false,false] rfl rfl (take_ofW HT_.out HW_.out (by kernel_rfl)) (fun _ _ _ h=>h) (Or.inl ⟨by rfl,?_⟩) hHeld ?_ ?_;rotate_left
         ·rintro w' ⟨s0,s1,s2,s3,s4⟩;go_simp;with_reducible rfl
         rotate_left
         ·simp only [Act.put,List.setIfInBounds_toArray,List.set_cons_zero,List.set_cons_succ,i64_w,i32_w];rfl
         refine pure_ (i:=23) (N:=some 57) (v:=?_) (a':=?_) #[true,true,true,true,true,true,true,true,true,true,true,true,true,true,true,true,true,true,true,true,true,true,true,true,false,false,false,false,false,false,false,false,false] rfl rfl (any_of HT_.out (by kernel_rfl)) (fun _ _ _ h=>h) (Or.inl ⟨by rfl,?_⟩) ?_ ?_;rotate_left
         ·intro w';go_simp;with_reducible rfl
         rotate_left
         ·simp only [Act.put,List.setIfInBounds_toArray,List.set_cons_zero,List.set_cons_succ,i64_w,i32_w];rfl
         refine pure_ (i:=24) (N:=some 58) (v:=?_) (a':=?_) #[true,true,true,true,true,true,true,true,true,true,true,true,true,true,true,true,true,true,true,true,true,true,true,true,true,false,false,false,false,false,false,false,false] rfl rfl (any_of HT_.out (by kernel_rfl)) (fun _ _ _ h=>h) (Or.inl ⟨by rfl,?_⟩) ?_ ?_;rotate_left
         ·intro w';go_simp;with_reducible rfl
         rotate_left
         ·simp only [Act.put,List.setIfInBounds_toArray,List.set_cons_zero,List.set_cons_succ,i64_w,i32_w];rfl
         refine pure_ (i:=25) (N:=some 59) (v:=?_) (a':=?_) #[true,true,true,true,true,true,true,true,true,true,true,true,true,true,true,true,true,true,true,true,true,true,true,true,true,true,false,false,false,false,false,false,false] rfl rfl (any_of HT_.out (by kernel_rfl)) (fun _ _ _ h=>h) (Or.inl ⟨by rfl,?_⟩) ?_ ?_;rotate_left
         ·intro w';go_simp;with_reducible rfl
         rotate_left
         ·simp only [Act.put,List.setIfInBounds_toArray,List.set_cons_zero,List.set_cons_succ,i64_w,i32_w];rfl
         refine pure_ (i:=27) (N:=some 61) (v:=?_) (a':=?_) #[true,true,true,true,true,true,true,true,true,true,true,true,true,true,true,true,true,true,true,true,true,true,true,true,true,true,false,true,false,false,false,false,false] rfl rfl (any_of HT_.out (by kernel_rfl)) (fun _ _ _ h=>h) (Or.inl ⟨by rfl,?_⟩) ?_ ?_;rotate_left
         ·intro w';go_simp;with_reducible rfl
         rotate_left
         ·simp only [Act.put,List.setIfInBounds_toArray,List.set_cons_zero,List.set_cons_succ,i64_w,i32_w];rfl
         refine take_ (i:=26) (N:=some 60) (v:=?_) (a':=?_) #[true,true,true,true,true,true,true,true,true,true,true,true,true,true,true,true,true,true,true,true,true,true,true,true,true,true,true,true,false,false,false,false,false] rfl rfl (take_ofW HT_.out HW_.out (by kernel_rfl)) (fun _ _ _ h=>h) (Or.inl ⟨by rfl,?_⟩) hHeld ?_ ?_;rotate_left
         ·rintro w' ⟨s0,s1,s2,s3,s4⟩;go_simp;with_reducible rfl
         rotate_left
         ·simp only [Act.put,List.setIfInBounds_toArray,List.set_cons_zero,List.set_cons_succ,i64_w,i32_w];rfl
         refine take_ (i:=28) (N:=some 62) (v:=?_) (a':=?_) #[true,true,true,true,true,true,true,true,true,true,true,true,true,true,true,true,true,true,true,true,true,true,true,true,true,true,true,true,true,false,false,false,false] rfl rfl (take_ofW HT_.out HW_.out (by kernel_rfl)) (fun _ _ _ h=>h) (Or.inl ⟨by rfl,?_⟩) hHeld ?_ ?_;rotate_left
         ·rintro w' ⟨s0,s1,s2,s3,s4⟩;go_simp;with_reducible rfl
         rotate_left
         ·simp only [Act.put,List.setIfInBounds_toArray,List.set_cons_zero,List.set_cons_succ,i64_w,i32_w];rfl
         refine one_ (i:=29) (N:=some 63) #[true,true,true,true,true,true,true,true,true,true,true,true,true,true,true,true,true,true,true,true,true,true,true,true,true,true,true,true,true,true,false,false,false] rfl rfl (one_of HT_.out (by kernel_rfl)) (by decide) (fun K hK=>?_);refine goes_ Try.func92 (by kernel_rfl) rfl #[.agg #[.slice A0_1 l0_1.length c0_1],.int .i64 ((rd_T147 l0_0 x29_2).f1)] (by rfl) rfl rfl (by (try simp only [List.map_toArray,List.map_cons,List.map_nil]);first | done | rfl | (simp only [List.length_drop,List.length_take];rfl)) ?_;with_reducible refine (impl_isRoot.calls _ _ l0_1 ((rd_T147 l0_0 x29_2).f1) false _ ?side1 ?side2 A78.out).mono ?_
         (case side1=>repeat (first | exact (Kd.C_below HR0_1.out (hs2 HB GE1689 GE1693)) | (with_reducible refine Kd.C_alloc ?_ _) | (with_reducible refine Kd.C_drewN ?_ _) | (with_reducible refine Kd.C_drew ?_)))
         (case side2=>exact HC0_1.out)
         rintro e w98 ⟨rfl,hb⟩;refine ⟨_,rfl,?_⟩;have n0_:=Aside0.mk (Kd.R_below (rs HO_3) hb);have n1_:=Aside0.mk (blk_below (g:=gb1689) (o:=.cells #[.slice (some ad1692) l0_0.length c0_0,.slice A0_1 l0_1.length c0_1,.int .i64 a0_2] 83 (0,0)) (bs BK1689) hb);have n2_:=Aside0.mk (blk_below (g:=gb1693) (o:=.cells #[.int .i64 ((rd_T147 l0_0 x29_2).f0),.int .i64 ((rd_T147 l0_0 x29_2).f1)] 147 (0,0)) (bs BK1693) hb);have n3_:=Aside0.mk (below_step (hs2 HB GE1689 GE1693) hb);clear HO_3;clear BK1689;clear BK1693;clear HB;have HO_3:=n0_;have BK1689:=n1_;have BK1693:=n2_;have HB:=n3_;clear n0_ n1_ n2_ n3_
         (try clear hb)
         (try clear hb2)
         (try clear hk)
         (try clear hi)
         refine hK.out _ _ ⟨(blk_cell BK1693.out 0).trans rfl,(blk_cell BK1693.out 1).trans rfl,(blk_cell BK1689.out 0).trans rfl,(blk_cell BK1689.out 1).trans rfl,(blk_cell BK1689.out 2).trans rfl⟩ (fun hHeld=>?_);clear hK K;refine norm_ (a':=?_) ?_ ?_;rotate_left
         ·show Act.put _ (some 63) _ = _;simp only [Act.put,List.setIfInBounds_toArray,List.set_cons_zero,List.set_cons_succ,i64_w,i32_w];rfl
         refine pure_ (i:=30) (N:=some 64) (v:=?_) (a':=?_) #[true,true,true,true,true,true,true,true,true,true,true,true,true,true,true,true,true,true,true,true,true,true,true,true,true,true,true,true,true,true,true,false,false] rfl rfl (any_of HT_.out (by kernel_rfl)) (fun _ _ _ h=>h) (Or.inl ⟨by rfl,?_⟩) ?_ ?_;rotate_left
         ·intro w';go_simp;with_reducible rfl
         rotate_left
         ·simp only [Act.put,List.setIfInBounds_toArray,List.set_cons_zero,List.set_cons_succ,i64_w,i32_w];rfl
         refine pure_ (i:=31) (N:=some 65) (v:=?_) (a':=?_) #[true,true,true,true,true,true,true,true,true,true,true,true,true,true,true,true,true,true,true,true,true,true,true,true,true,true,true,true,true,true,true,true,false] rfl rfl (any_of HT_.out (by kernel_rfl)) (fun _ _ _ h=>h) (Or.inl ⟨by rfl,?_⟩) ?_ ?_;rotate_left
         ·intro w';go_simp;with_reducible rfl
         rotate_left
         ·simp only [Act.put,List.setIfInBounds_toArray,List.set_cons_zero,List.set_cons_succ,i64_w,i32_w];rfl
         refine pure_ (i:=32) (N:=some 66) (v:=?_) (a':=?_) #[true,true,true,true,true,true,true,true,true,true,true,true,true,true,true,true,true,true,true,true,true,true,true,true,true,true,true,true,true,true,true,true,true] rfl rfl (any_of HT_.out (by kernel_rfl)) (fun _ _ _ h=>h) (Or.inl ⟨by rfl,?_⟩) ?_ ?_;rotate_left
         ·intro w';go_simp;with_reducible rfl
         rotate_left
         ·simp only [Act.put,List.setIfInBounds_toArray,List.set_cons_zero,List.set_cons_succ,i64_w,i32_w];rfl
         refine done_ (done_of HT_.out (by kernel_rfl)) ?_
         try go_wp2
         go_ret
         exact ⟨by first | rfl | (simp [errW_none,errW_some] <;> rfl) | (simp [*,errW_none,errW_some] <;> rfl),hs2 HB GE1689 GE1693⟩
        replace c20:=Bool.eq_false_iff.mpr c20;subst c20;have H1 : (some false) = some r:=by rw [if_neg (show ¬ (false = true) by decide)] at H;exact H
        clear H;have H:=H1;clear H1;obtain rfl:=Option.some.inj H;have p1692 : 0 ≤ (x29_2 : Int):=of_decide_eq_true (by first | (with_reducible assumption) | assumption);have q1692 : x29_2 < (l0_0.length : Int):=of_decide_eq_true (by first | (with_reducible assumption) | assumption);obtain ⟨ad1692,e1692,hx1692_0,hx1692_1⟩:=at_T147 HR0_0.out x29_2 p1692 q1692;cases e1692;replace hx1692_0:=(HB.out.cell (World.block_lt_of_cell? w _ hx1692_0)).trans hx1692_0;replace hx1692_1:=(HB.out.cell (World.block_lt_of_cell? w _ hx1692_1)).trans hx1692_1;replace p1692:=eq_true p1692;replace q1692:=eq_true q1692
        try go_wp2_with (first | ((with_reducible refine gate_dst (N:=5) rfl ?_);refine box_event ?hg (N:=5) ?hd (cs:=#[.int .i64 0,.int .i64 0]) (t:=147) ?hr ?_;(case hd=>rfl);(case hg=>rfl);(case hr=>first | (go_simp;done) | (go_simp;rfl));intro gb1693 hg w99 hbox hb;have n0_:=Aside0.mk (Kd.R_below (rs HO_3) hb);have n1_:=Aside0.mk (blk_below (g:=gb1689) (o:=.cells #[.slice (some ad1692) l0_0.length c0_0,.slice A0_1 l0_1.length c0_1,.int .i64 a0_2] 83 (0,0)) (bs BK1689) hb);have n2_:=Aside0.mk (below_step (hs1 HB GE1689) hb);have n3_:=Aside0.mk (hbox);have n4_:=Aside0.mk ((by rw [hg];exact (below_size (hs1 HB GE1689)) : w.heap.size ≤ gb1693));have n5_:=Aside0.mk ((by rw [hg];exact (below_size (hs1 HB GE1689)) : w.heap.size ≤ gb1693));have n6_:=Aside0.mk ((by rw [hg];exact Nat.ne_of_lt (blk_lt (g:=gb1689) (o:=.cells #[.slice (some ad1692) l0_0.length c0_0,.slice A0_1 l0_1.length c0_1,.int .i64 a0_2] 83 (0,0)) (bs BK1689)) : gb1689 ≠ gb1693));have n7_:=Aside0.mk ((by rw [hg];exact Nat.ne_of_gt (blk_lt (g:=gb1689) (o:=.cells #[.slice (some ad1692) l0_0.length c0_0,.slice A0_1 l0_1.length c0_1,.int .i64 a0_2] 83 (0,0)) (bs BK1689)) : gb1693 ≠ gb1689));clear HO_3;clear BK1689;clear HB;have HO_3:=n0_;have BK1689:=n1_;have HB:=n2_;have BK1693:=n3_;have GW1693:=n4_;have GE1693:=n5_;have NB1689_1693:=n6_;have NB1693_1689:=n7_;clear n0_ n1_ n2_ n3_ n4_ n5_ n6_ n7_;clear hb hbox hg;have hnb100:=NB1693_1689.out;have hnc100:=NB1689_1693.out;have hcz101_0 : w99.cell? ⟨gb1693,0,none⟩ = some (.int .i64 0):=(blk_cell BK1693.out 0).trans rfl;have hcz101_1 : w99.cell? ⟨gb1693,1,none⟩ = some (.int .i64 0):=(blk_cell BK1693.out 1).trans rfl;have hfz101_0:=blk_frozen BK1693.out 0;have hfz101_1:=blk_frozen BK1693.out 1))
        have n0_ : Aside0 (Kd.R (Kd.int .i64) 3 ((w99.setCell ⟨gb1693,0,none⟩ (.int .i64 ((rd_T147 l0_0 x29_2).f0))).setCell ⟨gb1693,1,none⟩ (.int .i64 ((rd_T147 l0_0 x29_2).f1))) w.heap.size (fun _=>True) u3 x3_2):=⟨by (with_reducible repeat (first | apply Kd.R_alloc | apply Kd.R_drewN | apply Kd.R_drew));exact Kd.R_mono (Kd.R_far (p:=⟨gb1693,1,none⟩) (Kd.R_far (p:=⟨gb1693,0,none⟩) (Kd.R_types HO_3.out BK1693.out (by decide)) (fun _ hk=>hk.2) (.int .i64 ((rd_T147 l0_0 x29_2).f0))) (fun _ hk=>hk.2) (.int .i64 ((rd_T147 l0_0 x29_2).f1))) (fun _ hk=>trivial)⟩;have n1_ : Aside0 (((w99.setCell ⟨gb1693,0,none⟩ (.int .i64 ((rd_T147 l0_0 x29_2).f0))).setCell ⟨gb1693,1,none⟩ (.int .i64 ((rd_T147 l0_0 x29_2).f1))).heap[gb1689]? = some (.cells #[.slice (some ad1692) l0_0.length c0_0,.slice A0_1 l0_1.length c0_1,.int .i64 a0_2] 83 (0,0))):=⟨by (with_reducible repeat (first | refine blk_drewN ?_ _ | refine blk_drew ?_ | refine blk_alloc ?_ _));refine blk_far ?_ NB1689_1693.out _;(with_reducible repeat (first | refine blk_drewN ?_ _ | refine blk_drew ?_ | refine blk_alloc ?_ _));refine blk_far ?_ NB1689_1693.out _;(with_reducible repeat (first | refine blk_drewN ?_ _ | refine blk_drew ?_ | refine blk_alloc ?_ _));exact BK1689.out⟩;have n2_ : Aside0 (((w99.setCell ⟨gb1693,0,none⟩ (.int .i64 ((rd_T147 l0_0 x29_2).f0))).setCell ⟨gb1693,1,none⟩ (.int .i64 ((rd_T147 l0_0 x29_2).f1))).heap[gb1693]? = some (.cells #[.int .i64 ((rd_T147 l0_0 x29_2).f0),.int .i64 ((rd_T147 l0_0 x29_2).f1)] 147 (0,0))):=⟨by (with_reducible repeat (first | refine blk_drewN ?_ _ | refine blk_drew ?_ | refine blk_alloc ?_ _));refine blk_put (cs:=#[.int .i64 ((rd_T147 l0_0 x29_2).f0),.int .i64 0]) ?_ 1 _ rfl;(with_reducible repeat (first | refine blk_drewN ?_ _ | refine blk_drew ?_ | refine blk_alloc ?_ _));refine blk_put (cs:=#[.int .i64 0,.int .i64 0]) ?_ 0 _ rfl;(with_reducible repeat (first | refine blk_drewN ?_ _ | refine blk_drew ?_ | refine blk_alloc ?_ _));exact BK1693.out⟩;have n3_ : Aside0 (Below w.heap.size w ((w99.setCell ⟨gb1693,0,none⟩ (.int .i64 ((rd_T147 l0_0 x29_2).f0))).setCell ⟨gb1693,1,none⟩ (.int .i64 ((rd_T147 l0_0 x29_2).f1)))):=⟨hs2 HB GE1689 GE1693⟩
        (try clear HO_3)
        (try clear BK1689)
        (try clear BK1693)
        (try clear HB)
        generalize ((w99.setCell ⟨gb1693,0,none⟩ (.int .i64 ((rd_T147 l0_0 x29_2).f0))).setCell ⟨gb1693,1,none⟩ (.int .i64 ((rd_T147 l0_0 x29_2).f1))) = w102 at n0_ n1_ n2_ n3_ ⊢;have HO_3:=n0_;have BK1689:=n1_;have BK1693:=n2_;have HB:=n3_;clear n0_ n1_ n2_ n3_;have n0_:=Aside0.mk (Kd.R_drew HO_3.out);have n1_:=Aside0.mk (blk_drew BK1689.out);have n2_:=Aside0.mk (blk_drew BK1693.out);have n3_:=Aside0.mk (below_drew1 HB.out);clear HO_3;clear BK1689;clear BK1693;clear HB;have HO_3:=n0_;have BK1689:=n1_;have BK1693:=n2_;have HB:=n3_;clear n0_ n1_ n2_ n3_;refine start_ (n:=33) (S:=fun w'=>w'.cell? ⟨gb1693,0,none⟩ = some (.int .i64 ((rd_T147 l0_0 x29_2).f0)) ∧ w'.cell? ⟨gb1693,1,none⟩ = some (.int .i64 ((rd_T147 l0_0 x29_2).f1))) (ds:=[]) #[false,false,false,false,false,false,false,false,false,false,false,false,false,false,false,false,false,false,false,false,false,false,false,false,false,false,false,false,false,false,false,false,false] (by kernel_rfl) rfl rfl ⟨(blk_cell BK1693.out 0).trans rfl,(blk_cell BK1693.out 1).trans rfl⟩ (fun hHeld=>?_);refine with_tabW impl_StoreOk.tab7 impl_StoreOk.bits7 (fun HT_ HW_=>?_);generalize w102.drew = w103 at HO_3 BK1689 BK1693 HB hHeld ⊢;refine pure_ (i:=0) (N:=some 34) (v:=?_) (a':=?_) #[true,false,false,false,false,false,false,false,false,false,false,false,false,false,false,false,false,false,false,false,false,false,false,false,false,false,false,false,false,false,false,false,false] rfl rfl (any_of HT_.out (by kernel_rfl)) (fun _ _ _ h=>h) (Or.inl ⟨by rfl,?_⟩) ?_ ?_;rotate_left
        ·intro w';go_simp;with_reducible rfl
        rotate_left
        ·simp only [Act.put,List.setIfInBounds_toArray,List.set_cons_zero,List.set_cons_succ,i64_w,i32_w];rfl
        refine take_ (i:=1) (N:=some 35) (v:=?_) (a':=?_) #[true,true,false,false,false,false,false,false,false,false,false,false,false,false,false,false,false,false,false,false,false,false,false,false,false,false,false,false,false,false,false,false,false] rfl rfl (take_ofW HT_.out HW_.out (by kernel_rfl)) (fun _ _ _ h=>h) (Or.inl ⟨by rfl,?_⟩) hHeld ?_ ?_;rotate_left
        ·rintro w' ⟨s0,s1⟩;go_simp;with_reducible rfl
        rotate_left
        ·simp only [Act.put,List.setIfInBounds_toArray,List.set_cons_zero,List.set_cons_succ,i64_w,i32_w];rfl
        refine one_ (i:=2) (N:=some 36) #[true,true,true,false,false,false,false,false,false,false,false,false,false,false,false,false,false,false,false,false,false,false,false,false,false,false,false,false,false,false,false,false,false] rfl rfl (one_of HT_.out (by kernel_rfl)) (by decide) (fun K hK=>?_);refine goes_ Try.func84 (by kernel_rfl) rfl #[.int .i64 ((rd_T147 l0_0 x29_2).f0),.int .i64 1,.int .i64 9] (by rfl) rfl rfl (by (try simp only [List.map_toArray,List.map_cons,List.map_nil]);first | done | rfl | (simp only [List.length_drop,List.length_take];rfl)) ?_;with_reducible refine (impl_in.calls ((rd_T147 l0_0 x29_2).f0) 1 9 false _ A19.out).mono ?_
        rintro e w' ⟨rfl,⟨nd,rfl⟩⟩;refine ⟨_,rfl,?_⟩;refine hK.out _ _ ⟨(blk_cell BK1693.out 0).trans rfl,(blk_cell BK1693.out 1).trans rfl⟩ (fun hHeld=>?_);clear hK K;refine norm_ (a':=?_) ?_ ?_;rotate_left
        ·show Act.put _ (some 36) _ = _;simp only [Act.put,List.setIfInBounds_toArray,List.set_cons_zero,List.set_cons_succ,i64_w,i32_w];rfl
        refine pure_ (i:=3) (N:=some 37) (v:=?_) (a':=?_) #[true,true,true,true,false,false,false,false,false,false,false,false,false,false,false,false,false,false,false,false,false,false,false,false,false,false,false,false,false,false,false,false,false] rfl rfl (any_of HT_.out (by kernel_rfl)) (fun _ _ _ h=>h) (Or.inl ⟨by rfl,?_⟩) ?_ ?_;rotate_left
        ·intro w';go_simp;with_reducible rfl
        rotate_left
        ·simp only [Act.put,List.setIfInBounds_toArray,List.set_cons_zero,List.set_cons_succ,i64_w,i32_w];rfl
        refine pure_ (i:=4) (N:=some 38) (v:=?_) (a':=?_) #[true,true,true,true,true,false,false,false,false,false,false,false,false,false,false,false,false,false,false,false,false,false,false,false,false,false,false,false,false,false,false,false,false] rfl rfl (any_of HT_.out (by kernel_rfl)) (fun _ _ _ h=>h) (Or.inl ⟨by rfl,?_⟩) ?_ ?_;rotate_left
        ·intro w';go_simp;with_reducible rfl
        rotate_left
        ·simp only [Act.put,List.setIfInBounds_toArray,List.set_cons_zero,List.set_cons_succ,i64_w,i32_w];rfl
        refine pure_ (i:=5) (N:=some 39) (v:=undef) (a':=?_) #[true,true,true,true,true,true,false,false,false,false,false,false,false,false,false,false,false,false,false,false,false,false,false,false,false,false,false,false,false,false,false,false,false] rfl rfl (any_of HT_.out (by kernel_rfl)) (fun _ _ _ h=>h) (Or.inr ⟨by rfl,rfl⟩) ?_ ?_;rotate_left
        ·simp only [Act.put,List.setIfInBounds_toArray,List.set_cons_zero,List.set_cons_succ,i64_w,i32_w];rfl
        refine pure_ (i:=6) (N:=some 40) (v:=undef) (a':=?_) #[true,true,true,true,true,true,true,false,false,false,false,false,false,false,false,false,false,false,false,false,false,false,false,false,false,false,false,false,false,false,false,false,false] rfl rfl (any_of HT_.out (by kernel_rfl)) (fun _ _ _ h=>h) (Or.inr ⟨by rfl,rfl⟩) ?_ ?_;rotate_left
        ·simp only [Act.put,List.setIfInBounds_toArray,List.set_cons_zero,List.set_cons_succ,i64_w,i32_w];rfl
        refine pure_ (i:=7) (N:=some 41) (v:=undef) (a':=?_) #[true,true,true,true,true,true,true,true,false,false,false,false,false,false,false,false,false,false,false,false,false,false,false,false,false,false,false,false,false,false,false,false,false] rfl rfl (any_of HT_.out (by kernel_rfl)) (fun _ _ _ h=>h) (Or.inr ⟨by rfl,rfl⟩) ?_ ?_;rotate_left
        ·simp only [Act.put,List.setIfInBounds_toArray,List.set_cons_zero,List.set_cons_succ,i64_w,i32_w];rfl
        refine pure_ (i:=8) (N:=some 42) (v:=undef) (a':=?_) #[true,true,true,true,true,true,true,true,true,false,false,false,false,false,false,false,false,false,false,false,false,false,false,false,false,false,false,false,false,false,false,false,false] rfl rfl (any_of HT_.out (by kernel_rfl)) (fun _ _ _ h=>h) (Or.inr ⟨by rfl,rfl⟩) ?_ ?_;rotate_left
        ·simp only [Act.put,List.setIfInBounds_toArray,List.set_cons_zero,List.set_cons_succ,i64_w,i32_w];rfl
        refine pure_ (i:=9) (N:=some 43) (v:=undef) (a':=?_) #[true,true,true,true,true,true,true,true,true,true,false,false,false,false,false,false,false,false,false,false,false,false,false,false,false,false,false,false,false,false,false,false,false] rfl rfl (any_of HT_.out (by kernel_rfl)) (fun _ _ _ h=>h) (Or.inr ⟨by rfl,rfl⟩) ?_ ?_;rotate_left
        ·simp only [Act.put,List.setIfInBounds_toArray,List.set_cons_zero,List.set_cons_succ,i64_w,i32_w];rfl
        refine pure_ (i:=10) (N:=some 44) (v:=undef) (a':=?_) #[true,true,true,true,true,true,true,true,true,true,true,false,false,false,false,false,false,false,false,false,false,false,false,false,false,false,false,false,false,false,false,false,false] rfl rfl (any_of HT_.out (by kernel_rfl)) (fun _ _ _ h=>h) (Or.inr ⟨by rfl,rfl⟩) ?_ ?_;rotate_left
        ·simp only [Act.put,List.setIfInBounds_toArray,List.set_cons_zero,List.set_cons_succ,i64_w,i32_w];rfl
        refine pure_ (i:=11) (N:=some 45) (v:=undef) (a':=?_) #[true,true,true,true,true,true,true,true,true,true,true,true,false,false,false,false,false,false,false,false,false,false,false,false,false,false,false,false,false,false,false,false,false] rfl rfl (any_of HT_.out (by kernel_rfl)) (fun _ _ _ h=>h) (Or.inr ⟨by rfl,rfl⟩) ?_ ?_;rotate_left
        ·simp only [Act.put,List.setIfInBounds_toArray,List.set_cons_zero,List.set_cons_succ,i64_w,i32_w];rfl
        refine pure_ (i:=12) (N:=some 46) (v:=undef) (a':=?_) #[true,true,true,true,true,true,true,true,true,true,true,true,true,false,false,false,false,false,false,false,false,false,false,false,false,false,false,false,false,false,false,false,false] rfl rfl (any_of HT_.out (by kernel_rfl)) (fun _ _ _ h=>h) (Or.inr ⟨by rfl,rfl⟩) ?_ ?_;rotate_left
        ·simp only [Act.put,List.setIfInBounds_toArray,List.set_cons_zero,List.set_cons_succ,i64_w,i32_w];rfl
        refine pure_ (i:=13) (N:=some 47) (v:=undef) (a':=?_) #[true,true,true,true,true,true,true,true,true,true,true,true,true,true,false,false,false,false,false,false,false,false,false,false,false,false,false,false,false,false,false,false,false] rfl rfl (any_of HT_.out (by kernel_rfl)) (fun _ _ _ h=>h) (Or.inr ⟨by rfl,rfl⟩) ?_ ?_;rotate_left
        ·simp only [Act.put,List.setIfInBounds_toArray,List.set_cons_zero,List.set_cons_succ,i64_w,i32_w];rfl
        refine pure_ (i:=14) (N:=some 48) (v:=undef) (a':=?_) #[true,true,true,true,true,true,true,true,true,true,true,true,true,true,true,false,false,false,false,false,false,false,false,false,false,false,false,false,false,false,false,false,false] rfl rfl (any_of HT_.out (by kernel_rfl)) (fun _ _ _ h=>h) (Or.inr ⟨by rfl,rfl⟩) ?_ ?_;rotate_left
        ·simp only [Act.put,List.setIfInBounds_toArray,List.set_cons_zero,List.set_cons_succ,i64_w,i32_w];rfl
        refine pure_ (i:=15) (N:=some 49) (v:=undef) (a':=?_) #[true,true,true,true,true,true,true,true,true,true,true,true,true,true,true,true,false,false,false,false,false,false,false,false,false,false,false,false,false,false,false,false,false] rfl rfl (any_of HT_.out (by kernel_rfl)) (fun _ _ _ h=>h) (Or.inr ⟨by rfl,rfl⟩) ?_ ?_;rotate_left
        ·simp only [Act.put,List.setIfInBounds_toArray,List.set_cons_zero,List.set_cons_succ,i64_w,i32_w];rfl
        refine pure_ (i:=16) (N:=some 50) (v:=undef) (a':=?_) #[true,true,true,true,true,true,true,true,true,true,true,true,true,true,true,true,true,false,false,false,false,false,false,false,false,false,false,false,false,false,false,false,false] rfl rfl (any_of HT_.out (by kernel_rfl)) (fun _ _ _ h=>h) (Or.inr ⟨by rfl,rfl⟩) ?_ ?_;rotate_left
        ·simp only [Act.put,List.setIfInBounds_toArray,List.set_cons_zero,List.set_cons_succ,i64_w,i32_w];rfl
        refine pure_ (i:=17) (N:=some 51) (v:=undef) (a':=?_) #[true,true,true,true,true,true,true,true,true,true,true,true,true,true,true,true,true,true,false,false,false,false,false,false,false,false,false,false,false,false,false,false,false] rfl rfl (any_of HT_.out (by kernel_rfl)) (fun _ _ _ h=>h) (Or.inr ⟨by rfl,rfl⟩) ?_ ?_;rotate_left
        ·simp only [Act.put,List.setIfInBounds_toArray,List.set_cons_zero,List.set_cons_succ,i64_w,i32_w];rfl
        refine pure_ (i:=18) (N:=some 52) (v:=undef) (a':=?_) #[true,true,true,true,true,true,true,true,true,true,true,true,true,true,true,true,true,true,true,false,false,false,false,false,false,false,false,false,false,false,false,false,false] rfl rfl (any_of HT_.out (by kernel_rfl)) (fun _ _ _ h=>h) (Or.inr ⟨by rfl,rfl⟩) ?_ ?_;rotate_left
        ·simp only [Act.put,List.setIfInBounds_toArray,List.set_cons_zero,List.set_cons_succ,i64_w,i32_w];rfl
        refine pure_ (i:=19) (N:=some 53) (v:=?_) (a':=?_) #[true,true,true,true,true,true,true,true,true,true,true,true,true,true,true,true,true,true,true,true,false,false,false,false,false,false,false,false,false,false,false,false,false] rfl rfl (any_of HT_.out (by kernel_rfl)) (fun _ _ _ h=>h) (Or.inl ⟨by rfl,?_⟩) ?_ ?_;rotate_left
        ·intro w';go_simp;with_reducible rfl
        rotate_left
        ·simp only [Act.put,List.setIfInBounds_toArray,List.set_cons_zero,List.set_cons_succ,i64_w,i32_w];rfl
        refine pure_ (i:=20) (N:=some 54) (v:=?_) (a':=?_) #[true,true,true,true,true,true,true,true,true,true,true,true,true,true,true,true,true,true,true,true,true,false,false,false,false,false,false,false,false,false,false,false,false] rfl rfl (any_of HT_.out (by kernel_rfl)) (fun _ _ _ h=>h) (Or.inl ⟨by rfl,?_⟩) ?_ ?_;rotate_left
        ·intro w';go_simp;with_reducible rfl
        rotate_left
        ·simp only [Act.put,List.setIfInBounds_toArray,List.set_cons_zero,List.set_cons_succ,i64_w,i32_w];rfl
        refine pure_ (i:=21) (N:=some 55) (v:=undef) (a':=?_) #[true,true,true,true,true,true,true,true,true,true,true,true,true,true,true,true,true,true,true,true,true,true,false,false,false,false,false,false,false,false,false,false,false] rfl rfl (any_of HT_.out (by kernel_rfl)) (fun _ _ _ h=>h) (Or.inr ⟨by rfl,rfl⟩) ?_ ?_;rotate_left
        ·simp only [Act.put,List.setIfInBounds_toArray,List.set_cons_zero,List.set_cons_succ,i64_w,i32_w];rfl
        refine pure_ (i:=22) (N:=some 56) (v:=undef) (a':=?_) #[true,true,true,true,true,true,true,true,true,true,true,true,true,true,true,true,true,true,true,true,true,true,true,false,false,false,false,false,false,false,false,false,false] rfl rfl (any_of HT_.out (by kernel_rfl)) (fun _ _ _ h=>h) (Or.inr ⟨by rfl,rfl⟩) ?_ ?_;rotate_left
        ·simp only [Act.put,List.setIfInBounds_toArray,List.set_cons_zero,List.set_cons_succ,i64_w,i32_w];rfl
        refine pure_ (i:=23) (N:=some 57) (v:=undef) (a':=?_) #[true,true,true,true,true,true,true,true,true,true,true,true,true,true,true,true,true,true,true,true,true,true,true,true,false,false,false,false,false,false,false,false,false] rfl rfl (any_of HT_.out (by kernel_rfl)) (fun _ _ _ h=>h) (Or.inr ⟨by rfl,rfl⟩) ?_ ?_;rotate_left
        ·simp only [Act.put,List.setIfInBounds_toArray,List.set_cons_zero,List.set_cons_succ,i64_w,i32_w];rfl
        refine pure_ (i:=24) (N:=some 58) (v:=undef) (a':=?_) #[true,true,true,true,true,true,true,true,true,true,true,true,true,true,true,true,true,true,true,true,true,true,true,true,true,false,false,false,false,false,false,false,false] rfl rfl (any_of HT_.out (by kernel_rfl)) (fun _ _ _ h=>h) (Or.inr ⟨by rfl,rfl⟩) ?_ ?_;rotate_left
        ·simp only [Act.put,List.setIfInBounds_toArray,List.set_cons_zero,List.set_cons_succ,i64_w,i32_w];rfl
        refine pure_ (i:=25) (N:=some 59) (v:=undef) (a':=?_) #[true,true,true,true,true,true,true,true,true,true,true,true,true,true,true,true,true,true,true,true,true,true,true,true,true,true,false,false,false,false,false,false,false] rfl rfl (any_of HT_.out (by kernel_rfl)) (fun _ _ _ h=>h) (Or.inr ⟨by rfl,rfl⟩) ?_ ?_;rotate_left
        ·simp only [Act.put,List.setIfInBounds_toArray,List.set_cons_zero,List.set_cons_succ,i64_w,i32_w];rfl
        refine pure_ (i:=26) (N:=some 60) (v:=undef) (a':=?_) #[true,true,true,true,true,true,true,true,true,true,true,true,true,true,true,true,true,true,true,true,true,true,true,true,true,true,true,false,false,false,false,false,false] rfl rfl (any_of HT_.out (by kernel_rfl)) (fun _ _ _ h=>h) (Or.inr ⟨by rfl,rfl⟩) ?_ ?_;rotate_left
        ·simp only [Act.put,List.setIfInBounds_toArray,List.set_cons_zero,List.set_cons_succ,i64_w,i32_w];rfl
        refine pure_ (i:=27) (N:=some 61) (v:=undef) (a':=?_) #[true,true,true,true,true,true,true,true,true,true,true,true,true,true,true,true,true,true,true,true,true,true,true,true,true,true,true,true,false,false,false,false,false] rfl rfl (any_of HT_.out (by kernel_rfl)) (fun _ _ _ h=>h) (Or.inr ⟨by rfl,rfl⟩) ?_ ?_;rotate_left
        ·simp only [Act.put,List.setIfInBounds_toArray,List.set_cons_zero,List.set_cons_succ,i64_w,i32_w];rfl
        refine pure_ (i:=28) (N:=some 62) (v:=undef) (a':=?_) #[true,true,true,true,true,true,true,true,true,true,true,true,true,true,true,true,true,true,true,true,true,true,true,true,true,true,true,true,true,false,false,false,false] rfl rfl (any_of HT_.out (by kernel_rfl)) (fun _ _ _ h=>h) (Or.inr ⟨by rfl,rfl⟩) ?_ ?_;rotate_left
        ·simp only [Act.put,List.setIfInBounds_toArray,List.set_cons_zero,List.set_cons_succ,i64_w,i32_w];rfl
        refine pure_ (i:=29) (N:=some 63) (v:=undef) (a':=?_) #[true,true,true,true,true,true,true,true,true,true,true,true,true,true,true,true,true,true,true,true,true,true,true,true,true,true,true,true,true,true,false,false,false] rfl rfl (any_of HT_.out (by kernel_rfl)) (fun _ _ _ h=>h) (Or.inr ⟨by rfl,rfl⟩) ?_ ?_;rotate_left
        ·simp only [Act.put,List.setIfInBounds_toArray,List.set_cons_zero,List.set_cons_succ,i64_w,i32_w];rfl
        refine pure_ (i:=30) (N:=some 64) (v:=undef) (a':=?_) #[true,true,true,true,true,true,true,true,true,true,true,true,true,true,true,true,true,true,true,true,true,true,true,true,true,true,true,true,true,true,true,false,false] rfl rfl (any_of HT_.out (by kernel_rfl)) (fun _ _ _ h=>h) (Or.inr ⟨by rfl,rfl⟩) ?_ ?_;rotate_left
        ·simp only [Act.put,List.setIfInBounds_toArray,List.set_cons_zero,List.set_cons_succ,i64_w,i32_w];rfl
        refine pure_ (i:=31) (N:=some 65) (v:=undef) (a':=?_) #[true,true,true,true,true,true,true,true,true,true,true,true,true,true,true,true,true,true,true,true,true,true,true,true,true,true,true,true,true,true,true,true,false] rfl rfl (any_of HT_.out (by kernel_rfl)) (fun _ _ _ h=>h) (Or.inr ⟨by rfl,rfl⟩) ?_ ?_;rotate_left
        ·simp only [Act.put,List.setIfInBounds_toArray,List.set_cons_zero,List.set_cons_succ,i64_w,i32_w];rfl
        refine pure_ (i:=32) (N:=some 66) (v:=?_) (a':=?_) #[true,true,true,true,true,true,true,true,true,true,true,true,true,true,true,true,true,true,true,true,true,true,true,true,true,true,true,true,true,true,true,true,true] rfl rfl (any_of HT_.out (by kernel_rfl)) (fun _ _ _ h=>h) (Or.inl ⟨by rfl,?_⟩) ?_ ?_;rotate_left
        ·intro w';go_simp;with_reducible rfl
        rotate_left
        ·simp only [Act.put,List.setIfInBounds_toArray,List.set_cons_zero,List.set_cons_succ,i64_w,i32_w];rfl
        refine done_ (done_of HT_.out (by kernel_rfl)) ?_
        try go_wp2
        go_ret
        exact ⟨by first | rfl | (simp [errW_none,errW_some] <;> rfl) | (simp [*,errW_none,errW_some] <;> rfl),hs2 HB GE1689 GE1693⟩
       rw [if_neg c18] at H;exact absurd H (by simp)
      rw [if_neg c17] at H;exact absurd H (by simp)
     rw [if_neg c16] at H;have c16b0 : decide (x29_2 < (l0_0.length : Int)) = false:=decide_eq_false c16;clear c16;have H':=Aside0.mk H;clear H;have hcz104_0 : wr.cell? ⟨gb1689,0,none⟩ = some (.slice A0_0 l0_0.length c0_0):=(blk_cell BK1689.out 0).trans rfl;have hcz104_1 : wr.cell? ⟨gb1689,1,none⟩ = some (.slice A0_1 l0_1.length c0_1):=(blk_cell BK1689.out 1).trans rfl;have hcz104_2 : wr.cell? ⟨gb1689,2,none⟩ = some (.int .i64 a0_2):=(blk_cell BK1689.out 2).trans rfl;have hfz104_0:=blk_frozen BK1689.out 0;have hfz104_1:=blk_frozen BK1689.out 1;have hfz104_2:=blk_frozen BK1689.out 2
     go_wp2
     go_loopg [79] k2 (fun kq v79 w'=>∃ (x79_3 : Int),v79 = .int .i64 x79_3 ∧ Aside0 (impl_StoreOk.l1 kq x3_2 l0_1 (l0_1.length : Int) x79_3 l0_0 l0_1 a0_2 = some r) ∧ Aside0 (kq ≤ k2) ∧ Aside0 (Kd.R (Kd.int .i64) 3 w' w.heap.size (fun _=>True) u3 x3_2) ∧ Aside0 (w'.heap[gb1689]? = some (.cells #[(.slice A0_0 l0_0.length c0_0),(.slice A0_1 l0_1.length c0_1),.int .i64 a0_2] 83 (0,0))) ∧ Aside0 (Below w.heap.size w w'));case atStart=>exact ⟨(0),(by first | rfl | (simp;done) | (simp [*];done)),H',⟨Nat.le_refl _⟩,⟨rs HO_3⟩,⟨bs BK1689⟩,⟨hs1 HB GE1689⟩⟩
     case round =>
      clear H'
      try clear c1
      try clear p1
      try clear q1
      try clear hx1
      try clear c2
      try clear p2
      try clear p6
      try clear c7
      try clear c8
      try clear c9
      try clear c10
      try clear c16
      try clear c16b0
      try clear p16
      try clear q16
      try clear hx16
      try clear c17
      try clear c18
      try clear c20
      try clear p64
      try clear c79
      try clear c81
      try clear c84
      try clear c92
      try clear c94
      try clear c100
      try clear hcz101_0
      try clear hcz101_1
      try clear hcz104_0
      try clear hcz104_1
      try clear hcz104_2
      try clear hcz88_0
      try clear hcz88_1
      try clear hcz88_2
      try clear hcz89_0
      try clear hcz89_1
      try clear hcz95_0
      try clear hcz95_1
      try clear hfz101_0
      try clear hfz101_1
      try clear hfz104_0
      try clear hfz104_1
      try clear hfz104_2
      try clear hfz88_0
      try clear hfz88_1
      try clear hfz88_2
      try clear hfz89_0
      try clear hfz89_1
      try clear hfz95_0
      try clear hfz95_1
      try clear hx1692_0
      try clear hx1692_1
      try clear p1692
      try clear q1692
      obtain ⟨x79_3,rfl,HA,HK3,HO_3,BK1689,HB⟩:=hrel;cases gk with
      | zero=>exact absurd HA.out (by simp [impl_StoreOk.l1])
      | succ k3 =>
       have H:=HA.out;clear HA;simp only [impl_StoreOk.l1] at H
       by_cases c105 : x79_3 < (l0_1.length : Int)
       ·rw [if_pos c105] at H;have c105b0 : decide (x79_3 < (l0_1.length : Int)) = true:=decide_eq_true c105;clear c105
        by_cases c106 : 0 ≤ x79_3
        ·rw [if_pos c106] at H;have c106b0 : decide (0 ≤ x79_3) = true:=decide_eq_true c106;clear c106
         by_cases c107 : x79_3 < (l0_1.length : Int)
         ·rw [if_pos c107] at H;have c107b0 : decide (x79_3 < (l0_1.length : Int)) = true:=decide_eq_true c107;clear c107;replace H:=Option.bind_eq_some_iff.mp H;obtain ⟨t1724,A1080,H⟩:=H;replace H : (if t1724 = true then (impl_StoreOk.l2 k3 x3_2 l0_1 (l0_1.length : Int) x79_3 ((rd_T133 l0_1 x79_3).f1) (((rd_T133 l0_1 x79_3).f1).length : Int) 0 l0_0 l0_1 a0_2 ((rd_T133 l0_1 x79_3).f0) ((rd_T133 l0_1 x79_3).f1)) else (some false)) = some r:=H;have A108:=Aside0.mk A1080;clear A1080
          by_cases c109 : t1724 = true
          ·subst c109;have H1 : (impl_StoreOk.l2 k3 x3_2 l0_1 (l0_1.length : Int) x79_3 ((rd_T133 l0_1 x79_3).f1) (((rd_T133 l0_1 x79_3).f1).length : Int) 0 l0_0 l0_1 a0_2 ((rd_T133 l0_1 x79_3).f0) ((rd_T133 l0_1 x79_3).f1)) = some r:=by rw [if_pos rfl] at H;exact H
           clear H;have H:=H1;clear H1;have H':=Aside0.mk H;clear H;have p1722 : 0 ≤ (x79_3 : Int):=of_decide_eq_true (by first | (with_reducible assumption) | assumption);have q1722 : x79_3 < (l0_1.length : Int):=of_decide_eq_true (by first | (with_reducible assumption) | assumption);obtain ⟨ad1722,A1722_1,c1722_1,e1722,hx1722_0,hx1722_1,hl1722_1,hi1722_1⟩:=at_T133 HR0_1.out x79_3 p1722 q1722;cases e1722;replace hx1722_0:=(HB.out.cell (World.block_lt_of_cell? w _ hx1722_0)).trans hx1722_0;replace hx1722_1:=(HB.out.cell (World.block_lt_of_cell? w _ hx1722_1)).trans hx1722_1;have HR1722_1:=Aside0.mk hi1722_1;have HC1722_1:=Aside0.mk hl1722_1;clear hi1722_1 hl1722_1;replace p1722:=eq_true p1722;replace q1722:=eq_true q1722;go_wp2_with (first | ((with_reducible refine gate_dst (N:=7) rfl ?_);refine box_event ?hg (N:=7) ?hd (cs:=#[.bool false,.slice none 0 0]) (t:=133) ?hr ?_;(case hd=>rfl);(case hg=>rfl);(case hr=>first | (go_simp;done) | (go_simp;rfl));intro gb1723 hg w110 hbox hb;have n0_:=Aside0.mk (Kd.R_below (rs HO_3) hb);have n1_:=Aside0.mk (blk_below (g:=gb1689) (o:=.cells #[.slice A0_0 l0_0.length c0_0,.slice (some ad1722) l0_1.length c0_1,.int .i64 a0_2] 83 (0,0)) (bs BK1689) hb);have n2_:=Aside0.mk (below_step (hs1 HB GE1689) hb);have n3_:=Aside0.mk (hbox);have n4_:=Aside0.mk ((by rw [hg];exact (below_size (hs1 HB GE1689)) : w.heap.size ≤ gb1723));have n5_:=Aside0.mk ((by rw [hg];exact (below_size (hs1 HB GE1689)) : w.heap.size ≤ gb1723));have n6_:=Aside0.mk ((by rw [hg];exact Nat.ne_of_lt (blk_lt (g:=gb1689) (o:=.cells #[.slice A0_0 l0_0.length c0_0,.slice (some ad1722) l0_1.length c0_1,.int .i64 a0_2] 83 (0,0)) (bs BK1689)) : gb1689 ≠ gb1723));have n7_:=Aside0.mk ((by rw [hg];exact Nat.ne_of_gt (blk_lt (g:=gb1689) (o:=.cells #[.slice A0_0 l0_0.length c0_0,.slice (some ad1722) l0_1.length c0_1,.int .i64 a0_2] 83 (0,0)) (bs BK1689)) : gb1723 ≠ gb1689));clear HO_3;clear BK1689;clear HB;have HO_3:=n0_;have BK1689:=n1_;have HB:=n2_;have BK1723:=n3_;have GW1723:=n4_;have GE1723:=n5_;have NB1689_1723:=n6_;have NB1723_1689:=n7_;clear n0_ n1_ n2_ n3_ n4_ n5_ n6_ n7_;clear hb hbox hg;have hnb111:=NB1723_1689.out;have hnc111:=NB1689_1723.out;have hcz112_0 : w110.cell? ⟨gb1723,0,none⟩ = some (.bool false):=(blk_cell BK1723.out 0).trans rfl;have hcz112_1 : w110.cell? ⟨gb1723,1,none⟩ = some (.slice none 0 0):=(blk_cell BK1723.out 1).trans rfl;have hfz112_0:=blk_frozen BK1723.out 0;have hfz112_1:=blk_frozen BK1723.out 1;obtain ⟨Ao113,co113,eo113⟩:=Kd.R_slice HO_3.out;subst eo113) | ((with_reducible refine gate_callee (f:=87) rfl ?_);refine goesL_ (some 86) rfl rfl Try.func87 (by kernel_rfl) rfl #[.slice Ao113 x3_2.length co113,.int .i64 x79_3] rfl (by (try simp only [List.map_toArray,List.map_cons,List.map_nil]);first | done | rfl | (simp only [List.length_drop,List.length_take];rfl)) ?_;(with_reducible refine (impl_hasInt.calls k3 _ _ x3_2 x79_3 true _ ?side1 ?side2 A108.out).mono ?_);(case side1=>refine (Kd.R_reads' (e:=3) (base:=w.heap.size) (ok:=fun k_=>True) (n:=x3_2.length) (c:=co113) ?_).2.2;exact (by (with_reducible repeat (first | apply Kd.R_alloc | apply Kd.R_drewN | apply Kd.R_drew));exact (Kd.R_mono (Kd.R_far (p:=⟨gb1723,1,none⟩) (Kd.R_far (p:=⟨gb1723,0,none⟩) (Kd.R_types HO_3.out BK1723.out (by decide)) (fun _ hk=>hk.2) (.bool ((rd_T133 l0_1 x79_3).f0))) (fun _ hk=>hk.2) (.slice A1722_1 ((rd_T133 l0_1 x79_3).f1).length c1722_1)) (fun _ h_=>h_.1))));(case side2=>exact (Kd.R_reads' HO_3.out).2.1);rintro e w' ⟨rfl,⟨nd,rfl⟩⟩;refine ⟨_,rfl,?_⟩))
           (try generalize (Value.agg #[.bool ((rd_T133 l0_1 x79_3).f0),.slice A1722_1 ((rd_T133 l0_1 x79_3).f1).length c1722_1]) = gd83)
           go_loopg [91] k3 (fun kq v91 w'=>∃ (x91_4 : Int),v91 = .int .i64 x91_4 ∧ Aside0 (impl_StoreOk.l2 kq x3_2 l0_1 (l0_1.length : Int) x79_3 ((rd_T133 l0_1 x79_3).f1) (((rd_T133 l0_1 x79_3).f1).length : Int) x91_4 l0_0 l0_1 a0_2 ((rd_T133 l0_1 x79_3).f0) ((rd_T133 l0_1 x79_3).f1) = some r) ∧ Aside0 (kq ≤ k3) ∧ Aside0 (Kd.R (Kd.int .i64) 3 w' w.heap.size (fun _=>True) (.slice Ao113 x3_2.length co113) x3_2) ∧ Aside0 (w'.heap[gb1689]? = some (.cells #[(.slice A0_0 l0_0.length c0_0),(.slice (some ad1722) l0_1.length c0_1),.int .i64 a0_2] 83 (0,0))) ∧ Aside0 (w'.heap[gb1723]? = some (.cells #[.bool ((rd_T133 l0_1 x79_3).f0),(.slice A1722_1 ((rd_T133 l0_1 x79_3).f1).length c1722_1)] 133 (0,0))) ∧ Aside0 (Below w.heap.size w w'));case atStart=>exact ⟨(0),(by first | rfl | (simp;done) | (simp [*];done)),H',⟨Nat.le_refl _⟩,⟨by (with_reducible repeat (first | apply Kd.R_alloc | apply Kd.R_drewN | apply Kd.R_drew));exact Kd.R_mono (Kd.R_far (p:=⟨gb1723,1,none⟩) (Kd.R_far (p:=⟨gb1723,0,none⟩) (Kd.R_types HO_3.out BK1723.out (by decide)) (fun _ hk=>hk.2) (.bool ((rd_T133 l0_1 x79_3).f0))) (fun _ hk=>hk.2) (.slice A1722_1 ((rd_T133 l0_1 x79_3).f1).length c1722_1)) (fun _ hk=>trivial)⟩,⟨by (with_reducible repeat (first | refine blk_drewN ?_ _ | refine blk_drew ?_ | refine blk_alloc ?_ _));refine blk_far ?_ NB1689_1723.out _;(with_reducible repeat (first | refine blk_drewN ?_ _ | refine blk_drew ?_ | refine blk_alloc ?_ _));refine blk_far ?_ NB1689_1723.out _;(with_reducible repeat (first | refine blk_drewN ?_ _ | refine blk_drew ?_ | refine blk_alloc ?_ _));exact BK1689.out⟩,⟨by (with_reducible repeat (first | refine blk_drewN ?_ _ | refine blk_drew ?_ | refine blk_alloc ?_ _));refine blk_put (cs:=#[.bool ((rd_T133 l0_1 x79_3).f0),.slice none 0 0]) ?_ 1 _ rfl;(with_reducible repeat (first | refine blk_drewN ?_ _ | refine blk_drew ?_ | refine blk_alloc ?_ _));refine blk_put (cs:=#[.bool false,.slice none 0 0]) ?_ 0 _ rfl;(with_reducible repeat (first | refine blk_drewN ?_ _ | refine blk_drew ?_ | refine blk_alloc ?_ _));exact BK1723.out⟩,⟨hs2 HB GE1689 GE1723⟩⟩
           case round =>
            clear H'
            try clear c1
            try clear p1
            try clear q1
            try clear hx1
            try clear c2
            try clear p2
            try clear p6
            try clear c7
            try clear c8
            try clear c9
            try clear c10
            try clear c11
            try clear c16
            try clear c16b0
            try clear p16
            try clear q16
            try clear hx16
            try clear c17
            try clear p17
            try clear q17
            try clear hx17
            try clear c18
            try clear c20
            try clear p64
            try clear c79
            try clear c81
            try clear c84
            try clear c87
            try clear c92
            try clear c94
            try clear c100
            try clear c105
            try clear c105b0
            try clear c106
            try clear c106b0
            try clear c107
            try clear c107b0
            try clear c109
            try clear c111
            try clear hcz101_0
            try clear hcz101_1
            try clear hcz104_0
            try clear hcz104_1
            try clear hcz104_2
            try clear hcz112_0
            try clear hcz112_1
            try clear hcz88_0
            try clear hcz88_1
            try clear hcz88_2
            try clear hcz89_0
            try clear hcz89_1
            try clear hcz95_0
            try clear hcz95_1
            try clear hfz101_0
            try clear hfz101_1
            try clear hfz104_0
            try clear hfz104_1
            try clear hfz104_2
            try clear hfz112_0
            try clear hfz112_1
            try clear hfz88_0
            try clear hfz88_1
            try clear hfz88_2
            try clear hfz89_0
            try clear hfz89_1
            try clear hfz95_0
            try clear hfz95_1
            try clear hx1692_0
            try clear hx1692_1
            try clear hx1722_0
            try clear hx1722_1
            try clear p1
            try clear p16
            try clear p1692
            try clear p1722
            try clear p2
            try clear p6
            try clear p64
            try clear q1
            try clear q16
            try clear q1692
            try clear q1722
            obtain ⟨x91_4,rfl,HA,HK4,HO_3,BK1689,BK1723,HB⟩:=hrel;cases gk with
            | zero=>exact absurd HA.out (by simp [impl_StoreOk.l2])
            | succ k4 =>
             have H:=HA.out;clear HA;simp only [impl_StoreOk.l2] at H
             by_cases c114 : x91_4 < (((rd_T133 l0_1 x79_3).f1).length : Int)
             ·rw [if_pos c114] at H;have c114b0 : decide (x91_4 < (((rd_T133 l0_1 x79_3).f1).length : Int)) = true:=decide_eq_true c114;clear c114
              by_cases c115 : 0 ≤ x91_4
              ·rw [if_pos c115] at H;have c115b0 : decide (0 ≤ x91_4) = true:=decide_eq_true c115;clear c115
               by_cases c116 : x91_4 < (((rd_T133 l0_1 x79_3).f1).length : Int)
               ·rw [if_pos c116] at H;have c116b0 : decide (x91_4 < (((rd_T133 l0_1 x79_3).f1).length : Int)) = true:=decide_eq_true c116;clear c116
                by_cases c117 : ((rd_T133 l0_1 x79_3).f0) = true
                ·rw [if_pos c117] at H;have c117b0 : ((rd_T133 l0_1 x79_3).f0) = true:=c117;clear c117
                 by_cases c118 : (rd ((rd_T133 l0_1 x79_3).f1) x91_4) ≥ a0_2
                 ·rw [if_pos c118] at H;have c118b0 : decide (a0_2 ≤ (rd ((rd_T133 l0_1 x79_3).f1) x91_4)) = true:=decide_eq_true c118;clear c118;obtain rfl:=Option.some.inj H;have p1725 : 0 ≤ (x91_4 : Int):=of_decide_eq_true (by first | (with_reducible assumption) | assumption);have q1725 : x91_4 < (((rd_T133 l0_1 x79_3).f1).length : Int):=of_decide_eq_true (by first | (with_reducible assumption) | assumption);obtain ⟨ad1725,e1725,hx1725_0⟩:=Kd.at_int HR1722_1.out x91_4 p1725 q1725;cases e1725;replace hx1725_0:=(HB.out.cell (World.block_lt_of_cell? w _ hx1725_0)).trans hx1725_0;replace p1725:=eq_true p1725;replace q1725:=eq_true q1725;have hnb119:=NB1723_1689.out;have hnc119:=NB1689_1723.out;have hcz120_0 : wr.cell? ⟨gb1723,0,none⟩ = some (.bool ((rd_T133 l0_1 x79_3).f0)):=(blk_cell BK1723.out 0).trans rfl;have hcz120_1 : wr.cell? ⟨gb1723,1,none⟩ = some (.slice (some ad1725) ((rd_T133 l0_1 x79_3).f1).length c1722_1):=(blk_cell BK1723.out 1).trans rfl;have hfz120_0:=blk_frozen BK1723.out 0;have hfz120_1:=blk_frozen BK1723.out 1;have hcz121_0 : wr.cell? ⟨gb1689,0,none⟩ = some (.slice A0_0 l0_0.length c0_0):=(blk_cell BK1689.out 0).trans rfl;have hcz121_1 : wr.cell? ⟨gb1689,1,none⟩ = some (.slice (some ad1722) l0_1.length c0_1):=(blk_cell BK1689.out 1).trans rfl;have hcz121_2 : wr.cell? ⟨gb1689,2,none⟩ = some (.int .i64 a0_2):=(blk_cell BK1689.out 2).trans rfl;have hfz121_0:=blk_frozen BK1689.out 0;have hfz121_1:=blk_frozen BK1689.out 1;have hfz121_2:=blk_frozen BK1689.out 2
                  go_wp2
                  go_ret
                  exact ⟨by first | rfl | (simp [errW_none,errW_some] <;> rfl) | (simp [*,errW_none,errW_some] <;> rfl),hs2 HB GE1689 GE1723⟩
                 rw [if_neg c118] at H;have c118b0 : decide (a0_2 ≤ (rd ((rd_T133 l0_1 x79_3).f1) x91_4)) = false:=decide_eq_false c118;clear c118;have H':=Aside0.mk H;clear H;have p1725 : 0 ≤ (x91_4 : Int):=of_decide_eq_true (by first | (with_reducible assumption) | assumption);have q1725 : x91_4 < (((rd_T133 l0_1 x79_3).f1).length : Int):=of_decide_eq_true (by first | (with_reducible assumption) | assumption);obtain ⟨ad1725,e1725,hx1725_0⟩:=Kd.at_int HR1722_1.out x91_4 p1725 q1725;cases e1725;replace hx1725_0:=(HB.out.cell (World.block_lt_of_cell? w _ hx1725_0)).trans hx1725_0;replace p1725:=eq_true p1725;replace q1725:=eq_true q1725;have hnb122:=NB1723_1689.out;have hnc122:=NB1689_1723.out;have hcz123_0 : wr.cell? ⟨gb1723,0,none⟩ = some (.bool ((rd_T133 l0_1 x79_3).f0)):=(blk_cell BK1723.out 0).trans rfl;have hcz123_1 : wr.cell? ⟨gb1723,1,none⟩ = some (.slice (some ad1725) ((rd_T133 l0_1 x79_3).f1).length c1722_1):=(blk_cell BK1723.out 1).trans rfl;have hfz123_0:=blk_frozen BK1723.out 0;have hfz123_1:=blk_frozen BK1723.out 1;have hcz124_0 : wr.cell? ⟨gb1689,0,none⟩ = some (.slice A0_0 l0_0.length c0_0):=(blk_cell BK1689.out 0).trans rfl;have hcz124_1 : wr.cell? ⟨gb1689,1,none⟩ = some (.slice (some ad1722) l0_1.length c0_1):=(blk_cell BK1689.out 1).trans rfl;have hcz124_2 : wr.cell? ⟨gb1689,2,none⟩ = some (.int .i64 a0_2):=(blk_cell BK1689.out 2).trans rfl;have hfz124_0:=blk_frozen BK1689.out 0;have hfz124_1:=blk_frozen BK1689.out 1;have hfz124_2:=blk_frozen BK1689.out 2
                 go_wp2
                 go_roundg k4;case measure=>have:=HJ1.out;have:=HK2.out;have:=HK3.out;have:=HK4.out;omega
                 case rel=>exact ⟨(wrap64 (x91_4 + 1)),(by first | rfl | (simp;done) | (simp [*];done)),H',⟨by have:=HJ1.out;have:=HK2.out;have:=HK3.out;have:=HK4.out;omega⟩,⟨rs HO_3⟩,⟨bs BK1689⟩,⟨bs BK1723⟩,⟨hs2 HB GE1689 GE1723⟩⟩
                rw [if_neg c117] at H;have c117b0 : ((rd_T133 l0_1 x79_3).f0) = false:=by simpa using c117
                clear c117;have H':=Aside0.mk H;clear H;have p1725 : 0 ≤ (x91_4 : Int):=of_decide_eq_true (by first | (with_reducible assumption) | assumption);have q1725 : x91_4 < (((rd_T133 l0_1 x79_3).f1).length : Int):=of_decide_eq_true (by first | (with_reducible assumption) | assumption);obtain ⟨ad1725,e1725,hx1725_0⟩:=Kd.at_int HR1722_1.out x91_4 p1725 q1725;cases e1725;replace hx1725_0:=(HB.out.cell (World.block_lt_of_cell? w _ hx1725_0)).trans hx1725_0;replace p1725:=eq_true p1725;replace q1725:=eq_true q1725;have hnb125:=NB1723_1689.out;have hnc125:=NB1689_1723.out;have hcz126_0 : wr.cell? ⟨gb1723,0,none⟩ = some (.bool ((rd_T133 l0_1 x79_3).f0)):=(blk_cell BK1723.out 0).trans rfl;have hcz126_1 : wr.cell? ⟨gb1723,1,none⟩ = some (.slice (some ad1725) ((rd_T133 l0_1 x79_3).f1).length c1722_1):=(blk_cell BK1723.out 1).trans rfl;have hfz126_0:=blk_frozen BK1723.out 0;have hfz126_1:=blk_frozen BK1723.out 1
                go_wp2
                go_roundg k4;case measure=>have:=HJ1.out;have:=HK2.out;have:=HK3.out;have:=HK4.out;omega
                case rel=>exact ⟨(wrap64 (x91_4 + 1)),(by first | rfl | (simp;done) | (simp [*];done)),H',⟨by have:=HJ1.out;have:=HK2.out;have:=HK3.out;have:=HK4.out;omega⟩,⟨rs HO_3⟩,⟨bs BK1689⟩,⟨bs BK1723⟩,⟨hs2 HB GE1689 GE1723⟩⟩
               rw [if_neg c116] at H;exact absurd H (by simp)
              rw [if_neg c115] at H;exact absurd H (by simp)
             rw [if_neg c114] at H;have c114b0 : decide (x91_4 < (((rd_T133 l0_1 x79_3).f1).length : Int)) = false:=decide_eq_false c114;clear c114;have H':=Aside0.mk H;clear H
             go_wp2
             go_roundg k4;case measure=>have:=HJ1.out;have:=HK2.out;have:=HK3.out;have:=HK4.out;omega
             case rel=>exact ⟨(wrap64 (x79_3 + 1)),(by first | rfl | (simp;done) | (simp [*];done)),H',⟨by have:=HJ1.out;have:=HK2.out;have:=HK3.out;have:=HK4.out;omega⟩,⟨rs HO_3⟩,⟨bs BK1689⟩,⟨hs2 HB GE1689 GE1723⟩⟩
          replace c109:=Bool.eq_false_iff.mpr c109;subst c109;have H1 : (some false) = some r:=by rw [if_neg (show ¬ (false = true) by decide)] at H;exact H
          clear H;have H:=H1;clear H1;obtain rfl:=Option.some.inj H;have p1722 : 0 ≤ (x79_3 : Int):=of_decide_eq_true (by first | (with_reducible assumption) | assumption);have q1722 : x79_3 < (l0_1.length : Int):=of_decide_eq_true (by first | (with_reducible assumption) | assumption);obtain ⟨ad1722,A1722_1,c1722_1,e1722,hx1722_0,hx1722_1,hl1722_1,hi1722_1⟩:=at_T133 HR0_1.out x79_3 p1722 q1722;cases e1722;replace hx1722_0:=(HB.out.cell (World.block_lt_of_cell? w _ hx1722_0)).trans hx1722_0;replace hx1722_1:=(HB.out.cell (World.block_lt_of_cell? w _ hx1722_1)).trans hx1722_1;have HR1722_1:=Aside0.mk hi1722_1;have HC1722_1:=Aside0.mk hl1722_1;clear hi1722_1 hl1722_1;replace p1722:=eq_true p1722;replace q1722:=eq_true q1722;go_wp2_with (first | ((with_reducible refine gate_dst (N:=7) rfl ?_);refine box_event ?hg (N:=7) ?hd (cs:=#[.bool false,.slice none 0 0]) (t:=133) ?hr ?_;(case hd=>rfl);(case hg=>rfl);(case hr=>first | (go_simp;done) | (go_simp;rfl));intro gb1723 hg w127 hbox hb;have n0_:=Aside0.mk (Kd.R_below (rs HO_3) hb);have n1_:=Aside0.mk (blk_below (g:=gb1689) (o:=.cells #[.slice A0_0 l0_0.length c0_0,.slice (some ad1722) l0_1.length c0_1,.int .i64 a0_2] 83 (0,0)) (bs BK1689) hb);have n2_:=Aside0.mk (below_step (hs1 HB GE1689) hb);have n3_:=Aside0.mk (hbox);have n4_:=Aside0.mk ((by rw [hg];exact (below_size (hs1 HB GE1689)) : w.heap.size ≤ gb1723));have n5_:=Aside0.mk ((by rw [hg];exact (below_size (hs1 HB GE1689)) : w.heap.size ≤ gb1723));have n6_:=Aside0.mk ((by rw [hg];exact Nat.ne_of_lt (blk_lt (g:=gb1689) (o:=.cells #[.slice A0_0 l0_0.length c0_0,.slice (some ad1722) l0_1.length c0_1,.int .i64 a0_2] 83 (0,0)) (bs BK1689)) : gb1689 ≠ gb1723));have n7_:=Aside0.mk ((by rw [hg];exact Nat.ne_of_gt (blk_lt (g:=gb1689) (o:=.cells #[.slice A0_0 l0_0.length c0_0,.slice (some ad1722) l0_1.length c0_1,.int .i64 a0_2] 83 (0,0)) (bs BK1689)) : gb1723 ≠ gb1689));clear HO_3;clear BK1689;clear HB;have HO_3:=n0_;have BK1689:=n1_;have HB:=n2_;have BK1723:=n3_;have GW1723:=n4_;have GE1723:=n5_;have NB1689_1723:=n6_;have NB1723_1689:=n7_;clear n0_ n1_ n2_ n3_ n4_ n5_ n6_ n7_;clear hb hbox hg;have hnb128:=NB1723_1689.out;have hnc128:=NB1689_1723.out;have hcz129_0 : w127.cell? ⟨gb1723,0,none⟩ = some (.bool false):=(blk_cell BK1723.out 0).trans rfl;have hcz129_1 : w127.cell? ⟨gb1723,1,none⟩ = some (.slice none 0 0):=(blk_cell BK1723.out 1).trans rfl;have hfz129_0:=blk_frozen BK1723.out 0;have hfz129_1:=blk_frozen BK1723.out 1;obtain ⟨Ao130,co130,eo130⟩:=Kd.R_slice HO_3.out;subst eo130) | ((with_reducible refine gate_callee (f:=87) rfl ?_);refine goesL_ (some 86) rfl rfl Try.func87 (by kernel_rfl) rfl #[.slice Ao130 x3_2.length co130,.int .i64 x79_3] rfl (by (try simp only [List.map_toArray,List.map_cons,List.map_nil]);first | done | rfl | (simp only [List.length_drop,List.length_take];rfl)) ?_;(with_reducible refine (impl_hasInt.calls k3 _ _ x3_2 x79_3 false _ ?side1 ?side2 A108.out).mono ?_);(case side1=>refine (Kd.R_reads' (e:=3) (base:=w.heap.size) (ok:=fun k_=>True) (n:=x3_2.length) (c:=co130) ?_).2.2;exact (by (with_reducible repeat (first | apply Kd.R_alloc | apply Kd.R_drewN | apply Kd.R_drew));exact (Kd.R_mono (Kd.R_far (p:=⟨gb1723,1,none⟩) (Kd.R_far (p:=⟨gb1723,0,none⟩) (Kd.R_types HO_3.out BK1723.out (by decide)) (fun _ hk=>hk.2) (.bool ((rd_T133 l0_1 x79_3).f0))) (fun _ hk=>hk.2) (.slice A1722_1 ((rd_T133 l0_1 x79_3).f1).length c1722_1)) (fun _ h_=>h_.1))));(case side2=>exact (Kd.R_reads' HO_3.out).2.1);rintro e w' ⟨rfl,⟨nd,rfl⟩⟩;refine ⟨_,rfl,?_⟩))
          go_ret
          exact ⟨by first | rfl | (simp [errW_none,errW_some] <;> rfl) | (simp [*,errW_none,errW_some] <;> rfl),hs2 HB GE1689 GE1723⟩
         rw [if_neg c107] at H;exact absurd H (by simp)
        rw [if_neg c106] at H;exact absurd H (by simp)
       rw [if_neg c105] at H;have c105b0 : decide (x79_3 < (l0_1.length : Int)) = false:=decide_eq_false c105;clear c105;obtain rfl:=Option.some.inj H
       go_wp2
       go_ret
       exact ⟨by first | rfl | (simp [errW_none,errW_some] <;> rfl) | (simp [*,errW_none,errW_some] <;> rfl),hs1 HB GE1689⟩
end Go.Proofs.Ytdolplcbokioaaa.PB
