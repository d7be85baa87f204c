/- FnTwoTx: functions of the translation as Lean functions with what their calls come to, plain lemmas on them, and, at the end, the row. Parts of one proof, merged by a program of this session; each part's own sentence stands at its head. -/
import Derived.Test.YtodokejcmbjpbaaRows
import Derived.WalkKit
import Derived.ProofKit
import Derived.OpenShut
import Derived.ShutString
import Derived.ChangeOld
import Derived.Below
import Derived.SizedLaws
import Derived.Test.YtodokejcmbjpbaaMFnTwoTxd
set_option linter.unusedSimpArgs false
set_option linter.unusedVariables false
namespace Go.Proofs.Ytodokejcmbjpbaa.PK
open Go.RowKit Go.Proofs.YtodokejcmbjpbaaW.PrintWords Go.Proofs.YtodokejcmbjpbaaW.PrintLast Go.Proofs.YtodokejcmbjpbaaW.PrintMore
attribute [local go_sem] max2_int min2_int max_two min_two max_three min_three max_four min_four
mutual
def spec_TxPages.l0 : Nat → Int → Int → List (S45) → List (S33) → List ByteArray → Int → Option ((List (S33)) × Bool)
 | 0,_,_,_,_,_,_=>none
 | k + 1,x0,x1,x2,x8,x9,x10=>if x10 < (x2.length : Int) then (if 0 ≤ x10 then ((spec_RecText.f k ((rd_T45 x2 x10).f0) ((rd_T45 x2 x10).f1) ((rd_T45 x2 x10).f2) ((rd_T45 x2 x10).f3)).bind fun bt275=>(if bt275.2 = true then (if 0 ≤ (wrap64 ((x9.length : Int) - 1)) then (if (wrap64 ((x9.length : Int) - 1)) < (x9.length : Int) then (if (wrap64 (((rdOf ByteArray.empty x9 (wrap64 ((x9.length : Int) - 1))).size : Int) + (bt275.1.size : Int))) > 90 then (if x9.length < 8796093022208 then (spec_TxPages.l0 k x0 x1 x2 x8 (x9 ++ [bt275.1]) (wrap64 (x10 + 1))) else (none)) else (if (rdOf ByteArray.empty x9 (wrap64 ((x9.length : Int) - 1))).size + bt275.1.size ≤ 9223372036854775807 then (spec_TxPages.l0 k x0 x1 x2 x8 (x9.set ((wrap64 ((x9.length : Int) - 1)) : Int).toNat ((rdOf ByteArray.empty x9 (wrap64 ((x9.length : Int) - 1))) ++ bt275.1)) (wrap64 (x10 + 1))) else (none))) else (none)) else (none)) else (some (x8,false)))) else (none)) else (if (x9.length : Int) > 9 then (spec_TxPages.j1 k x0 x1 x8 x9 true) else ((spec_l01In.f x0 1 (wrap64 ((wrap64 (1000000000 - (x9.length : Int))) + 1))).bind fun t283=>(if t283 = true then ((spec_l01In.f x1 1 1000000000).bind fun t284=>(spec_TxPages.j1 k x0 x1 x8 x9 (!t284))) else (spec_TxPages.j1 k x0 x1 x8 x9 true))))
def spec_TxPages.j1 : Nat → Int → Int → List (S33) → List ByteArray → Bool → Option ((List (S33)) × Bool)
 | 0,_,_,_,_,_=>none
 | k + 1,x0,x1,x8,x9,x76=>if x76 = true then (some (x8,false)) else (spec_TxPages.l1 k x0 x1 x9 (([] : List (S33))) 0)
def spec_TxPages.l1 : Nat → Int → Int → List ByteArray → List (S33) → Int → Option ((List (S33)) × Bool)
 | 0,_,_,_,_,_=>none
 | k + 1,x0,x1,x9,x14,x15=>if x15 < (x9.length : Int) then (if 0 ≤ x15 then (if x14.length < 2513169434916 then (spec_TxPages.l1 k x0 x1 x9 (x14 ++ [(⟨2,wrap64 (x0 + x15),x1,x15,(x9.length : Int),rdOf ByteArray.empty x9 x15⟩ : S33)]) (wrap64 (x15 + 1))) else (none)) else (none)) else (some (x14,true))
end
def spec_TxPages.f (k : Nat) (a0 : Int) (a1 : Int) (l2 : List (S45)) : Option ((List (S33)) × Bool):=spec_TxPages.l0 k a0 a1 l2 (([] : List (S33))) (([(⟨#[]⟩ : ByteArray)] : List ByteArray)) 0
theorem spec_TxPages.mono_l : ∀ k,(∀ y0 y1 y2 y3 y4 y5,LeO (spec_TxPages.l0 k y0 y1 y2 y3 y4 y5) (spec_TxPages.l0 (k + 1) y0 y1 y2 y3 y4 y5)) ∧ (∀ y0 y1 y2 y3 y4,LeO (spec_TxPages.j1 k y0 y1 y2 y3 y4) (spec_TxPages.j1 (k + 1) y0 y1 y2 y3 y4)) ∧ (∀ y0 y1 y2 y3 y4,LeO (spec_TxPages.l1 k y0 y1 y2 y3 y4) (spec_TxPages.l1 (k + 1) y0 y1 y2 y3 y4))
 | 0=>⟨fun _ _ _ _ _ _ r h=>by simp [spec_TxPages.l0] at h,fun _ _ _ _ _ r h=>by simp [spec_TxPages.j1] at h,fun _ _ _ _ _ r h=>by simp [spec_TxPages.l1] at h⟩
 | k + 1=>by
  obtain ⟨ih0,ih1,ih2⟩:=spec_TxPages.mono_l k;refine ⟨?_,?_,?_⟩
  ·intro y0 y1 y2 y3 y4 y5;unfold spec_TxPages.l0
   repeat' first
   | (with_reducible exact ih0 _ _ _ _ _ _)
   | (with_reducible exact ih1 _ _ _ _ _)
   | (with_reducible exact ih2 _ _ _ _ _)
   | (with_reducible exact spec_RecText.mono _ _ _ _ _)
   | (with_reducible exact LeO.refl _)
   | (with_reducible exact LeO.none _)
   | (with_reducible refine LeO.ite ?_ ?_)
   | (with_reducible refine LeO.bind ?_ (fun _=>?_))
   | exact ih0 _ _ _ _ _ _
   | exact ih1 _ _ _ _ _
   | exact ih2 _ _ _ _ _
   | exact spec_RecText.mono _ _ _ _ _
   | exact LeO.none _
   | refine LeO.ite ?_ ?_
   | refine LeO.bind ?_ (fun _=>?_)
  ·intro y0 y1 y2 y3 y4;unfold spec_TxPages.j1
   repeat' first
   | (with_reducible exact ih0 _ _ _ _ _ _)
   | (with_reducible exact ih1 _ _ _ _ _)
   | (with_reducible exact ih2 _ _ _ _ _)
   | (with_reducible exact spec_RecText.mono _ _ _ _ _)
   | (with_reducible exact LeO.refl _)
   | (with_reducible exact LeO.none _)
   | (with_reducible refine LeO.ite ?_ ?_)
   | (with_reducible refine LeO.bind ?_ (fun _=>?_))
   | exact ih0 _ _ _ _ _ _
   | exact ih1 _ _ _ _ _
   | exact ih2 _ _ _ _ _
   | exact spec_RecText.mono _ _ _ _ _
   | exact LeO.none _
   | refine LeO.ite ?_ ?_
   | refine LeO.bind ?_ (fun _=>?_)
  intro y0 y1 y2 y3 y4;unfold spec_TxPages.l1
  repeat' first
  | (with_reducible exact ih0 _ _ _ _ _ _)
  | (with_reducible exact ih1 _ _ _ _ _)
  | (with_reducible exact ih2 _ _ _ _ _)
  | (with_reducible exact spec_RecText.mono _ _ _ _ _)
  | (with_reducible exact LeO.refl _)
  | (with_reducible exact LeO.none _)
  | (with_reducible refine LeO.ite ?_ ?_)
  | (with_reducible refine LeO.bind ?_ (fun _=>?_))
  | exact ih0 _ _ _ _ _ _
  | exact ih1 _ _ _ _ _
  | exact ih2 _ _ _ _ _
  | exact spec_RecText.mono _ _ _ _ _
  | exact LeO.none _
  | refine LeO.ite ?_ ?_
  | refine LeO.bind ?_ (fun _=>?_)
theorem spec_TxPages.mono : ∀ a0 a1 a2 k,LeO (spec_TxPages.f k a0 a1 a2) (spec_TxPages.f (k + 1) a0 a1 a2):=by
 intro a0 a1 a2 k;obtain ⟨ih0,ih1,ih2⟩:=spec_TxPages.mono_l k;unfold spec_TxPages.f
 repeat' first
   | (with_reducible exact ih0 _ _ _ _ _ _)
   | (with_reducible exact ih1 _ _ _ _ _)
   | (with_reducible exact ih2 _ _ _ _ _)
   | (with_reducible exact spec_RecText.mono _ _ _ _ _)
   | (with_reducible exact LeO.refl _)
   | (with_reducible exact LeO.none _)
   | (with_reducible refine LeO.ite ?_ ?_)
   | (with_reducible refine LeO.bind ?_ (fun _=>?_))
   | exact ih0 _ _ _ _ _ _
   | exact ih1 _ _ _ _ _
   | exact ih2 _ _ _ _ _
   | exact spec_RecText.mono _ _ _ _ _
   | exact LeO.none _
   | refine LeO.ite ?_ ?_
   | refine LeO.bind ?_ (fun _=>?_)
set_option maxHeartbeats 8000000 in
set_option maxRecDepth 100000 in
theorem spec_TxPages.calls (k : Nat) (a0 : Int) (a1 : Int) (A2 : Option Addr) (c2 : Nat) (l2 : List (S45)) (r1 : List (S33)) (r2 : Bool) (w : World) (hr2 : Kd.C k45 w A2 l2.length l2) (hc2 : l2.length ≤ c2) (h : spec_TxPages.f k a0 a1 l2 = some (r1,r2)) :
  Calls Try.prog 11 #[.int .i64 a0,.int .i64 a1,.slice A2 l2.length c2] w fun e w'=>∃ v0_ : Value,e = .returned (.tuple #[v0_,.bool r2]) ∧ Kd.R k33 33 w' w.heap.size (fun _=>True) v0_ r1 ∧ Below w.heap.size w w':=by
 have hu45:=Try.underlying45;have hu33:=Try.underlying33;have HR2:=zMk hr2;have HC2:=zMk hc2;clear hr2 hc2;have HB:=zMk (Below.refl w.heap.size w);have H : (spec_TxPages.l0 k a0 a1 l2 (([] : List (S33))) (([(⟨#[]⟩ : ByteArray)] : List ByteArray)) 0) = some (r1,r2):=h;clear h;obtain ⟨y268,hy268⟩ : ∃ y_ : List (S33),y_ = (([] : List (S33))):=⟨_,rfl⟩;replace H : (spec_TxPages.l0 k a0 a1 l2 y268 (([(⟨#[]⟩ : ByteArray)] : List ByteArray)) 0) = some (r1,r2):=by first | (rw [hy268];with_reducible exact H) | (have H2_:=(Option.bind_some _ _).symm.trans H;rw [hy268];with_reducible exact H2_) | (have H2_:=(Option.bind_some _ _).symm.trans H;with_reducible exact H2_) | with_reducible exact H | (rw [hy268];exact H) | exact H
 have Ny268:=zMk hy268;clear hy268;obtain ⟨y271,hy271⟩ : ∃ y_ : List ByteArray,y_ = (([(⟨#[]⟩ : ByteArray)] : List ByteArray)):=⟨_,rfl⟩;replace H : (spec_TxPages.l0 k a0 a1 l2 y268 y271 0) = some (r1,r2):=by first | (rw [hy271];with_reducible exact H) | (have H2_:=(Option.bind_some _ _).symm.trans H;rw [hy271];with_reducible exact H2_) | (have H2_:=(Option.bind_some _ _).symm.trans H;with_reducible exact H2_) | with_reducible exact H | (rw [hy271];exact H) | exact H
 have Ny271:=zMk hy271;clear hy271;have H':=zMk H;clear H
 go_enter Try.func11,Try.ntmps11
 go_wp2_with (first | ((with_reducible refine gate_dst (N:=16) rfl ?_);(try (refine gate_guard (by rfl) ?_;dsimp only));refine Kd.R_lit k33 _ 33 ?hg (N:=16) ?hd (xs:=([] : List (S33))) (inner:=[]) (ok:=fun _=>True) (okp:=fun _=>True) ?hr ?hp (fun _ hk=>hk) trivial (Below.refl _ _) (Nat.le_refl _) (by simp) ?_;(case hd=>rfl);(case hg=>rfl);(case hr=>first | (go_simp;done) | (go_simp;rfl));(case hp=>exact (Reps.none _ _));intro v269 w4 ho5 hb hg_ hnew_;clear hg_ hnew_;(first | rw [← Ny268.out] at ho5 | (simp only [Int.reduceToNat] at ho5;rw [← Ny268.out] at ho5));have n0_:=zMk (Kd.R_lower ho5 (below_size (hs HB)));have n1_:=zMk (below_step (hs HB) hb);clear HB;have HO270:=n0_;have HB:=n1_;clear n0_ n1_;clear hb ho5) | ((with_reducible refine gate_dst (N:=17) rfl ?_);(try (refine gate_guard (by rfl) ?_;dsimp only));refine Kd.R_lit Kd.string _ 9 ?hg (N:=17) ?hd (xs:=([(⟨#[]⟩ : ByteArray)] : List ByteArray)) (inner:=[.string (⟨#[]⟩ : ByteArray)]) (ok:=fun _=>True) (okp:=fun _=>True) ?hr ?hp (fun _ hk=>hk) trivial (Below.refl _ _) (Nat.le_refl _) (by simp) ?_;(case hd=>rfl);(case hg=>rfl);(case hr=>first | (go_simp;done) | (go_simp;rfl));(case hp=>exact (Reps.one (show Kd.M Kd.string _ _ _ (⟨#[]⟩ : ByteArray) [.string (⟨#[]⟩ : ByteArray)] from rfl) (Reps.none _ _)));intro v272 w6 ho7 hb hg_ hnew_;clear hg_ hnew_;(first | rw [← Ny271.out] at ho7 | (simp only [Int.reduceToNat] at ho7;rw [← Ny271.out] at ho7));have n0_:=zMk (Kd.R_below (rs HO270) hb);have n1_:=zMk (Kd.R_lower ho7 (below_size (hs HB)));have n2_:=zMk (below_step (hs HB) hb);clear HO270;clear HB;have HO270:=n0_;have HO273:=n1_;have HB:=n2_;clear n0_ n1_ n2_;clear hb ho7));go_loopg [9,10] k (fun kq v9 v10 w'=>∃ (x9_1 : List ByteArray) (x10_1 : Int),v10 = .int .i64 x10_1 ∧ Aside0 (spec_TxPages.l0 kq a0 a1 l2 y268 x9_1 x10_1 = some (r1,r2)) ∧ Aside0 (kq ≤ k) ∧ Aside0 (Kd.R k33 33 w' w.heap.size (fun _=>True) v269 y268) ∧ Aside0 (Kd.R Kd.string 9 w' w.heap.size (fun _=>True) v9 x9_1) ∧ Aside0 (Below w.heap.size w w'));case atStart=>exact ⟨(y271),(0),(by first | rfl | (simp;done) | (simp [*];done)),H',⟨Nat.le_refl _⟩,⟨rs HO270⟩,⟨rs HO273⟩,⟨hs HB⟩⟩
 case round =>
  clear H'
  try clear c1
  try clear c2
  try clear p2
  obtain ⟨x9_1,x10_1,rfl,HA,HK1,HO_8,HO_9,HB⟩:=hrel;cases gk with
  | zero=>exact absurd HA.out (by simp [spec_TxPages.l0])
  | succ k1 =>
   have H:=HA.out;clear HA;simp only [spec_TxPages.l0] at H
   by_cases c8 : x10_1 < (l2.length : Int)
   ·rw [if_pos c8] at H;have c8b0 : decide (x10_1 < (l2.length : Int)) = true:=decide_eq_true c8;clear c8
    by_cases c9 : 0 ≤ x10_1
    ·rw [if_pos c9] at H;have c9b0 : decide (0 ≤ x10_1) = true:=decide_eq_true c9;clear c9;replace H:=Option.bind_eq_some_iff.mp H;obtain ⟨⟨t275,t276⟩,A100,H⟩:=H;replace H : (if t276 = true then (if 0 ≤ (wrap64 ((x9_1.length : Int) - 1)) then (if (wrap64 ((x9_1.length : Int) - 1)) < (x9_1.length : Int) then (if (wrap64 (((rdOf ByteArray.empty x9_1 (wrap64 ((x9_1.length : Int) - 1))).size : Int) + (t275.size : Int))) > 90 then (if x9_1.length < 8796093022208 then (spec_TxPages.l0 k1 a0 a1 l2 y268 (x9_1 ++ [t275]) (wrap64 (x10_1 + 1))) else (none)) else (if (rdOf ByteArray.empty x9_1 (wrap64 ((x9_1.length : Int) - 1))).size + t275.size ≤ 9223372036854775807 then (spec_TxPages.l0 k1 a0 a1 l2 y268 (x9_1.set ((wrap64 ((x9_1.length : Int) - 1)) : Int).toNat ((rdOf ByteArray.empty x9_1 (wrap64 ((x9_1.length : Int) - 1))) ++ t275)) (wrap64 (x10_1 + 1))) else (none))) else (none)) else (none)) else (some (y268,false))) = some (r1,r2):=H;have A10:=zMk A100;clear A100
     by_cases c11 : t276 = true
     ·subst c11;have H1 : (if 0 ≤ (wrap64 ((x9_1.length : Int) - 1)) then (if (wrap64 ((x9_1.length : Int) - 1)) < (x9_1.length : Int) then (if (wrap64 (((rdOf ByteArray.empty x9_1 (wrap64 ((x9_1.length : Int) - 1))).size : Int) + (t275.size : Int))) > 90 then (if x9_1.length < 8796093022208 then (spec_TxPages.l0 k1 a0 a1 l2 y268 (x9_1 ++ [t275]) (wrap64 (x10_1 + 1))) else (none)) else (if (rdOf ByteArray.empty x9_1 (wrap64 ((x9_1.length : Int) - 1))).size + t275.size ≤ 9223372036854775807 then (spec_TxPages.l0 k1 a0 a1 l2 y268 (x9_1.set ((wrap64 ((x9_1.length : Int) - 1)) : Int).toNat ((rdOf ByteArray.empty x9_1 (wrap64 ((x9_1.length : Int) - 1))) ++ t275)) (wrap64 (x10_1 + 1))) else (none))) else (none)) else (none)) = some (r1,r2):=by rw [if_pos rfl] at H;exact H
      clear H;have H:=H1;clear H1;obtain ⟨ji12,hji12⟩ : ∃ j_ : Int,(wrap64 ((x9_1.length : Int) - 1)) = j_:=⟨_,rfl⟩;replace H : (if 0 ≤ (ji12) then (if (ji12) < (x9_1.length : Int) then (if (wrap64 (((rdOf ByteArray.empty x9_1 (ji12)).size : Int) + (t275.size : Int))) > 90 then (if x9_1.length < 8796093022208 then (spec_TxPages.l0 k1 a0 a1 l2 y268 (x9_1 ++ [t275]) (wrap64 (x10_1 + 1))) else (none)) else (if (rdOf ByteArray.empty x9_1 (ji12)).size + t275.size ≤ 9223372036854775807 then (spec_TxPages.l0 k1 a0 a1 l2 y268 (x9_1.set ((ji12) : Int).toNat ((rdOf ByteArray.empty x9_1 (ji12)) ++ t275)) (wrap64 (x10_1 + 1))) else (none))) else (none)) else (none)) = some (r1,r2):=by first | (rw [hji12] at H;exact H) | (simp only [hji12] at H ⊢;exact H)
      (try rw [hji12] at A10)
      have hji12w : (IntKind.i64.wrap ((x9_1.length : Int) - 1)) = ji12:=(i64_w _).trans hji12
      by_cases c13 : 0 ≤ (ji12)
      ·rw [if_pos c13] at H;have c13b0 : decide (0 ≤ (ji12)) = true:=decide_eq_true c13;clear c13
       by_cases c14 : (ji12) < (x9_1.length : Int)
       ·rw [if_pos c14] at H;have c14b0 : decide ((ji12) < (x9_1.length : Int)) = true:=decide_eq_true c14;clear c14
        by_cases c15 : (wrap64 (((rdOf ByteArray.empty x9_1 (ji12)).size : Int) + (t275.size : Int))) > 90
        ·rw [if_pos c15] at H;have c15b0 : decide (90 < (wrap64 (((rdOf ByteArray.empty x9_1 (ji12)).size : Int) + (t275.size : Int)))) = true:=decide_eq_true c15;clear c15
         by_cases c16 : x9_1.length < 8796093022208
         ·rw [if_pos c16] at H;have LMc16:=zMk c16;clear c16;obtain ⟨y278,hy278⟩ : ∃ y_ : List ByteArray,y_ = (x9_1 ++ [t275]):=⟨_,rfl⟩;replace H : (spec_TxPages.l0 k1 a0 a1 l2 y268 y278 (wrap64 (x10_1 + 1))) = some (r1,r2):=by first | (rw [hy278];with_reducible exact H) | (have H2_:=(Option.bind_some _ _).symm.trans H;rw [hy278];with_reducible exact H2_) | (have H2_:=(Option.bind_some _ _).symm.trans H;with_reducible exact H2_) | with_reducible exact H | (rw [hy278];exact H) | exact H
          have Ny278:=zMk hy278;clear hy278;have H':=zMk H;clear H;have p274 : 0 ≤ (x10_1 : Int):=zDe (by first | (with_reducible assumption) | assumption);have q274 : x10_1 < (l2.length : Int):=zDe (by first | (with_reducible assumption) | assumption);obtain ⟨ad274,e274,hx274_0,hx274_1,hx274_2,hx274_3⟩:=at_T45 HR2.out x10_1 p274 q274;cases e274;replace hx274_0:=(HB.out.cell (zBl w _ hx274_0)).trans hx274_0;replace hx274_1:=(HB.out.cell (zBl w _ hx274_1)).trans hx274_1;replace hx274_2:=(HB.out.cell (zBl w _ hx274_2)).trans hx274_2;replace hx274_3:=(HB.out.cell (zBl w _ hx274_3)).trans hx274_3;replace p274:=eq_true p274;replace q274:=eq_true q274;go_wp2_with (first | ((with_reducible refine gate_callee (f:=33) rfl ?_);refine goesL_ (some 29) rfl rfl Try.func33 (by kernel_rfl) rfl #[.agg #[.int .i64 ((rd_T45 l2 x10_1).f0),.int .i64 ((rd_T45 l2 x10_1).f1),.int .i64 ((rd_T45 l2 x10_1).f2),.int .i64 ((rd_T45 l2 x10_1).f3)]] rfl (by (try simp only [List.map_toArray,List.map_cons,List.map_nil]);first | done | rfl | (simp only [List.length_drop,List.length_take];rfl)) ?_;(with_reducible refine (spec_RecText.calls k1 ((rd_T45 l2 x10_1).f0) ((rd_T45 l2 x10_1).f1) ((rd_T45 l2 x10_1).f2) ((rd_T45 l2 x10_1).f3) t275 true _ A10.out).mono ?_);rintro e w17 ⟨rfl,hb⟩;refine ⟨_,rfl,?_⟩;have n0_:=zMk (Kd.R_below (rs HO_8) hb);have n1_:=zMk (Kd.R_below (rs HO_9) hb);have n2_:=zMk (below_step (hs HB) hb);clear HO_8;clear HO_9;clear HB;have HO_8:=n0_;have HO_9:=n1_;have HB:=n2_;clear n0_ n1_ n2_;(try clear hb);(try clear hb2);(try clear hk);(try clear hi);obtain ⟨Ao18,co18,eo18⟩:=Kd.R_slice HO_9.out;subst eo18;have p277 : 0 ≤ ((ji12) : Int):=zDe (by first | (with_reducible assumption) | assumption);have q277 : (ji12) < (x9_1.length : Int):=zDe (by first | (with_reducible assumption) | assumption);obtain ⟨ad277,e277,hx277_0⟩:=Kd.at_string (Kd.R_reads' HO_9.out).2.2 (ji12) p277 q277;cases e277;replace p277:=eq_true p277;replace q277:=eq_true q277) | ((with_reducible refine gate_builtin (b:=.append) (xs:=#[.tmp 47,.tmp 49]) rfl ?_);(try (refine gate_guard (by rfl) ?_;dsimp only));at_builtin;refine Kd.R_append Kd.string (w0:=w) w.heap.size rfl (.tmp 47) (.tmp 49) 60 9 (.string ⟨#[]⟩) 16 rfl Try.underlying60 info9 rfl (by decide) (by omega) (.slice (some ad277) x9_1.length co18) x9_1 t275 [.string t275] (fun _=>True) (fun _=>False) rfl rfl ?aP (fun _ hk=>hk.elim) ?aF ?aO ?aB ?aS ?aL ?_;(case aP=>exact rfl);(case aB=>exact (hs HB));(case aF=>exact (fun _ _=>trivial));(case aO=>exact (rs HO_9));(case aS=>exact (below_size (hs HB)));(case aL=>have:=LMc16.out;omega);intro v279 w19 ho hb hg hat;rw [← Ny278.out] at ho;have n0_:=zMk (Kd.R_over' (rs HO_8) (Kd.R_typed (rs HO_9)) (by decide) hg);have n1_:=zMk (hb);have n2_:=zMk (ho);clear HO_8;clear HB;clear HO_9;have HO_8:=n0_;have HB:=n1_;have HO280:=n2_;clear n0_ n1_ n2_;clear ho hb hg hat));go_roundg k1;case measure=>have:=HK1.out;omega
          case rel=>exact ⟨(y278),(wrap64 (x10_1 + 1)),(by first | rfl | (simp;done) | (simp [*];done)),H',⟨by have:=HK1.out;omega⟩,⟨rs HO_8⟩,⟨rs HO280⟩,⟨hs HB⟩⟩
         rw [if_neg c16] at H;exact absurd H (by simp)
        rw [if_neg c15] at H;have c15b0 : decide (90 < (wrap64 (((rdOf ByteArray.empty x9_1 (ji12)).size : Int) + (t275.size : Int)))) = false:=decide_eq_false c15;clear c15
        by_cases c20 : (rdOf ByteArray.empty x9_1 (ji12)).size + t275.size ≤ 9223372036854775807
        ·rw [if_pos c20] at H;have c20b0:=eq_true c20;have c20b1 : decide ((rdOf ByteArray.empty x9_1 (ji12)).size + t275.size ≤ 9223372036854775807) = true:=decide_eq_true c20;have c15b9 : decide (90 < (((rdOf ByteArray.empty x9_1 (ji12)).size : Int) + (t275.size : Int))) = false:=(show wrap64 (((rdOf ByteArray.empty x9_1 (ji12)).size : Int) + (t275.size : Int)) = ((rdOf ByteArray.empty x9_1 (ji12)).size : Int) + (t275.size : Int) from by unfold wrap64;omega) ▸ c15b0
         try have c20b2 : (9223372036854775807 < (rdOf ByteArray.empty x9_1 (ji12)).size + t275.size) = False:=eq_false (Nat.not_lt.2 c20)
         obtain ⟨y282,hy282⟩ : ∃ y_ : List ByteArray,y_ = (x9_1.set ((ji12) : Int).toNat ((rdOf ByteArray.empty x9_1 (ji12)) ++ t275)):=⟨_,rfl⟩;replace H : (spec_TxPages.l0 k1 a0 a1 l2 y268 y282 (wrap64 (x10_1 + 1))) = some (r1,r2):=by first | (rw [hy282];with_reducible exact H) | (have H2_:=(Option.bind_some _ _).symm.trans H;rw [hy282];with_reducible exact H2_) | (have H2_:=(Option.bind_some _ _).symm.trans H;with_reducible exact H2_) | with_reducible exact H | (rw [hy282];exact H) | exact H
         have Ny282:=zMk hy282;clear hy282;have H':=zMk H;clear H;have p274 : 0 ≤ (x10_1 : Int):=zDe (by first | (with_reducible assumption) | assumption);have q274 : x10_1 < (l2.length : Int):=zDe (by first | (with_reducible assumption) | assumption);obtain ⟨ad274,e274,hx274_0,hx274_1,hx274_2,hx274_3⟩:=at_T45 HR2.out x10_1 p274 q274;cases e274;replace hx274_0:=(HB.out.cell (zBl w _ hx274_0)).trans hx274_0;replace hx274_1:=(HB.out.cell (zBl w _ hx274_1)).trans hx274_1;replace hx274_2:=(HB.out.cell (zBl w _ hx274_2)).trans hx274_2;replace hx274_3:=(HB.out.cell (zBl w _ hx274_3)).trans hx274_3;replace p274:=eq_true p274;replace q274:=eq_true q274;go_wp2_with (first | ((with_reducible refine gate_callee (f:=33) rfl ?_);refine goesL_ (some 29) rfl rfl Try.func33 (by kernel_rfl) rfl #[.agg #[.int .i64 ((rd_T45 l2 x10_1).f0),.int .i64 ((rd_T45 l2 x10_1).f1),.int .i64 ((rd_T45 l2 x10_1).f2),.int .i64 ((rd_T45 l2 x10_1).f3)]] rfl (by (try simp only [List.map_toArray,List.map_cons,List.map_nil]);first | done | rfl | (simp only [List.length_drop,List.length_take];rfl)) ?_;(with_reducible refine (spec_RecText.calls k1 ((rd_T45 l2 x10_1).f0) ((rd_T45 l2 x10_1).f1) ((rd_T45 l2 x10_1).f2) ((rd_T45 l2 x10_1).f3) t275 true _ A10.out).mono ?_);rintro e w22 ⟨rfl,hb⟩;refine ⟨_,rfl,?_⟩;have n0_:=zMk (Kd.R_below (rs HO_8) hb);have n1_:=zMk (Kd.R_below (rs HO_9) hb);have n2_:=zMk (below_step (hs HB) hb);clear HO_8;clear HO_9;clear HB;have HO_8:=n0_;have HO_9:=n1_;have HB:=n2_;clear n0_ n1_ n2_;(try clear hb);(try clear hb2);(try clear hk);(try clear hi);obtain ⟨Ao23,co23,eo23⟩:=Kd.R_slice HO_9.out;subst eo23;have p277 : 0 ≤ ((ji12) : Int):=zDe (by first | (with_reducible assumption) | assumption);have q277 : (ji12) < (x9_1.length : Int):=zDe (by first | (with_reducible assumption) | assumption);obtain ⟨ad277,e277,hx277_0⟩:=Kd.at_string (Kd.R_reads' HO_9.out).2.2 (ji12) p277 q277;cases e277;replace p277:=eq_true p277;replace q277:=eq_true q277;have p281 : 0 ≤ ((ji12) : Int):=zDe (by first | (with_reducible assumption) | assumption);have q281 : (ji12) < (x9_1.length : Int):=zDe (by first | (with_reducible assumption) | assumption);obtain ⟨ad281,e281,hx281_0⟩:=Kd.at_string (Kd.R_reads' HO_9.out).2.2 (ji12) p281 q281;obtain rfl : ad277 = ad281:=(by injection e281);replace p281:=eq_true p281;replace q281:=eq_true q281;have p21 : 0 ≤ ((ji12) : Int):=zDe (by first | (with_reducible assumption) | assumption);have q21 : ((ji12) : Int) < ((x9_1.length : Int) : Int):=zDe (by first | (with_reducible assumption) | assumption);obtain ⟨go21,co21,eo21,gb21,gl21,cl21,HG21⟩:=Kd.R_form HO_9.out (by omega);(first | cases eo21 | (injection eo21 with ea_ en_ ec_;(first | subst ea_ | (injection ea_ with ea_;subst ea_));subst ec_;clear en_));have GB21:=zMk gb21;have GG21:=zMk HG21;clear gb21 gl21 HG21;(first | simp only [add_plain] at hx277_0 | skip);(first | simp only [add_plain] at hx281_0 | skip);obtain ⟨hx21_0,hf21_0⟩:=Kd.R_celln (⟨#[]⟩ : ByteArray) HO_9.out ((ji12) : Int) p21 q21;replace p21:=eq_true p21;replace q21:=eq_true q21;obtain ⟨hy24_,hz24_⟩:=Kd.R_celln (⟨#[]⟩ : ByteArray) HO_9.out ((ji12) : Int) (zDe (by first | (with_reducible assumption) | assumption)) (zDe (by first | (with_reducible assumption) | assumption));have HP24:=Kd.R_putg HO_9.out ((ji12) : Int) ((rdOf ByteArray.empty x9_1 (ji12)) ++ t275)) | ((with_reducible refine gate_store (t:=9) (p:=59) rfl ?_);refine store_event (t:=9) (p:=59) (v:=?vo_w25) (w1:=(w22.setCell ⟨go21,((ji12) : Int).toNat,none⟩ (.string ((rdOf ByteArray.empty x9_1 (ji12)) ++ t275)))) ?hg ?ho ?hn ?hr ?_;(case ho=>rfl);(case hg=>rfl);(case hn=>rfl);(case hr=>first | (go_simp;done) | (go_simp;rfl));intro w25 hw;have hg : w22.grownBy w25 (some go21):=(by rw [hw];exact HP24.2);have hp_ : Kd.R Kd.string 9 w25 w.heap.size (fun _=>True) (.slice (some ⟨go21,0,none⟩) x9_1.length co23) y282:=(by rw [hw,Ny282.out];exact HP24.1);clear HP24;have n0_:=zMk (Kd.R_over' (v:=(.slice (some ⟨go21,0,none⟩) x9_1.length co23)) (rs HO_8) (Kd.R_typed HO_9.out) (by decide) hg);have n1_:=zMk (hp_);have n2_:=zMk ((by rw [hw];exact below_set (HB.out) GB21.out : Below w.heap.size w w25));clear HO_8;clear HO_9;clear HB;have HO_8:=n0_;have HO_9:=n1_;have HB:=n2_;clear n0_ n1_ n2_;clear hg hw hp_));go_roundg k1;case measure=>have:=HK1.out;omega
         case rel=>exact ⟨(y282),(wrap64 (x10_1 + 1)),(by first | rfl | (simp;done) | (simp [*];done)),H',⟨by have:=HK1.out;omega⟩,⟨rs HO_8⟩,⟨rs HO_9⟩,⟨hs HB⟩⟩
        rw [if_neg c20] at H;exact absurd H (by simp)
       rw [if_neg c14] at H;exact absurd H (by simp)
      rw [if_neg c13] at H;exact absurd H (by simp)
     replace c11:=Bool.eq_false_iff.mpr c11;subst c11;have H1 : (some (y268,false)) = some (r1,r2):=by rw [if_neg (show ¬ (false = true) by decide)] at H;exact H
     clear H;have H:=H1;clear H1;simp only [Option.some.injEq,Prod.mk.injEq] at H;obtain ⟨rfl,rfl⟩:=H;have p274 : 0 ≤ (x10_1 : Int):=zDe (by first | (with_reducible assumption) | assumption);have q274 : x10_1 < (l2.length : Int):=zDe (by first | (with_reducible assumption) | assumption);obtain ⟨ad274,e274,hx274_0,hx274_1,hx274_2,hx274_3⟩:=at_T45 HR2.out x10_1 p274 q274;cases e274;replace hx274_0:=(HB.out.cell (zBl w _ hx274_0)).trans hx274_0;replace hx274_1:=(HB.out.cell (zBl w _ hx274_1)).trans hx274_1;replace hx274_2:=(HB.out.cell (zBl w _ hx274_2)).trans hx274_2;replace hx274_3:=(HB.out.cell (zBl w _ hx274_3)).trans hx274_3;replace p274:=eq_true p274;replace q274:=eq_true q274;go_wp2_with (first | ((with_reducible refine gate_callee (f:=33) rfl ?_);refine goesL_ (some 29) rfl rfl Try.func33 (by kernel_rfl) rfl #[.agg #[.int .i64 ((rd_T45 l2 x10_1).f0),.int .i64 ((rd_T45 l2 x10_1).f1),.int .i64 ((rd_T45 l2 x10_1).f2),.int .i64 ((rd_T45 l2 x10_1).f3)]] rfl (by (try simp only [List.map_toArray,List.map_cons,List.map_nil]);first | done | rfl | (simp only [List.length_drop,List.length_take];rfl)) ?_;(with_reducible refine (spec_RecText.calls k1 ((rd_T45 l2 x10_1).f0) ((rd_T45 l2 x10_1).f1) ((rd_T45 l2 x10_1).f2) ((rd_T45 l2 x10_1).f3) t275 false _ A10.out).mono ?_);rintro e w26 ⟨rfl,hb⟩;refine ⟨_,rfl,?_⟩;have n0_:=zMk (Kd.R_below (rs HO_8) hb);have n1_:=zMk (Kd.R_below (rs HO_9) hb);have n2_:=zMk (below_step (hs HB) hb);clear HO_8;clear HO_9;clear HB;have HO_8:=n0_;have HO_9:=n1_;have HB:=n2_;clear n0_ n1_ n2_;(try clear hb);(try clear hb2);(try clear hk);(try clear hi)))
     go_ret2
     exact ⟨_,by first | rfl | (simp [errW_none,errW_some] <;> rfl) | (simp [*,errW_none,errW_some] <;> rfl),rs HO_8,hs HB⟩
    rw [if_neg c9] at H;exact absurd H (by simp)
   rw [if_neg c8] at H;have c8b0 : decide (x10_1 < (l2.length : Int)) = false:=decide_eq_false c8;clear c8;have HC27:=zMk H;clear H;go_upto_region 13 with (fail);go_cut [76] (fun v76 wc=>∃ (kq : Nat) (x76_26 : Bool),v76 = .bool x76_26 ∧ Aside0 (spec_TxPages.j1 kq a0 a1 y268 x9_1 x76_26 = some (r1,r2)) ∧ Aside0 (kq ≤ k1) ∧ Aside0 (Kd.R k33 33 wc w.heap.size (fun _=>True) v269 y268) ∧ Aside0 (Kd.R Kd.string 9 wc w.heap.size (fun _=>True) u9 x9_1) ∧ Aside0 (Below w.heap.size w wc))
   case first =>
    have H:=HC27.out;clear HC27
    by_cases c28 : (x9_1.length : Int) > 9
    ·rw [if_pos c28] at H;have c28b0 : decide (9 < (x9_1.length : Int)) = true:=decide_eq_true c28;have c28b1 : decide (9 < x9_1.length) = true:=decide_eq_true (by omega);clear c28
     (first | rw [c28b0] | (simp only [i64_w,i32_w];rw [c28b0]) | skip)
     have H':=zMk H;clear H;obtain ⟨Ao29,co29,eo29⟩:=Kd.R_slice HO_9.out;subst eo29
     go_wp2
     go_meet
     case rel=>exact ⟨_,(true),(by first | rfl | (simp;done) | (simp [*];done)),H',⟨by have:=HK1.out;first | omega | exact Nat.le_refl _⟩,⟨rs HO_8⟩,⟨rs HO_9⟩,⟨hs HB⟩⟩
    rw [if_neg c28] at H;have c28b0 : decide (9 < (x9_1.length : Int)) = false:=decide_eq_false c28;have c28b1 : decide (9 < x9_1.length) = false:=decide_eq_false (by omega);clear c28
    (first | rw [c28b0] | (simp only [i64_w,i32_w];rw [c28b0]) | skip)
    replace H:=Option.bind_eq_some_iff.mp H;obtain ⟨t283,A300,H⟩:=H;replace H : (if t283 = true then ((spec_l01In.f a1 1 1000000000).bind fun t284=>(spec_TxPages.j1 k1 a0 a1 y268 x9_1 (!t284))) else (spec_TxPages.j1 k1 a0 a1 y268 x9_1 true)) = some (r1,r2):=H;have A30:=zMk A300;clear A300
    by_cases c31 : t283 = true
    ·subst c31;have H1 : ((spec_l01In.f a1 1 1000000000).bind fun t284=>(spec_TxPages.j1 k1 a0 a1 y268 x9_1 (!t284))) = some (r1,r2):=by rw [if_pos rfl] at H;exact H
     clear H;have H:=H1;clear H1;replace H:=Option.bind_eq_some_iff.mp H;obtain ⟨t284,A320,H⟩:=H;replace H : (spec_TxPages.j1 k1 a0 a1 y268 x9_1 (!t284)) = some (r1,r2):=H;have A32:=zMk A320;clear A320;have H':=zMk H;clear H;obtain ⟨Ao33,co33,eo33⟩:=Kd.R_slice HO_9.out;subst eo33;go_wp2_with (first | (go_at_call 34;(with_reducible refine (spec_l01In.calls a0 1 (wrap64 ((wrap64 (1000000000 - (x9_1.length : Int))) + 1)) true _ A30.out).mono ?_);rintro e w' ⟨rfl,⟨nd,rfl⟩⟩) | (go_at_call 34;(with_reducible refine (spec_l01In.calls a1 1 1000000000 t284 _ A32.out).mono ?_);rintro e w' ⟨rfl,⟨nd,rfl⟩⟩))
     go_meet
     case rel=>exact ⟨_,(!t284),(by first | rfl | (simp;done) | (simp [*];done)),H',⟨by have:=HK1.out;first | omega | exact Nat.le_refl _⟩,⟨rs HO_8⟩,⟨rs HO_9⟩,⟨hs HB⟩⟩
    replace c31:=Bool.eq_false_iff.mpr c31;subst c31;have H1 : (spec_TxPages.j1 k1 a0 a1 y268 x9_1 true) = some (r1,r2):=by rw [if_neg (show ¬ (false = true) by decide)] at H;exact H
    clear H;have H:=H1;clear H1;have H':=zMk H;clear H;obtain ⟨Ao34,co34,eo34⟩:=Kd.R_slice HO_9.out;subst eo34;go_wp2_with (first | (go_at_call 34;(with_reducible refine (spec_l01In.calls a0 1 (wrap64 ((wrap64 (1000000000 - (x9_1.length : Int))) + 1)) false _ A30.out).mono ?_);rintro e w' ⟨rfl,⟨nd,rfl⟩⟩))
    go_meet
    case rel=>exact ⟨_,(true),(by first | rfl | (simp;done) | (simp [*];done)),H',⟨by have:=HK1.out;first | omega | exact Nat.le_refl _⟩,⟨rs HO_8⟩,⟨rs HO_9⟩,⟨hs HB⟩⟩
   case rest =>
    clear HC27
    try clear c1
    try clear c2
    try clear p2
    try clear q2
    try clear hx2
    try clear c3
    try clear p6
    try clear c8
    try clear c8b0
    try clear c9
    try clear c9b0
    try clear c11
    try clear c13
    try clear c13b0
    try clear c14
    try clear c14b0
    try clear c15
    try clear c15b0
    try clear c16
    try clear c20
    try clear c20b0
    try clear c20b1
    try clear c20b2
    try clear p21
    try clear q21
    try clear hx21
    try clear hf21
    try clear p27
    try clear q27
    try clear hx27
    try clear c28
    try clear c28b0
    try clear c28b1
    try clear p28
    try clear q28
    try clear hx28
    try clear c31
    try clear c33
    try clear hx21_0
    try clear hx274_0
    try clear hx274_1
    try clear hx274_2
    try clear hx274_3
    try clear hx277_0
    try clear hx281_0
    try clear p2
    try clear p21
    try clear p274
    try clear p277
    try clear p281
    try clear q21
    try clear q274
    try clear q277
    try clear q281
    obtain ⟨kq,x76_26,rfl,HA,HJ26,HO_8,HO_9,HB⟩:=hcut;cases kq with
    | zero=>exact absurd HA.out (by simp [spec_TxPages.j1])
    | succ kj26 =>
     have H:=HA.out;clear HA;simp only [spec_TxPages.j1] at H
     by_cases c35 : x76_26 = true
     ·subst c35;have H1 : (some (y268,false)) = some (r1,r2):=by rw [if_pos rfl] at H;exact H
      clear H;have H:=H1;clear H1;simp only [Option.some.injEq,Prod.mk.injEq] at H;obtain ⟨rfl,rfl⟩:=H
      go_wp2
      go_ret2
      exact ⟨_,by first | rfl | (simp [errW_none,errW_some] <;> rfl) | (simp [*,errW_none,errW_some] <;> rfl),rs HO_8,hs HB⟩
     replace c35:=Bool.eq_false_iff.mpr c35;subst c35;have H1 : (spec_TxPages.l1 kj26 a0 a1 x9_1 (([] : List (S33))) 0) = some (r1,r2):=by rw [if_neg (show ¬ (false = true) by decide)] at H;exact H
     clear H;have H:=H1;clear H1;obtain ⟨y285,hy285⟩ : ∃ y_ : List (S33),y_ = (([] : List (S33))):=⟨_,rfl⟩;replace H : (spec_TxPages.l1 kj26 a0 a1 x9_1 y285 0) = some (r1,r2):=by first | (rw [hy285];with_reducible exact H) | (have H2_:=(Option.bind_some _ _).symm.trans H;rw [hy285];with_reducible exact H2_) | (have H2_:=(Option.bind_some _ _).symm.trans H;with_reducible exact H2_) | with_reducible exact H | (rw [hy285];exact H) | exact H
     have Ny285:=zMk hy285;clear hy285;have H':=zMk H;clear H;go_wp2_with (first | ((with_reducible refine gate_dst (N:=78) rfl ?_);(try (refine gate_guard (by rfl) ?_;dsimp only));refine Kd.R_lit k33 _ 33 ?hg (N:=78) ?hd (xs:=([] : List (S33))) (inner:=[]) (ok:=fun _=>True) (okp:=fun _=>True) ?hr ?hp (fun _ hk=>hk) trivial (Below.refl _ _) (Nat.le_refl _) (by simp) ?_;(case hd=>rfl);(case hg=>rfl);(case hr=>first | (go_simp;done) | (go_simp;rfl));(case hp=>exact (Reps.none _ _));intro v286 w36 ho37 hb hg_ hnew_;clear hg_ hnew_;(first | rw [← Ny285.out] at ho37 | (simp only [Int.reduceToNat] at ho37;rw [← Ny285.out] at ho37));have n0_:=zMk (Kd.R_elder' (rs HO_8) (Kd.R_base ho37) hb);have n1_:=zMk (Kd.R_below (rs HO_9) hb);have n2_:=zMk (Kd.R_lower (Kd.R_new' ho37 (Kd.R_lt (rs HO_8))) (below_size (hs HB)));have n3_:=zMk (below_step (hs HB) hb);clear HO_8;clear HO_9;clear HB;have HO_8:=n0_;have HO_9:=n1_;have HO287:=n2_;have HB:=n3_;clear n0_ n1_ n2_ n3_;clear hb ho37));go_loopg [14,15] kj26 (fun kq v14 v15 w'=>∃ (x14_3 : List (S33)) (x15_3 : Int),v15 = .int .i64 x15_3 ∧ Aside0 (spec_TxPages.l1 kq a0 a1 x9_1 x14_3 x15_3 = some (r1,r2)) ∧ Aside0 (kq ≤ kj26) ∧ Aside0 (Kd.R Kd.string 9 w' w.heap.size (fun _=>True) u9 x9_1) ∧ Aside0 (Kd.R k33 33 w' w.heap.size (fun _=>True) v14 x14_3) ∧ Aside0 (Below w.heap.size w w'));case atStart=>exact ⟨(y285),(0),(by first | rfl | (simp;done) | (simp [*];done)),H',⟨Nat.le_refl _⟩,⟨rs HO_9⟩,⟨by (with_reducible repeat (first | apply Kd.R_alloc | apply Kd.R_drewN | apply Kd.R_drew));exact Kd.R_mono HO287.out (fun _ hk=>trivial)⟩,⟨hs HB⟩⟩
     case round =>
      clear H'
      try clear c1
      try clear c2
      try clear p2
      try clear q2
      try clear hx2
      try clear c3
      try clear p6
      try clear c8
      try clear c8b0
      try clear c9
      try clear c9b0
      try clear c11
      try clear c13
      try clear c13b0
      try clear c14
      try clear c14b0
      try clear c15
      try clear c15b0
      try clear c16
      try clear c20
      try clear c20b0
      try clear c20b1
      try clear c20b2
      try clear p21
      try clear q21
      try clear hx21
      try clear hf21
      try clear p27
      try clear q27
      try clear hx27
      try clear c28
      try clear c28b0
      try clear c28b1
      try clear p28
      try clear q28
      try clear hx28
      try clear c31
      try clear c33
      try clear c35
      try clear hx21_0
      try clear hx274_0
      try clear hx274_1
      try clear hx274_2
      try clear hx274_3
      try clear hx277_0
      try clear hx281_0
      try clear p2
      try clear p21
      try clear p27
      try clear p274
      try clear p277
      try clear p28
      try clear p281
      try clear p6
      try clear q2
      try clear q21
      try clear q27
      try clear q274
      try clear q277
      try clear q28
      try clear q281
      obtain ⟨x14_3,x15_3,rfl,HA,HK3,HO_9,HO_14,HB⟩:=hrel;cases gk with
      | zero=>exact absurd HA.out (by simp [spec_TxPages.l1])
      | succ k3 =>
       have H:=HA.out;clear HA;simp only [spec_TxPages.l1] at H
       by_cases c38 : x15_3 < (x9_1.length : Int)
       ·rw [if_pos c38] at H;have c38b0 : decide (x15_3 < (x9_1.length : Int)) = true:=decide_eq_true c38;clear c38
        by_cases c39 : 0 ≤ x15_3
        ·rw [if_pos c39] at H;have c39b0 : decide (0 ≤ x15_3) = true:=decide_eq_true c39;clear c39
         by_cases c40 : x14_3.length < 2513169434916
         ·rw [if_pos c40] at H;have LMc40:=zMk c40;clear c40;obtain ⟨y289,hy289⟩ : ∃ y_ : List (S33),y_ = (x14_3 ++ [(⟨2,wrap64 (a0 + x15_3),a1,x15_3,(x9_1.length : Int),rdOf ByteArray.empty x9_1 x15_3⟩ : S33)]):=⟨_,rfl⟩;replace H : (spec_TxPages.l1 k3 a0 a1 x9_1 y289 (wrap64 (x15_3 + 1))) = some (r1,r2):=by first | (rw [hy289];with_reducible exact H) | (have H2_:=(Option.bind_some _ _).symm.trans H;rw [hy289];with_reducible exact H2_) | (have H2_:=(Option.bind_some _ _).symm.trans H;with_reducible exact H2_) | with_reducible exact H | (rw [hy289];exact H) | exact H
          have Ny289:=zMk hy289;clear hy289;have H':=zMk H;clear H;obtain ⟨Ao41,co41,eo41⟩:=Kd.R_slice HO_9.out;subst eo41;have p288 : 0 ≤ (x15_3 : Int):=zDe (by first | (with_reducible assumption) | assumption);have q288 : x15_3 < (x9_1.length : Int):=zDe (by first | (with_reducible assumption) | assumption);obtain ⟨ad288,e288,hx288_0⟩:=Kd.at_string (Kd.R_reads' HO_9.out).2.2 x15_3 p288 q288;cases e288;replace p288:=eq_true p288;replace q288:=eq_true q288;go_wp2_with (first | ((with_reducible refine gate_builtin (b:=.append) (xs:=#[.tmp 85,.tmp 98]) rfl ?_);(try (refine gate_guard (by rfl) ?_;dsimp only));at_builtin;refine Kd.R_append k33 (w0:=w) w.heap.size rfl (.tmp 85) (.tmp 98) 28 33 (.agg #[(.int .i64 0),(.int .i64 0),(.int .i64 0),(.int .i64 0),(.int .i64 0),(.string ⟨#[]⟩)]) 56 rfl Try.underlying28 info33 rfl (by decide) (by omega) u14 x14_3 (⟨2,wrap64 (a0 + x15_3),a1,x15_3,(x9_1.length : Int),rdOf ByteArray.empty x9_1 x15_3⟩ : S33) [.int .i64 2,.int .i64 (wrap64 (a0 + x15_3)),.int .i64 a1,.int .i64 x15_3,.int .i64 (x9_1.length : Int),.string (rdOf ByteArray.empty x9_1 x15_3)] (fun _=>True) (fun _=>False) rfl rfl ?aP (fun _ hk=>hk.elim) ?aF ?aO ?aB ?aS ?aL ?_;(case aP=>exact k33_mkM _ _ _ (⟨2,wrap64 (a0 + x15_3),a1,x15_3,(x9_1.length : Int),rdOf ByteArray.empty x9_1 x15_3⟩ : S33));(case aB=>exact (hs HB));(case aF=>exact (fun _ _=>trivial));(case aO=>exact (rs HO_14));(case aS=>exact (below_size (hs HB)));(case aL=>have:=LMc40.out;omega);intro v290 w42 ho hb hg hat;rw [← Ny289.out] at ho;have n0_:=zMk (Kd.R_over' (rs HO_9) (Kd.R_typed (rs HO_14)) (by decide) hg);have n1_:=zMk (hb);have n2_:=zMk (ho);clear HO_9;clear HB;clear HO_14;have HO_9:=n0_;have HB:=n1_;have HO291:=n2_;clear n0_ n1_ n2_;clear ho hb hg hat));go_roundg k3;case measure=>have:=HK1.out;have:=HJ26.out;have:=HK3.out;omega
          case rel=>exact ⟨(y289),(wrap64 (x15_3 + 1)),(by first | rfl | (simp;done) | (simp [*];done)),H',⟨by have:=HK1.out;have:=HJ26.out;have:=HK3.out;omega⟩,⟨rs HO_9⟩,⟨rs HO291⟩,⟨hs HB⟩⟩
         rw [if_neg c40] at H;exact absurd H (by simp)
        rw [if_neg c39] at H;exact absurd H (by simp)
       rw [if_neg c38] at H;have c38b0 : decide (x15_3 < (x9_1.length : Int)) = false:=decide_eq_false c38;clear c38;simp only [Option.some.injEq,Prod.mk.injEq] at H;obtain ⟨rfl,rfl⟩:=H;obtain ⟨Ao43,co43,eo43⟩:=Kd.R_slice HO_9.out;subst eo43
       go_wp2
       go_ret2
       exact ⟨_,by first | rfl | (simp [errW_none,errW_some] <;> rfl) | (simp [*,errW_none,errW_some] <;> rfl),rs HO_14,hs HB⟩
end Go.Proofs.Ytodokejcmbjpbaa.PK

/- The pages of a transaction; the program's and the reference's TxPages tell them; marks and copies of pages and records. -/
namespace Go.Proofs.Ytodokejcmbjpbaa.Pu
open Go.RowKit Go.Proofs.Ytodokejcmbjpbaa.PK Go.Proofs.YtodokejcmbjpbaaW.PrintWords
theorem rdTP_nat (l : List S33) (i : Nat) : rd_T33 l (i : Int) = l.getD i z33 := rfl
theorem rdTR_nat (l : List S45) (i : Nat) : rd_T45 l (i : Int) = l.getD i z45 := rfl
theorem rdOfT_nat {α : Type} (z : α) (l : List α) (i : Nat) : rdOf z l (i : Int) = l.getD i z := rfl
theorem getDset {α : Type} {l : List α} {c : Nat} (i : Nat) (v z : α) (hc : c < l.length) : (l.set c v).getD i z = if i = c then v else l.getD i z := by
  rw [List.getD_eq_getElem?_getD, List.getD_eq_getElem?_getD, List.getElem?_set]
  by_cases h : c = i
  · subst h; simp [hc]
  · rw [if_neg h, if_neg (fun e => h e.symm)]
theorem dropT {α : Type} {l : List α} {i : Nat} (z : α) (h : i < l.length) : l.drop i = l.getD i z :: l.drop (i + 1) := by
  rw [List.drop_eq_getElem_cons h, List.getD_eq_getElem?_getD, List.getElem?_eq_getElem h]; rfl
theorem empty_app (t : ByteArray) : (⟨#[]⟩ : ByteArray) ++ t = t := ByteArray.empty_append

def lastT (ts : List ByteArray) : ByteArray := ts.getD (ts.length - 1) ByteArray.empty
def txF (ts : List ByteArray) (t : ByteArray) : List ByteArray := if ((lastT ts).size : Int) + (t.size : Int) > 90 then ts ++ [t] else ts.set (ts.length - 1) (lastT ts ++ t)
def txs : List S45 → List ByteArray → Option (List ByteArray)
  | [], ts => some ts
  | r :: rs, ts => if recOk r.f0 r.f1 r.f2 r.f3 = true then txs rs (txF ts (recText r.f0 r.f1 r.f2 r.f3)) else none
def pageB (s x : Int) (ts : List ByteArray) (i : Nat) : S33 := ⟨2, wrap64 (s + (i : Int)), x, (i : Int), (ts.length : Int), ts.getD i ByteArray.empty⟩
def pagesB (s x : Int) (ts : List ByteArray) : List S33 := (List.range' 0 ts.length).map (pageB s x ts)
def txFin (s x : Int) : Option (List ByteArray) → List S33 × Bool
  | none => ([], false)
  | some ts => if (ts.length : Int) > 9 then ([], false) else if 1 ≤ s ∧ s ≤ wrap64 (wrap64 (1000000000 - (ts.length : Int)) + 1) then (if 1 ≤ x ∧ x ≤ 1000000000 then (pagesB s x ts, true) else ([], false)) else ([], false)
theorem txFin_len (s x : Int) (o : Option (List ByteArray)) : (txFin s x o).1.length ≤ 9 := by
  cases o with
  | none => simp [txFin]
  | some ts =>
    unfold txFin
    by_cases h : (ts.length : Int) > 9
    · simp [h]
    · simp only [if_neg h]
      by_cases h2 : 1 ≤ s ∧ s ≤ wrap64 (wrap64 (1000000000 - (ts.length : Int)) + 1)
      · by_cases h3 : 1 ≤ x ∧ x ≤ 1000000000
        · simp only [if_pos h2, if_pos h3, pagesB, List.length_map, List.length_range']; omega
        · simp only [if_pos h2, if_neg h3]; simp
      · simp only [if_neg h2]; simp
theorem recText_size {t v a c : Int} (h : recOk t v a c = true) : (recText t v a c).size ≤ 11 := by
  obtain ⟨h1, h2, h3, h4, h5, h6, h7, h8⟩ := recOk_range h
  have s1 := varL_len5 (n := a.toNat) (by omega)
  have s2 := varL_len5 (n := c.toNat) (by omega)
  unfold recText
  rw [ByteArray.size_append, ByteArray.size_append, strOf_size, strOf_size, strOf_size]
  simp
  omega
theorem txF_last {ts : List ByteArray} {t : ByteArray} (h0 : 0 < ts.length) (ht : t.size ≤ 11) : (lastT (txF ts t)).size ≤ 90 ∧ 0 < (txF ts t).length ∧ (txF ts t).length ≤ ts.length + 1 := by
  unfold txF
  by_cases h : ((lastT ts).size : Int) + (t.size : Int) > 90
  · rw [if_pos h]
    refine ⟨?_, by simp, by simp⟩
    unfold lastT
    rw [List.length_append, List.length_singleton, Nat.add_sub_cancel, List.getD_eq_getElem?_getD, List.getElem?_append_right (Nat.le_refl _)]
    simp
    omega
  · rw [if_neg h]
    refine ⟨?_, by rw [List.length_set]; exact h0, by rw [List.length_set]; omega⟩
    unfold lastT at h ⊢
    rw [List.length_set, getDset _ _ _ (by omega), if_pos rfl, ByteArray.size_append]
    omega
theorem wpredT {i : Nat} (h : 0 < i) (hn : i ≤ 9223372036854775807) : wrap64 ((i : Int) - 1) = ((i - 1 : Nat) : Int) := by
  rw [w64 (by omega) (by omega)]; omega
theorem iTx1_ev (s x : Int) (ts : List ByteArray) (hl : ts.length ≤ 9) : ∀ (d i : Nat) (acc : List S33), i + d = ts.length → acc.length = i → Ev (fun k => impl_TxPages.l1 k s x (ts.length : Int) acc ts (ts.length : Int) (i : Int)) (acc ++ (List.range' i d).map (pageB s x ts), true) := by
  intro d
  induction d with
  | zero => intro i acc hi ha; exact ev_some fun k => by simp only [impl_TxPages.l1]; rw [if_neg (by omega)]; simp
  | succ d ih =>
    intro i acc hi ha
    have h := ih (i + 1) (acc ++ [pageB s x ts i]) (by omega) (by simp; omega)
    rw [List.append_assoc, List.singleton_append] at h
    rw [List.range'_succ, List.map_cons]
    refine Ev.step (fun k => ?_) h
    simp only [impl_TxPages.l1]
    rw [if_pos (by omega), if_pos (by omega), if_pos (by omega), if_pos (by omega), wsucc (i := i) (n := ts.length) (by omega) (by omega), rdOfT_nat]
    rfl
theorem sTx1_ev (s x : Int) (ts : List ByteArray) (hl : ts.length ≤ 9) : ∀ (d i : Nat) (acc : List S33), i + d = ts.length → acc.length = i → Ev (fun k => spec_TxPages.l1 k s x ts acc (i : Int)) (acc ++ (List.range' i d).map (pageB s x ts), true) := by
  intro d
  induction d with
  | zero => intro i acc hi ha; exact ev_some fun k => by simp only [spec_TxPages.l1]; rw [if_neg (by omega)]; simp
  | succ d ih =>
    intro i acc hi ha
    have h := ih (i + 1) (acc ++ [pageB s x ts i]) (by omega) (by simp; omega)
    rw [List.append_assoc, List.singleton_append] at h
    rw [List.range'_succ, List.map_cons]
    refine Ev.step (fun k => ?_) h
    simp only [spec_TxPages.l1]
    rw [if_pos (by omega), if_pos (by omega), if_pos (by omega), wsucc (i := i) (n := ts.length) (by omega) (by omega), rdOfT_nat]
    rfl
theorem ev_step_bind {α β : Type} {L : Nat → Option β} {g : Nat → Option α} {F : Nat → α → Option β} {a : α} {r : β} (hg : Ev g a) (hL : ∀ k, L (k + 1) = (g k).bind (F k)) (h : Ev (fun k => F k a) r) : Ev L r := Ev.step (f := fun k => (g k).bind (F k)) hL (Ev.bind hg h)
theorem iTx_ev (s x : Int) (recs : List S45) (hr : recs.length ≤ 1048576) : Ev (fun k => impl_TxPages.f k s x recs) (txFin s x (txs recs [⟨#[]⟩])) := by
  have main : ∀ (d i : Nat) (ts : List ByteArray), i + d = recs.length → 0 < ts.length → ts.length ≤ 1 + i → (lastT ts).size ≤ 90 → Ev (fun k => impl_TxPages.l0 k s x ts recs (recs.length : Int) (i : Int)) (txFin s x (txs (recs.drop i) ts)) := by
    intro d
    induction d with
    | zero =>
      intro i ts hi h0 hl hs
      rw [List.drop_eq_nil_of_le (by omega)]
      have no : Ev (fun k => impl_TxPages.j1 k s x ts (ts.length : Int) true) (([] : List S33), false) := ev_some fun k => by simp only [impl_TxPages.j1]; rw [if_pos trivial]
      unfold txs txFin
      by_cases h : (ts.length : Int) > 9
      · simp only [if_pos h]
        refine Ev.step (fun k => ?_) no
        simp only [impl_TxPages.l0]
        rw [if_neg (by omega), if_pos h]
      · simp only [if_neg h]
        by_cases h2 : 1 ≤ s ∧ s ≤ wrap64 (wrap64 (1000000000 - (ts.length : Int)) + 1)
        · by_cases h3 : 1 ≤ x ∧ x ≤ 1000000000
          · simp only [if_pos h2, if_pos h3]
            refine Ev.step (f := fun k => impl_TxPages.j1 k s x ts (ts.length : Int) false) (fun k => ?_) (Ev.step (fun k => ?_) (iTx1_ev s x ts (by omega) ts.length 0 [] (by omega) rfl))
            · simp only [impl_TxPages.l0]
              rw [if_neg (by omega), if_neg h, in_eq', in_eq', Option.bind_some, decide_eq_true h2, if_pos rfl, Option.bind_some, decide_eq_true h3]; rfl
            · simp only [impl_TxPages.j1]
              rw [if_neg (by decide)]; rfl
          · simp only [if_pos h2, if_neg h3]
            refine Ev.step (fun k => ?_) no
            simp only [impl_TxPages.l0]
            rw [if_neg (by omega), if_neg h, in_eq', in_eq', Option.bind_some, decide_eq_true h2, if_pos rfl, Option.bind_some, decide_eq_false h3]; rfl
        · simp only [if_neg h2]
          refine Ev.step (fun k => ?_) no
          simp only [impl_TxPages.l0]
          rw [if_neg (by omega), if_neg h, in_eq', Option.bind_some, decide_eq_false h2, if_neg (by decide)]
    | succ d ih =>
      intro i ts hi h0 hl hs
      have hil : i < recs.length := by omega
      rw [dropT z45 hil]
      have hR : rd_T45 recs (i : Int) = recs.getD i z45 := rfl
      revert hR
      generalize recs.getD i z45 = r
      intro hR
      unfold txs
      have hT := iRecText_ev r.f0 r.f1 r.f2 r.f3
      unfold recTextR at hT
      by_cases h : recOk r.f0 r.f1 r.f2 r.f3 = true
      · rw [if_pos h] at hT
        rw [if_pos h]
        have hz := recText_size h
        have hih := ih (i + 1) (txF ts (recText r.f0 r.f1 r.f2 r.f3)) (by omega) (txF_last h0 hz).2.1 (by have := (txF_last (t := recText r.f0 r.f1 r.f2 r.f3) h0 hz).2.2; omega) (txF_last h0 hz).1
        revert hT hih hz
        generalize recText r.f0 r.f1 r.f2 r.f3 = t
        intro hT hz hih
        apply ev_step_bind hT
        case hL =>
          intro k
          simp only [impl_TxPages.l0]
          rw [if_pos (by omega), if_pos (by omega), if_pos (by omega), hR, wsucc (i := i) (n := recs.length) hil (by omega)]
        have er : rdOf ByteArray.empty ts ((ts.length - 1 : Nat) : Int) = lastT ts := rfl
        have ew : wrap64 (((lastT ts).size : Int) + (t.size : Int)) = ((lastT ts).size : Int) + (t.size : Int) := w64 (by omega) (by omega)
        simp only [if_true, wpredT h0 (by omega), er, ew, if_pos (show (0 : Int) ≤ ((ts.length - 1 : Nat) : Int) by omega), if_pos (show ((ts.length - 1 : Nat) : Int) < (ts.length : Int) by omega)]
        unfold txF at hih ⊢
        by_cases h6 : ((lastT ts).size : Int) + (t.size : Int) > 90
        · have e1 : wrap64 (((ts.length - 1 : Nat) : Int) + 1) = (ts.length : Int) := by rw [w64 (by omega) (by omega)]; omega
          have e2 : rdOf ByteArray.empty (ts ++ [(⟨#[]⟩ : ByteArray)]) (ts.length : Int) = ⟨#[]⟩ := by
            show (ts ++ [(⟨#[]⟩ : ByteArray)]).getD ts.length ByteArray.empty = _
            rw [List.getD_eq_getElem?_getD, List.getElem?_append_right (Nat.le_refl _), Nat.sub_self]; rfl
          have e3 : (ts ++ [(⟨#[]⟩ : ByteArray)]).set ts.length t = ts ++ [t] := by
            rw [List.set_append_right _ _ (Nat.le_refl _), Nat.sub_self]; rfl
          simp only [if_pos h6, if_pos (show ts.length < 8796093022208 by omega), Option.bind_some, e1, e2, if_pos (show (0 : Int) ≤ (ts.length : Int) by omega), if_pos (show (ts.length : Int) < ((ts ++ [(⟨#[]⟩ : ByteArray)]).length : Int) by rw [List.length_append, List.length_singleton]; omega), Int.toNat_natCast, empty_app, e3] at hih ⊢
          rw [show (⟨#[]⟩ : ByteArray).size = 0 from rfl]
          simp only [if_pos (show 0 + t.size ≤ 9223372036854775807 by omega)]
          exact hih
        · simp only [if_neg h6, if_pos (show (lastT ts).size + t.size ≤ 9223372036854775807 by omega), Int.toNat_natCast] at hih ⊢
          exact hih
      · rw [if_neg h] at hT
        rw [if_neg h]
        apply ev_step_bind hT
        case hL =>
          intro k
          simp only [impl_TxPages.l0]
          rw [if_pos (by omega), if_pos (by omega), if_pos (by omega), hR, wsucc (i := i) (n := recs.length) hil (by omega)]
        simp only [Bool.false_eq_true, if_false]
        exact Ev.now _
  exact main recs.length 0 [⟨#[]⟩] (by omega) (by simp) (by simp) (by show (⟨#[]⟩ : ByteArray).size ≤ 90; decide)
theorem sTx_ev (s x : Int) (recs : List S45) (hr : recs.length ≤ 1048576) : Ev (fun k => spec_TxPages.f k s x recs) (txFin s x (txs recs [⟨#[]⟩])) := by
  have main : ∀ (d i : Nat) (ts : List ByteArray), i + d = recs.length → 0 < ts.length → ts.length ≤ 1 + i → (lastT ts).size ≤ 90 → Ev (fun k => spec_TxPages.l0 k s x recs [] ts (i : Int)) (txFin s x (txs (recs.drop i) ts)) := by
    intro d
    induction d with
    | zero =>
      intro i ts hi h0 hl hs
      rw [List.drop_eq_nil_of_le (by omega)]
      have no : Ev (fun k => spec_TxPages.j1 k s x [] ts true) (([] : List S33), false) := ev_some fun k => by simp only [spec_TxPages.j1]; rw [if_pos trivial]
      unfold txs txFin
      by_cases h : (ts.length : Int) > 9
      · simp only [if_pos h]
        refine Ev.step (fun k => ?_) no
        simp only [spec_TxPages.l0]
        rw [if_neg (by omega), if_pos h]
      · simp only [if_neg h]
        by_cases h2 : 1 ≤ s ∧ s ≤ wrap64 (wrap64 (1000000000 - (ts.length : Int)) + 1)
        · by_cases h3 : 1 ≤ x ∧ x ≤ 1000000000
          · simp only [if_pos h2, if_pos h3]
            refine Ev.step (f := fun k => spec_TxPages.j1 k s x [] ts false) (fun k => ?_) (Ev.step (fun k => ?_) (sTx1_ev s x ts (by omega) ts.length 0 [] (by omega) rfl))
            · simp only [spec_TxPages.l0]
              rw [if_neg (by omega), if_neg h, l01In_eq', l01In_eq', Option.bind_some, decide_eq_true h2, if_pos rfl, Option.bind_some, decide_eq_true h3]; rfl
            · simp only [spec_TxPages.j1]
              rw [if_neg (by decide)]; rfl
          · simp only [if_pos h2, if_neg h3]
            refine Ev.step (fun k => ?_) no
            simp only [spec_TxPages.l0]
            rw [if_neg (by omega), if_neg h, l01In_eq', l01In_eq', Option.bind_some, decide_eq_true h2, if_pos rfl, Option.bind_some, decide_eq_false h3]; rfl
        · simp only [if_neg h2]
          refine Ev.step (fun k => ?_) no
          simp only [spec_TxPages.l0]
          rw [if_neg (by omega), if_neg h, l01In_eq', Option.bind_some, decide_eq_false h2, if_neg (by decide)]
    | succ d ih =>
      intro i ts hi h0 hl hs
      have hil : i < recs.length := by omega
      rw [dropT z45 hil]
      have hR : rd_T45 recs (i : Int) = recs.getD i z45 := rfl
      revert hR
      generalize recs.getD i z45 = r
      intro hR
      unfold txs
      have hT := sRecText_ev r.f0 r.f1 r.f2 r.f3
      unfold recTextR at hT
      by_cases h : recOk r.f0 r.f1 r.f2 r.f3 = true
      · rw [if_pos h] at hT
        rw [if_pos h]
        have hz := recText_size h
        have hih := ih (i + 1) (txF ts (recText r.f0 r.f1 r.f2 r.f3)) (by omega) (txF_last h0 hz).2.1 (by have := (txF_last (t := recText r.f0 r.f1 r.f2 r.f3) h0 hz).2.2; omega) (txF_last h0 hz).1
        revert hT hih hz
        generalize recText r.f0 r.f1 r.f2 r.f3 = t
        intro hT hz hih
        apply ev_step_bind hT
        case hL =>
          intro k
          simp only [spec_TxPages.l0]
          rw [if_pos (by omega), if_pos (by omega), hR, wsucc (i := i) (n := recs.length) hil (by omega)]
        have er : rdOf ByteArray.empty ts ((ts.length - 1 : Nat) : Int) = lastT ts := rfl
        have ew : wrap64 (((lastT ts).size : Int) + (t.size : Int)) = ((lastT ts).size : Int) + (t.size : Int) := w64 (by omega) (by omega)
        simp only [if_true, wpredT h0 (by omega), er, ew, if_pos (show (0 : Int) ≤ ((ts.length - 1 : Nat) : Int) by omega), if_pos (show ((ts.length - 1 : Nat) : Int) < (ts.length : Int) by omega)]
        unfold txF at hih ⊢
        by_cases h6 : ((lastT ts).size : Int) + (t.size : Int) > 90
        · simp only [if_pos h6, if_pos (show ts.length < 8796093022208 by omega)] at hih ⊢
          exact hih
        · simp only [if_neg h6, if_pos (show (lastT ts).size + t.size ≤ 9223372036854775807 by omega), Int.toNat_natCast] at hih ⊢
          exact hih
      · rw [if_neg h] at hT
        rw [if_neg h]
        apply ev_step_bind hT
        case hL =>
          intro k
          simp only [spec_TxPages.l0]
          rw [if_pos (by omega), if_pos (by omega), hR, wsucc (i := i) (n := recs.length) hil (by omega)]
        simp only [Bool.false_eq_true, if_false]
        exact Ev.now _
  exact main recs.length 0 [⟨#[]⟩] (by omega) (by simp) (by simp) (by show (⟨#[]⟩ : ByteArray).size ≤ 90; decide)
end Go.Proofs.Ytodokejcmbjpbaa.Pu

/- The pages of a transaction: gathered they are the transaction again. -/
namespace Go.Proofs.Ytodokejcmbjpbaa.Pu
open Go.RowKit Go.Proofs.Ytodokejcmbjpbaa.PK Go.Proofs.YtodokejcmbjpbaaW.PrintWords
def catN (ts : List ByteArray) : List Nat := (ts.map byt).flatten
def sizeT (ts : List ByteArray) : Nat := (ts.map ByteArray.size).sum
theorem catN_len : ∀ ts : List ByteArray, (catN ts).length = sizeT ts
  | [] => rfl
  | t :: ts => by
    show (byt t ++ catN ts).length = t.size + sizeT ts
    rw [List.length_append, byt_len, catN_len ts]
theorem catN_snoc (ts : List ByteArray) (t : ByteArray) : catN (ts ++ [t]) = catN ts ++ byt t := by
  unfold catN; simp
theorem catN_last : ∀ (ts : List ByteArray) (t : ByteArray), 0 < ts.length → catN (ts.set (ts.length - 1) (lastT ts ++ t)) = catN ts ++ byt t
  | [], t, h => by cases h
  | [x], t, _ => by
    show byt (x ++ t) ++ [] = (byt x ++ []) ++ byt t
    rw [byt_app]; simp
  | x :: y :: r, t, _ => by
    have h := catN_last (y :: r) t (by simp)
    have e : (x :: y :: r).set ((x :: y :: r).length - 1) (lastT (x :: y :: r) ++ t) = x :: (y :: r).set ((y :: r).length - 1) (lastT (y :: r) ++ t) := rfl
    rw [e]
    show byt x ++ catN ((y :: r).set _ _) = (byt x ++ catN (y :: r)) ++ byt t
    rw [h, List.append_assoc]
/-- What the pages of records bear; a page that is closed bears 87 bytes at least. -/
theorem txs_ok : ∀ (rs : List S45) (ts : List ByteArray), (∀ x ∈ rs, okR x = true ∧ (recText x.f0 x.f1 x.f2 x.f3).size ≤ 4) → 0 < ts.length → 87 * (ts.length - 1) + (lastT ts).size ≤ sizeT ts →
    ∃ ts', txs rs ts = some ts' ∧ catN ts' = catN ts ++ recsN rs ∧ 0 < ts'.length ∧ 87 * (ts'.length - 1) + (lastT ts').size ≤ sizeT ts' ∧ sizeT ts' ≤ sizeT ts + 4 * rs.length
  | [], ts, _, h0, hq => ⟨ts, rfl, (List.append_nil _).symm, h0, hq, Nat.le_refl _⟩
  | r :: rs, ts, h, h0, hq => by
    obtain ⟨ho, hs⟩ := h r List.mem_cons_self
    have hb := byt_rec ho
    have hro : recOk r.f0 r.f1 r.f2 r.f3 = true := ho
    unfold txs
    rw [if_pos hro]
    generalize hT : recText r.f0 r.f1 r.f2 r.f3 = t at hs hb
    have hc : catN (txF ts t) = catN ts ++ byt t ∧ 0 < (txF ts t).length ∧ 87 * ((txF ts t).length - 1) + (lastT (txF ts t)).size ≤ sizeT (txF ts t) := by
      unfold txF
      by_cases hl : ((lastT ts).size : Int) + (t.size : Int) > 90
      · rw [if_pos hl]
        refine ⟨catN_snoc ts t, by simp, ?_⟩
        have es : sizeT (ts ++ [t]) = sizeT ts + t.size := by rw [← catN_len, catN_snoc, List.length_append, catN_len, byt_len]
        have e : lastT (ts ++ [t]) = t := by
          unfold lastT
          rw [List.length_append, List.length_singleton, Nat.add_sub_cancel, List.getD_eq_getElem?_getD, List.getElem?_append_right (Nat.le_refl _)]
          simp
        rw [e, es, List.length_append, List.length_singleton]
        omega
      · rw [if_neg hl]
        refine ⟨catN_last ts t h0, by rw [List.length_set]; exact h0, ?_⟩
        have es : sizeT (ts.set (ts.length - 1) (lastT ts ++ t)) = sizeT ts + t.size := by rw [← catN_len, catN_last ts t h0, List.length_append, catN_len, byt_len]
        have e : lastT (ts.set (ts.length - 1) (lastT ts ++ t)) = lastT ts ++ t := by
          show (ts.set (ts.length - 1) (lastT ts ++ t)).getD ((ts.set (ts.length - 1) (lastT ts ++ t)).length - 1) ByteArray.empty = _
          rw [List.length_set, getDset _ _ _ (by omega), if_pos rfl]
        rw [e, es, List.length_set, ByteArray.size_append]
        omega
    obtain ⟨c1, c2, c3⟩ := hc
    obtain ⟨ts', a1, a2, a3, a4, a5⟩ := txs_ok rs (txF ts t) (fun x hx => h x (List.mem_cons_of_mem _ hx)) c2 c3
    refine ⟨ts', a1, ?_, a3, a4, ?_⟩
    · rw [a2, c1, hb, List.append_assoc]; rfl
    · have e := catN_len (txF ts t)
      rw [c1, List.length_append, catN_len, byt_len] at e
      simp only [List.length_cons]
      omega
theorem txs_start {rs : List S45} (h : ∀ x ∈ rs, okR x = true ∧ (recText x.f0 x.f1 x.f2 x.f3).size ≤ 4) (hn : rs.length ≤ 120) : ∃ ts, txs rs [⟨#[]⟩] = some ts ∧ catN ts = recsN rs ∧ 0 < ts.length ∧ ts.length ≤ 6 ∧ sizeT ts ≤ 480 := by
  obtain ⟨ts, a1, a2, a3, a4, a5⟩ := txs_ok rs [⟨#[]⟩] h (by decide) (by decide)
  have e0 : sizeT [⟨#[]⟩] = 0 := rfl
  have e1 : catN [⟨#[]⟩] = [] := rfl
  rw [e1, List.nil_append] at a2
  exact ⟨ts, a1, a2, a3, by omega, by omega⟩
theorem small_size {x : S45} (h : okR x = true) (h2 : x.f2 ≤ 15) (h3 : x.f3 ≤ 300) : (recText x.f0 x.f1 x.f2 x.f3).size ≤ 4 := by
  obtain ⟨_, _, _, _, h5, h6, h7, h8⟩ := recOk_range h
  rw [← byt_len, byt_rec h, recN_len, varN_len, varN_len]
  have s1 := (varL_len 0 x.f2.toNat (by omega)).1
  have s2 := (varL_len 1 x.f3.toNat (by omega)).1
  omega
theorem txFin_ok {s x : Int} {ts : List ByteArray} (hl : ts.length ≤ 9) (hs : 1 ≤ s) (hs2 : s ≤ 1000) (hx : 1 ≤ x ∧ x ≤ 1000000000) : txFin s x (some ts) = (pagesB s x ts, true) := by
  unfold txFin
  simp only
  rw [if_neg (by omega), w64 (x := 1000000000 - (ts.length : Int)) (by omega) (by omega), w64 (by omega) (by omega), if_pos ⟨hs, by omega⟩, if_pos hx]
def fnd (q : S33) : S36 := ⟨0, 0, q⟩
theorem pages_len (s x : Int) (ts : List ByteArray) : (pagesB s x ts).length = ts.length := by unfold pagesB; simp
theorem page_mem {s x : Int} {ts : List ByteArray} {q : S33} (h : q ∈ pagesB s x ts) : ∃ i, i < ts.length ∧ q = pageB s x ts i := by
  unfold pagesB at h
  obtain ⟨i, hi, rfl⟩ := List.mem_map.1 h
  exact ⟨i, by simp at hi; omega, rfl⟩
/-- The one that meets a test. -/
theorem find_one {l : List S36} {T : S36 → Bool} {q : S33} (h1 : ∃ f ∈ l, T f = true) (h2 : ∀ f ∈ l, T f = true → f.f2 = q) : (l.find? T).map (fun f => f.f2) = some q := by
  cases e : l.find? T with
  | none =>
    obtain ⟨f, hf, ht⟩ := h1
    have := List.find?_eq_none.1 e f hf
    exact absurd ht this
  | some f => rw [Option.map_some, h2 f (List.mem_of_find?_eq_some e) (List.find?_some e)]
/-- Pages of one transaction among others: all of its pages, and none else of its number. -/
def Has (l : List S36) (s x : Int) (ts : List ByteArray) : Prop := (∀ i, i < ts.length → ∃ f ∈ l, f.f2 = pageB s x ts i) ∧ ∀ f ∈ l, f.f2.f2 = x → ∃ i, i < ts.length ∧ f.f2 = pageB s x ts i
theorem meta_page {l : List S36} {s x : Int} {ts : List ByteArray} (h : Has l s x ts) {i : Nat} (hi : i < ts.length) {c : Int} (hc : c = 0 ∨ c = (ts.length : Int)) : metaB l x (i : Int) c = some (pageB s x ts i) := by
  refine find_one ?_ fun f hf ht => ?_
  · obtain ⟨f, hf, e⟩ := h.1 i hi
    refine ⟨f, hf, ?_⟩
    unfold metaT
    rw [e]
    show (decide ((2 : Int) = 2) && (decide (x = x) && (decide ((i : Int) = (i : Int)) && (decide (c = 0) || decide ((ts.length : Int) = c))))) = true
    rcases hc with hc | hc <;> simp [hc]
  · unfold metaT at ht
    simp only [Bool.and_eq_true, decide_eq_true_eq] at ht
    obtain ⟨j, hj, e⟩ := h.2 f hf ht.2.1
    have h3 := ht.2.2.1
    rw [e] at h3
    have h4 : (j : Int) = (i : Int) := h3
    rw [e, show j = i by omega]
theorem seq_mn {s : Int} {i : Nat} (h0 : 1 ≤ s) (h1 : s ≤ 1000) (hi : i ≤ 9) : mn s (wrap64 (s + (i : Int))) = s := by
  rw [w64 (by omega) (by omega)]
  unfold mn
  omega
theorem go_pages {l : List S36} {s x : Int} {ts : List ByteArray} (h : Has l s x ts) (hl : ts.length ≤ 9) (h0 : 1 ≤ s) (h1 : s ≤ 1000) : ∀ (d p : Nat) (t : ByteArray), p + d = ts.length → ∃ t', goB l x (ts.length : Int) d (p : Int) t s = some (t', s) ∧ byt t' = byt t ++ catN (ts.drop p)
  | 0, p, t, hp => ⟨t, rfl, by rw [List.drop_eq_nil_of_le (by omega)]; exact (List.append_nil _).symm⟩
  | d + 1, p, t, hp => by
    have hlt : p < ts.length := by omega
    unfold goB
    rw [meta_page h hlt (.inr rfl)]
    obtain ⟨t', e1, e2⟩ := go_pages h hl h0 h1 d (p + 1) (t ++ ts.getD p ByteArray.empty) (by omega)
    refine ⟨t', ?_, ?_⟩
    · show goB l x (ts.length : Int) d ((p : Int) + 1) (t ++ ts.getD p ByteArray.empty) (mn s (wrap64 (s + (p : Int)))) = _
      rw [seq_mn h0 h1 (by omega)]
      exact e1
    · rw [e2, byt_app, dropT ByteArray.empty hlt, List.append_assoc]; rfl
theorem tx_pages {l : List S36} {s x : Int} {ts : List ByteArray} {rs : List S45} (h : Has l s x ts) (hp : 0 < ts.length) (hl : ts.length ≤ 9) (h0 : 1 ≤ s) (h1 : s ≤ 1000) (hc : catN ts = recsN rs) (ho : ∀ y ∈ rs, okR y = true) : txB l x = (x, s, rs, true) := by
  unfold txB
  have hm := meta_page h hp (c := 0) (.inl rfl)
  have hm : metaB l x 0 0 = some (pageB s x ts 0) := hm
  rw [hm]
  obtain ⟨t', e1, e2⟩ := go_pages h hl h0 h1 (ts.length - 1) 1 (ts.getD 0 ByteArray.empty) (by omega)
  have es : wrap64 (s + ((0 : Nat) : Int)) = s := by rw [w64 (by omega) (by omega)]; omega
  show (match goB l x (ts.length : Int) ((ts.length : Int) - 1).toNat 1 (ts.getD 0 ByteArray.empty) (wrap64 (s + ((0 : Nat) : Int))) with | none => (0, 0, [], false) | some (t, s) => (x, s, (rrT t).1, (rrT t).2)) = _
  rw [es, show ((ts.length : Int) - 1).toNat = ts.length - 1 by omega]
  have e1 : goB l x (ts.length : Int) (ts.length - 1) 1 (ts.getD 0 ByteArray.empty) s = some (t', s) := e1
  rw [e1]
  have hb : byt t' = recsN rs := by
    rw [e2, ← hc]
    have := dropT (l := ts) (i := 0) ByteArray.empty hp
    rw [List.drop_zero] at this
    conv => rhs; rw [this]
    rfl
  have ht := trip t' rs (t'.size + 1) 0 [] (by rw [List.drop_zero]; exact hb) ho (by omega) (by omega)
  show (x, s, (rrT t').1, (rrT t').2) = _
  unfold rrT
  rw [ht]; rfl
theorem num_fold {x : Int} : ∀ (l : List S36) (s : List Int), (∀ f ∈ l, f.f2.f0 = 2 ∧ f.f2.f2 = x) → x ∈ s → l.foldl numF s = s
  | [], s, _, _ => rfl
  | f :: l, s, h, hx => by
    obtain ⟨_, h2⟩ := h f List.mem_cons_self
    rw [List.foldl_cons]
    unfold numF
    rw [if_neg (fun g => g.2 (by rw [h2]; exact hx))]
    exact num_fold l s (fun g hg => h g (List.mem_cons_of_mem _ hg)) hx
theorem num_new {x : Int} {l : List S36} {s : List Int} (h : ∀ f ∈ l, f.f2.f0 = 2 ∧ f.f2.f2 = x) (h0 : 0 < l.length) (hx : ¬ x ∈ s) : l.foldl numF s = s ++ [x] := by
  cases l with
  | nil => cases h0
  | cons f l =>
    obtain ⟨h1, h2⟩ := h f List.mem_cons_self
    rw [List.foldl_cons]
    have e : numF s f = s ++ [x] := by
      unfold numF
      rw [h2, if_pos ⟨h1, hx⟩]
    rw [e]
    exact num_fold l _ (fun g hg => h g (List.mem_cons_of_mem _ hg)) (by simp)
theorem sizes_pages (s x : Int) (ts : List ByteArray) : sizesN ((pagesB s x ts).map fnd) = sizeT ts := by
  unfold sizesN pagesB sizeT
  rw [List.map_map, List.map_map]
  congr 1
  apply List.ext_getElem
  · simp
  · intro i h1 h2
    simp only [List.length_map, List.length_range'] at h1
    simp only [List.getElem_map, List.getElem_range', Function.comp]
    show (ts.getD (0 + 1 * i) ByteArray.empty).size = _
    rw [Nat.zero_add, Nat.one_mul, List.getD_eq_getElem?_getD, List.getElem?_eq_getElem h1]; rfl
theorem sizes_app (a b : List S36) : sizesN (a ++ b) = sizesN a + sizesN b := by
  unfold sizesN
  rw [List.map_append, List.sum_append]
end Go.Proofs.Ytodokejcmbjpbaa.Pu

/- The reference's draws: a byte, a number below a bound, some places. -/
namespace Go.Proofs.Ytodokejcmbjpbaa.Pu
open Go.RowKit Go.Proofs.Ytodokejcmbjpbaa.PK Go.Proofs.YtodokejcmbjpbaaW.PrintWords
theorem and255 (x : Int) : 0 ≤ Go.bits .and .i64 x 255 ∧ Go.bits .and .i64 x 255 ≤ 255 := by
  have h : (BitVec.ofInt 64 x &&& BitVec.ofInt 64 255).toNat ≤ 255 := by
    rw [BitVec.toNat_and]; exact Nat.le_trans Nat.and_le_right (by decide)
  have e : Go.bits .and .i64 x 255 = Go.IntKind.i64.wrap ((BitVec.ofInt 64 x &&& BitVec.ofInt 64 255).toNat : Int) := rfl
  rw [e, Go.IntKind.wrap_i64]
  omega
/-- A draw's state: the place lies in the code. -/
theorem byte_eq (b : List Int) (i h : Int) (h0 : 0 ≤ i) (h1 : i ≤ b.length) (hb : b.length ≤ 9223372036854775807) : ∃ v i' h', spec_l01Byte.f b i h = some (v, i', h') ∧ (0 ≤ v ∧ v ≤ 255) ∧ 0 ≤ i' ∧ i' ≤ b.length := by
  unfold spec_l01Byte.f
  by_cases hi : i < (b.length : Int)
  · rw [if_pos hi, if_pos h0, w64 (x := i + 1) (by omega) (by omega)]
    exact ⟨_, _, _, rfl, and255 _, by omega, by omega⟩
  · rw [if_neg hi]
    exact ⟨_, _, _, rfl, and255 _, by omega, by omega⟩
theorem below_eq (b : List Int) (i h n : Int) (h0 : 0 ≤ i) (h1 : i ≤ b.length) (hb : b.length ≤ 9223372036854775807) (hn : 0 < n) : ∃ v i' h', spec_l01Below.f b i h n = some (v, i', h') ∧ (0 ≤ v ∧ v < n) ∧ 0 ≤ i' ∧ i' ≤ b.length := by
  unfold spec_l01Below.f
  rw [if_neg (by omega)]
  obtain ⟨v, i1, g1, e1, ⟨v0, v1⟩, a1, b1⟩ := byte_eq b i h h0 h1 hb
  rw [e1]
  by_cases hs : n ≤ 256
  · rw [if_pos hs, Option.bind_some, if_neg (by omega)]
    exact ⟨_, _, _, rfl, ⟨Int.tmod_nonneg _ v0, Int.tmod_lt_of_pos _ hn⟩, a1, b1⟩
  · rw [if_neg hs, Option.bind_some]
    obtain ⟨y, i2, g2, e2, ⟨y0, y1⟩, a2, b2⟩ := byte_eq b i1 g1 a1 b1 hb
    obtain ⟨z, i3, g3, e3, ⟨z0, z1⟩, a3, b3⟩ := byte_eq b i2 g2 a2 b2 hb
    obtain ⟨u, i4, g4, e4, ⟨u0, u1⟩, a4, b4⟩ := byte_eq b i3 g3 a3 b3 hb
    simp only [e2, e3, e4, Option.bind_some]
    rw [if_neg (by omega), w64 (x := v * 16777216) (by omega) (by omega), w64 (x := y * 65536) (by omega) (by omega), w64 (x := v * 16777216 + y * 65536) (by omega) (by omega), w64 (x := z * 256) (by omega) (by omega), w64 (x := v * 16777216 + y * 65536 + z * 256) (by omega) (by omega), w64 (x := v * 16777216 + y * 65536 + z * 256 + u) (by omega) (by omega)]
    exact ⟨_, _, _, rfl, ⟨Int.tmod_nonneg _ (by omega), Int.tmod_lt_of_pos _ hn⟩, a4, b4⟩
theorem new_ev (b : List Int) (hb : b.length ≤ 9223372036854775807) : ∃ h, Ev (fun k => spec_l01New.f k b) (b, 0, h) := by
  unfold spec_l01New.f
  have main : ∀ (d i : Nat) (h : Int), i + d = b.length → ∃ g, Ev (fun k => spec_l01New.l0 k b h (i : Int)) (b, 0, g) := by
    intro d
    induction d with
    | zero => intro i h hi; exact ⟨h, ev_some fun k => by simp only [spec_l01New.l0]; rw [if_neg (by omega)]⟩
    | succ d ih =>
      intro i h hi
      by_cases hf : (i : Int) < 4000
      · obtain ⟨g, hg⟩ := ih (i + 1) (Go.bits .and .i64 (wrap64 ((wrap64 ((wrap64 (h * 131)) + (wrap64 (rd b (i : Int))))) + 7)) 1073741823) (by omega)
        refine ⟨g, Ev.step (fun k => ?_) hg⟩
        simp only [spec_l01New.l0]
        rw [if_pos (by omega), if_pos hf, if_pos (by omega), wsucc (n := b.length) (by omega) hb]
      · exact ⟨h, ev_some fun k => by simp only [spec_l01New.l0]; rw [if_pos (by omega), if_neg hf]⟩
  exact main b.length 0 _ (by omega)
end Go.Proofs.Ytodokejcmbjpbaa.Pu

/- The reference's draws of records, of their bytes, and of bytes that are spoilt. -/
namespace Go.Proofs.Ytodokejcmbjpbaa.Pu
open Go.RowKit Go.Proofs.Ytodokejcmbjpbaa.PK Go.Proofs.YtodokejcmbjpbaaW.PrintWords
theorem pick_eq (b : List Int) (i h : Int) (l : List Int) (h0 : 0 ≤ i) (h1 : i ≤ b.length) (hb : b.length ≤ 9223372036854775807) (hl : 1 ≤ l.length) : ∃ v i' h', spec_l01PickInt.f b i h l = some (v, i', h') ∧ v ∈ l ∧ 0 ≤ i' ∧ i' ≤ b.length := by
  obtain ⟨v, j, g, e, ⟨v0, v1⟩, a1, b1⟩ := below_eq b i h (l.length : Int) h0 h1 hb (by omega)
  unfold spec_l01PickInt.f
  rw [e, Option.bind_some, if_pos v0, if_pos v1]
  exact ⟨_, _, _, rfl, getD_mem' (by omega), a1, b1⟩
theorem once_eq (b : List Int) (i h n : Int) (h0 : 0 ≤ i) (h1 : i ≤ b.length) (hb : b.length ≤ 9223372036854775807) (hn : 0 < n) : ∃ v i' h', spec_l01Once.f b i h n = some (v, i', h') ∧ 0 ≤ i' ∧ i' ≤ b.length := by
  obtain ⟨v, j, g, e, _, a1, b1⟩ := below_eq b i h n h0 h1 hb hn
  unfold spec_l01Once.f
  rw [e, Option.bind_some]
  exact ⟨_, _, _, rfl, a1, b1⟩
theorem rec_draw (b : List Int) (i h : Int) (h0 : 0 ≤ i) (h1 : i ≤ b.length) (hb : b.length ≤ 9223372036854775807) : ∃ t v a c i' h', spec_l09Rec.f b i h = some (t, v, a, c, i', h') ∧ (recOk t v a c = true ∧ a ≤ 15 ∧ c ≤ 9) ∧ 0 ≤ i' ∧ i' ≤ b.length := by
  unfold spec_l09Rec.f
  obtain ⟨t, i1, g1, e1, t1, a1, b1⟩ := pick_eq b i h [2, 2, 3, 4, 4, 4, 4, 4, 5] h0 h1 hb (by decide)
  obtain ⟨v, i2, g2, e2, ⟨v0, v1⟩, a2, b2⟩ := below_eq b i1 g1 3 a1 b1 hb (by omega)
  rw [e1, Option.bind_some]
  simp only
  rw [e2, Option.bind_some]
  simp only
  have ht : t = 2 ∨ t = 3 ∨ t = 4 ∨ t = 5 := by simp at t1; omega
  rw [w64 (x := 1 + v) (by omega) (by omega)]
  by_cases k2 : t = 2
  · obtain ⟨x, i3, g3, e3, x1, a3, b3⟩ := pick_eq b i2 g2 [0, 0, 1, 2] a2 b2 hb (by decide)
    have hx : x = 0 ∨ x = 1 ∨ x = 2 := by simp at x1; omega
    rw [if_pos k2, e3]
    exact ⟨_, _, _, _, _, _, rfl, ⟨by unfold recOk; rw [decide_eq_true_eq]; omega, by omega, by omega⟩, a3, b3⟩
  · rw [if_neg k2]
    by_cases k4 : t = 4
    · obtain ⟨x, i3, g3, e3, ⟨x0, x1⟩, a3, b3⟩ := below_eq b i2 g2 16 a2 b2 hb (by omega)
      obtain ⟨y, i4, g4, e4, ⟨y0, y1⟩, a4, b4⟩ := below_eq b i3 g3 9 a3 b3 hb (by omega)
      rw [if_pos k4, e3, Option.bind_some]
      simp only
      rw [e4, Option.bind_some]
      simp only
      rw [w64 (x := 1 + y) (by omega) (by omega)]
      exact ⟨_, _, _, _, _, _, rfl, ⟨by unfold recOk; rw [decide_eq_true_eq]; omega, by omega, by omega⟩, a4, b4⟩
    · rw [if_neg k4]
      by_cases k5 : t = 5
      · obtain ⟨x, i3, g3, e3, ⟨x0, x1⟩, a3, b3⟩ := below_eq b i2 g2 16 a2 b2 hb (by omega)
        rw [if_pos k5, e3]
        exact ⟨_, _, _, _, _, _, rfl, ⟨by unfold recOk; rw [decide_eq_true_eq]; omega, by omega, by omega⟩, a3, b3⟩
      · rw [if_neg k5]
        exact ⟨_, _, _, _, _, _, rfl, ⟨by unfold recOk; rw [decide_eq_true_eq]; omega, by omega, by omega⟩, a2, b2⟩
theorem recs_draw (b : List Int) (i h : Int) (h0 : 0 ≤ i) (h1 : i ≤ b.length) (hb : b.length ≤ 9223372036854775807) : ∃ L i' h', Ev (fun k => spec_l09Recs.f k b i h) (L, i', h') ∧ (∀ x ∈ L, okR x = true ∧ x.f2 ≤ 15 ∧ x.f3 ≤ 9) ∧ L.length ≤ 8 ∧ 0 ≤ i' ∧ i' ≤ b.length := by
  unfold spec_l09Recs.f
  have main : ∀ (d m : Nat) (acc : List S45) (j g : Int), m + d = 8 → acc.length = m → (∀ x ∈ acc, okR x = true ∧ x.f2 ≤ 15 ∧ x.f3 ≤ 9) → 0 ≤ j → j ≤ b.length → ∃ L i' h', Ev (fun k => spec_l09Recs.l0 k acc (m : Int) b j g) (L, i', h') ∧ (∀ x ∈ L, okR x = true ∧ x.f2 ≤ 15 ∧ x.f3 ≤ 9) ∧ L.length ≤ 8 ∧ 0 ≤ i' ∧ i' ≤ b.length := by
    intro d
    induction d with
    | zero =>
      intro m acc j g hm hl ha hj0 hj1
      obtain ⟨v, j2, g2, e2, ⟨v0, v1⟩, a2, b2⟩ := below_eq b j g 9 hj0 hj1 hb (by omega)
      refine ⟨acc, j2, g2, ev_some fun k => ?_, ha, by omega, a2, b2⟩
      simp only [spec_l09Recs.l0, e2, Option.bind_some]
      rw [if_neg (by omega)]
    | succ d ih =>
      intro m acc j g hm hl ha hj0 hj1
      obtain ⟨v, j2, g2, e2, ⟨v0, v1⟩, a2, b2⟩ := below_eq b j g 9 hj0 hj1 hb (by omega)
      by_cases hv : (m : Int) < v
      · obtain ⟨t, x, a, c, j3, g3, e3, ok, a3, b3⟩ := rec_draw b j2 g2 a2 b2 hb
        obtain ⟨L, i', h', l1, l2, l3, l4, l5⟩ := ih (m + 1) (acc ++ [⟨t, x, a, c⟩]) j3 g3 (by omega) (by simp; omega) (fun y hy => by
          rcases List.mem_append.1 hy with hy | hy
          · exact ha y hy
          · obtain rfl := List.mem_singleton.1 hy; exact ok) a3 b3
        refine ⟨L, i', h', Ev.step (fun k => ?_) l1, l2, l3, l4, l5⟩
        simp only [spec_l09Recs.l0, e2, e3, Option.bind_some]
        rw [if_pos hv, if_pos (by omega), wsucc (n := 8) (by omega) (by omega)]
      · refine ⟨acc, j2, g2, ev_some fun k => ?_, ha, by omega, a2, b2⟩
        simp only [spec_l09Recs.l0, e2, Option.bind_some]
        rw [if_neg hv]
  exact main 8 0 [] i h rfl rfl (fun x hx => by cases hx) h0 h1
theorem records_draw' (b : List Int) (hb : b.length ≤ 9223372036854775807) : ∃ L, Ev (fun k => spec_DrawRecords.f k b) L ∧ (∀ x ∈ L, okR x = true ∧ x.f2 ≤ 15 ∧ x.f3 ≤ 9) ∧ L.length ≤ 8 := by
  unfold spec_DrawRecords.f
  obtain ⟨g0, hnew⟩ := new_ev b hb
  obtain ⟨L, i1, g1, l1, l2, l3, _⟩ := recs_draw b 0 g0 (by omega) (by omega) hb
  exact ⟨L, ev_bind hnew (ev_bind l1 (Ev.now _)), l2, l3⟩
theorem many_draw (b : List Int) (hb : b.length ≤ 9223372036854775807) : ∃ L, Ev (fun k => spec_DrawManyRecords.f k b) L ∧ (∀ x ∈ L, okR x = true ∧ x.f2 ≤ 15 ∧ x.f3 ≤ 300) ∧ L.length ≤ 120 := by
  unfold spec_DrawManyRecords.f
  obtain ⟨g0, hnew⟩ := new_ev b hb
  obtain ⟨L, i1, g1, l1, l2, l3, a1, b1⟩ := recs_draw b 0 g0 (by omega) (by omega) hb
  obtain ⟨v, i2, g2, e2, a2, b2⟩ := once_eq b i1 g1 2 a1 b1 hb (by omega)
  have hL : ∀ x ∈ L, okR x = true ∧ x.f2 ≤ 15 ∧ x.f3 ≤ 300 := fun x hx => ⟨(l2 x hx).1, (l2 x hx).2.1, by have := (l2 x hx).2.2; omega⟩
  cases v with
  | false =>
    refine ⟨L, ev_bind hnew (ev_bind l1 ?_), hL, by omega⟩
    simp only [e2, Option.bind_some, Bool.false_eq_true, if_false]
    exact Ev.now _
  | true =>
    have main : ∀ (d : Nat) (acc : List S45) (j g : Int), acc.length + d = 120 → (∀ x ∈ acc, okR x = true ∧ x.f2 ≤ 15 ∧ x.f3 ≤ 300) → 0 ≤ j → j ≤ b.length → ∃ L', Ev (fun k => spec_DrawManyRecords.l0 k acc b j g) L' ∧ (∀ x ∈ L', okR x = true ∧ x.f2 ≤ 15 ∧ x.f3 ≤ 300) ∧ L'.length ≤ 120 := by
      intro d
      induction d with
      | zero =>
        intro acc j g hl ha hj0 hj1
        obtain ⟨x, j2, g3, e3, ⟨x0, x1⟩, _⟩ := below_eq b j g 90 hj0 hj1 hb (by omega)
        refine ⟨acc, ev_some fun k => ?_, ha, by omega⟩
        simp only [spec_DrawManyRecords.l0, e3, Option.bind_some]
        rw [w64 (x := 30 + x) (by omega) (by omega), if_neg (by omega)]
      | succ d ih =>
        intro acc j g hl ha hj0 hj1
        obtain ⟨x, j2, g3, e3, ⟨x0, x1⟩, a3, b3⟩ := below_eq b j g 90 hj0 hj1 hb (by omega)
        by_cases hx : (acc.length : Int) < 30 + x
        · obtain ⟨L', m1, m2, m3⟩ := ih (acc ++ [⟨4, 1 + ((acc.length : Int) % 3), (acc.length : Int) % 16, 100 + (acc.length : Int)⟩]) j2 g3 (by simp; omega) (fun y hy => by
            rcases List.mem_append.1 hy with hy | hy
            · exact ha y hy
            · obtain rfl := List.mem_singleton.1 hy
              refine ⟨?_, by show (acc.length : Int) % 16 ≤ 15; omega, by show 100 + (acc.length : Int) ≤ 300; omega⟩
              show recOk 4 (1 + ((acc.length : Int) % 3)) ((acc.length : Int) % 16) (100 + (acc.length : Int)) = true
              unfold recOk
              rw [decide_eq_true_eq]
              omega) a3 b3
          refine ⟨L', Ev.step (fun k => ?_) m1, m2, m3⟩
          simp only [spec_DrawManyRecords.l0, e3, Option.bind_some]
          rw [w64 (x := 30 + x) (by omega) (by omega), if_pos hx, if_pos (by omega), w64 (x := 100 + (acc.length : Int)) (by omega) (by omega)]
        · refine ⟨acc, ev_some fun k => ?_, ha, by omega⟩
          simp only [spec_DrawManyRecords.l0, e3, Option.bind_some]
          rw [w64 (x := 30 + x) (by omega) (by omega), if_neg hx]
    obtain ⟨L', m1, m2, m3⟩ := main (120 - L.length) L i2 g2 (by omega) hL a2 b2
    refine ⟨L', ev_bind hnew (ev_bind l1 ?_), m2, m3⟩
    simp only [e2, Option.bind_some, if_true]
    exact m1
theorem records_draw (b : List Int) (hb : b.length ≤ 9223372036854775807) : ∃ L, Ev (fun k => spec_DrawRecords.f k b) L ∧ (∀ x ∈ L, okR x = true) ∧ L.length ≤ 8 := by
  obtain ⟨L, l1, l2, l3⟩ := records_draw' b hb
  exact ⟨L, l1, fun x hx => (l2 x hx).1, l3⟩
end Go.Proofs.Ytodokejcmbjpbaa.Pu

/- Marks: what a row's places are marked with is held there again, and the count goes on alike. -/
namespace Go.Proofs.Ytodokejcmbjpbaa.Pu
open Go.RowKit Go.Proofs.Ytodokejcmbjpbaa.PK Go.Proofs.YtodokejcmbjpbaaW.PrintWords
theorem getD_set_self {α : Type} {xs : List α} {i : Nat} {x z : α} (h : i < xs.length) : (xs.set i x).getD i z = x := by
  rw [List.getD_eq_getElem?_getD, List.getElem?_set_self h]; rfl
theorem getD_set_ne {α : Type} {xs : List α} {i j : Nat} {x z : α} (h : i ≠ j) : (xs.set i x).getD j z = xs.getD j z := by
  rw [List.getD_eq_getElem?_getD, List.getD_eq_getElem?_getD, List.getElem?_set_ne h]
/-- A row that is marked place by place, and held so. -/
theorem ev_mark {α : Type} (z : α) {L : Nat → List α → Int → Int → Option (Int × List α)} {Hd : Nat → List α → Int → Int → Option Int} (E : Nat → α → Int → Option (Int × α)) (G : Nat → α → Int → Option Int) (c : Int) (P : α → Prop)
    (hL : ∀ k (xs : List α) (a : Int) (i : Nat), i < xs.length → 0 ≤ a → a + c ≤ 4611686018427387904 → L (k + 1) xs a (i : Int) = (E k (xs.getD i z) a).bind fun b => L k (xs.set i b.2) b.1 (wrap64 ((i : Int) + 1)))
    (hL0 : ∀ k (xs : List α) (a : Int) (i : Nat), xs.length ≤ i → L (k + 1) xs a (i : Int) = some (a, xs))
    (hH : ∀ k (xs : List α) (a : Int) (i : Nat), i < xs.length → 0 ≤ a → a + c ≤ 4611686018427387904 → Hd (k + 1) xs a (i : Int) = (G k (xs.getD i z) a).bind fun t => if t < 0 then some (-1) else Hd k xs t (wrap64 ((i : Int) + 1)))
    (hH0 : ∀ k (xs : List α) (a : Int) (i : Nat), xs.length ≤ i → Hd (k + 1) xs a (i : Int) = some a)
    (hc : 0 ≤ c)
    (hE : ∀ x a, P x → 0 ≤ a → a + c ≤ 4611686018427387904 → ∃ a' x', Ev (fun k => E k x a) (a', x') ∧ Ev (fun k => G k x' a) a' ∧ a ≤ a' ∧ a' ≤ a + c) :
    ∀ (d i : Nat) (xs : List α) (a : Int), i + d = xs.length → xs.length ≤ 9223372036854775807 → (∀ j, i ≤ j → j < xs.length → P (xs.getD j z)) → 0 ≤ a → a + d * c ≤ 4611686018427387904 →
      ∃ a' xs', xs'.length = xs.length ∧ (∀ j, j < i → xs'.getD j z = xs.getD j z) ∧ Ev (fun k => L k xs a (i : Int)) (a', xs') ∧ Ev (fun k => Hd k xs' a (i : Int)) a' ∧ a ≤ a' ∧ a' ≤ a + d * c := by
  intro d
  induction d with
  | zero =>
    intro i xs a hi hn hP ha hM
    exact ⟨a, xs, rfl, fun _ _ => rfl, ev_some fun k => hL0 k xs a i (by omega), ev_some fun k => hH0 k xs a i (by omega), Int.le_refl _, by simp⟩
  | succ d ih =>
    intro i xs a hi hn hP ha hM
    have hdc : 0 ≤ (d : Int) * c := Int.mul_nonneg (by omega) hc
    have hds : ((d + 1 : Nat) : Int) * c = (d : Int) * c + c := by rw [Int.natCast_add, Int.add_mul]; simp
    rw [hds] at hM
    obtain ⟨a1, x1, hE1, hG1, h1, h2⟩ := hE (xs.getD i z) a (hP i (Nat.le_refl _) (by omega)) ha (by omega)
    have hlen : (xs.set i x1).length = xs.length := List.length_set
    obtain ⟨a', xs', hl', hb', hL', hH', h3, h4⟩ := ih (i + 1) (xs.set i x1) a1 (by rw [hlen]; omega) (by rw [hlen]; exact hn) (fun j hj hj2 => by
      rw [hlen] at hj2
      rw [getD_set_ne (by omega)]
      exact hP j (by omega) hj2) (by omega) (by omega)
    have hxi : xs'.getD i z = x1 := by rw [hb' i (by omega), getD_set_self (by omega)]
    refine ⟨a', xs', by rw [hl', hlen], fun j hj => by rw [hb' j (by omega), getD_set_ne (by omega)], ?_, ?_, by omega, by rw [hds]; omega⟩
    · refine Ev.step (fun k => hL k xs a i (by omega) ha (by omega)) (ev_bind hE1 ?_)
      simp only [wsucc (n := xs.length) (i := i) (by omega) hn]
      exact hL'
    · refine Ev.step (fun k => hH k xs' a i (by rw [hl', hlen]; omega) ha (by omega)) ?_
      rw [hxi]
      refine ev_bind hG1 ?_
      simp only [if_neg (show ¬ a1 < 0 by omega), wsucc (n := xs.length) (i := i) (by omega) hn]
      exact hH'

/-- A row that is marked place by place. -/
theorem ev_mark1 {α : Type} (z : α) {L : Nat → List α → Int → Int → Option (Int × List α)} (E : Nat → α → Int → Option (Int × α)) (c : Int)
    (hL : ∀ k (xs : List α) (a : Int) (i : Nat), i < xs.length → 0 ≤ a → a + c ≤ 4611686018427387904 → L (k + 1) xs a (i : Int) = (E k (xs.getD i z) a).bind fun b => L k (xs.set i b.2) b.1 (wrap64 ((i : Int) + 1)))
    (hL0 : ∀ k (xs : List α) (a : Int) (i : Nat), xs.length ≤ i → L (k + 1) xs a (i : Int) = some (a, xs)) (hc : 0 ≤ c)
    (hE : ∀ x a, 0 ≤ a → a + c ≤ 4611686018427387904 → ∃ a' x', Ev (fun k => E k x a) (a', x') ∧ a ≤ a' ∧ a' ≤ a + c) :
    ∀ (d i : Nat) (xs : List α) (a : Int), i + d = xs.length → xs.length ≤ 9223372036854775807 → 0 ≤ a → a + d * c ≤ 4611686018427387904 →
      ∃ a' xs', Ev (fun k => L k xs a (i : Int)) (a', xs') ∧ a ≤ a' ∧ a' ≤ a + d * c := by
  intro d
  induction d with
  | zero =>
    intro i xs a hi hn ha hM
    exact ⟨a, xs, ev_some fun k => hL0 k xs a i (by omega), Int.le_refl _, by simp⟩
  | succ d ih =>
    intro i xs a hi hn ha hM
    have hdc : 0 ≤ (d : Int) * c := Int.mul_nonneg (by omega) hc
    have hds : ((d + 1 : Nat) : Int) * c = (d : Int) * c + c := by rw [Int.natCast_add, Int.add_mul]; simp
    rw [hds] at hM
    obtain ⟨a1, x1, hE1, h1, h2⟩ := hE (xs.getD i z) a ha (by omega)
    have hlen : (xs.set i x1).length = xs.length := List.length_set
    obtain ⟨a', xs', hL', h3, h4⟩ := ih (i + 1) (xs.set i x1) a1 (by rw [hlen]; omega) (by rw [hlen]; exact hn) (by omega) (by omega)
    refine ⟨a', xs', ?_, by omega, by rw [hds]; omega⟩
    refine Ev.step (fun k => hL k xs a i (by omega) ha (by omega)) (ev_bind hE1 ?_)
    simp only [wsucc (n := xs.length) (i := i) (by omega) hn]
    exact hL'

end Go.Proofs.Ytodokejcmbjpbaa.Pu

namespace Go.Proofs.Ytodokejcmbjpbaa.PK
open Go.RowKit Go.Proofs.YtodokejcmbjpbaaW.PrintWords Go.Proofs.YtodokejcmbjpbaaW.PrintLast Go.Proofs.YtodokejcmbjpbaaW.PrintMore
attribute [local go_sem] max2_int min2_int max_two min_two max_three min_three max_four min_four
def laws_eqRec.f (a0_0 : Int) (a0_1 : Int) (a0_2 : Int) (a0_3 : Int) (a1_0 : Int) (a1_1 : Int) (a1_2 : Int) (a1_3 : Int) : Option (Bool):=if a0_0 = a1_0 then (if a0_1 = a1_1 then (if a0_2 = a1_2 then (if a0_3 = a1_3 then (some true) else (some false)) else (some false)) else (some false)) else (some false)
set_option maxHeartbeats 8000000 in
set_option maxRecDepth 100000 in
theorem laws_eqRec.calls (a0_0 : Int) (a0_1 : Int) (a0_2 : Int) (a0_3 : Int) (a1_0 : Int) (a1_1 : Int) (a1_2 : Int) (a1_3 : Int) (r : Bool) (w : World) (h : laws_eqRec.f a0_0 a0_1 a0_2 a0_3 a1_0 a1_1 a1_2 a1_3 = some r) :
  Calls Try.prog 68 #[.agg #[.int .i64 a0_0,.int .i64 a0_1,.int .i64 a0_2,.int .i64 a0_3],.agg #[.int .i64 a1_0,.int .i64 a1_1,.int .i64 a1_2,.int .i64 a1_3]] w fun e w'=>e = .returned (.bool r) ∧ Below w.heap.size w w':=by
 have hu45:=Try.underlying45;have HB:=zMk (Below.refl w.heap.size w);have H : (if a0_0 = a1_0 then (if a0_1 = a1_1 then (if a0_2 = a1_2 then (if a0_3 = a1_3 then (some true) else (some false)) else (some false)) else (some false)) else (some false)) = some r:=h;clear h
 by_cases c3 : a0_0 = a1_0
 ·rw [if_pos c3] at H;have c3b0 : (a0_0 == a1_0) = true:=beq_iff_eq.mpr c3;have c3b1 : (a0_0 != a1_0) = false:=bne_eq_false_iff_eq.mpr c3;clear c3
  by_cases c4 : a0_1 = a1_1
  ·rw [if_pos c4] at H;have c4b0 : (a0_1 == a1_1) = true:=beq_iff_eq.mpr c4;have c4b1 : (a0_1 != a1_1) = false:=bne_eq_false_iff_eq.mpr c4;clear c4
   by_cases c5 : a0_2 = a1_2
   ·rw [if_pos c5] at H;have c5b0 : (a0_2 == a1_2) = true:=beq_iff_eq.mpr c5;have c5b1 : (a0_2 != a1_2) = false:=bne_eq_false_iff_eq.mpr c5;clear c5
    by_cases c6 : a0_3 = a1_3
    ·rw [if_pos c6] at H;have c6b0 : (a0_3 == a1_3) = true:=beq_iff_eq.mpr c6;have c6b1 : (a0_3 != a1_3) = false:=bne_eq_false_iff_eq.mpr c6;clear c6;obtain rfl:=Option.some.inj H
     go_enter Try.func68,Try.ntmps68
     go_wp2_with (first | ((with_reducible refine gate_dst (N:=2) rfl ?_);refine box_event ?hg (N:=2) ?hd (cs:=#[.int .i64 a0_0,.int .i64 a0_1,.int .i64 a0_2,.int .i64 a0_3]) (t:=45) ?hr ?_;(case hd=>rfl);(case hg=>rfl);(case hr=>first | (go_simp;done) | (go_simp;rfl));intro gb790 hg w7 hbox hb;have n0_:=zMk (below_step (hs HB) hb);have n1_:=zMk (hbox);have n2_:=zMk ((by rw [hg];exact (below_size (hs HB)) : w.heap.size ≤ gb790));have n3_:=zMk ((by rw [hg];exact (below_size (hs HB)) : w.heap.size ≤ gb790));clear HB;have HB:=n0_;have BK790:=n1_;have GW790:=n2_;have GE790:=n3_;clear n0_ n1_ n2_ n3_;clear hb hbox hg) | ((with_reducible refine gate_dst (N:=3) rfl ?_);refine box_event ?hg (N:=3) ?hd (cs:=#[.int .i64 a1_0,.int .i64 a1_1,.int .i64 a1_2,.int .i64 a1_3]) (t:=45) ?hr ?_;(case hd=>rfl);(case hg=>rfl);(case hr=>first | (go_simp;done) | (go_simp;rfl));intro gb791 hg w8 hbox hb;have n0_:=zMk (blk_below (g:=gb790) (o:=.cells #[.int .i64 a0_0,.int .i64 a0_1,.int .i64 a0_2,.int .i64 a0_3] 45 (0,0)) (bs BK790) hb);have n1_:=zMk (below_step (hs1 HB GE790) hb);have n2_:=zMk (hbox);have n3_:=zMk ((by rw [hg];exact (below_size (hs1 HB GE790)) : w.heap.size ≤ gb791));have n4_:=zMk ((by rw [hg];exact (below_size (hs1 HB GE790)) : w.heap.size ≤ gb791));have n5_:=zMk ((by rw [hg];exact Nat.ne_of_lt (blk_lt (g:=gb790) (o:=.cells #[.int .i64 a0_0,.int .i64 a0_1,.int .i64 a0_2,.int .i64 a0_3] 45 (0,0)) (bs BK790)) : gb790 ≠ gb791));have n6_:=zMk ((by rw [hg];exact Nat.ne_of_gt (blk_lt (g:=gb790) (o:=.cells #[.int .i64 a0_0,.int .i64 a0_1,.int .i64 a0_2,.int .i64 a0_3] 45 (0,0)) (bs BK790)) : gb791 ≠ gb790));clear BK790;clear HB;have BK790:=n0_;have HB:=n1_;have BK791:=n2_;have GW791:=n3_;have GE791:=n4_;have NB790_791:=n5_;have NB791_790:=n6_;clear n0_ n1_ n2_ n3_ n4_ n5_ n6_;clear hb hbox hg;have hnb9:=NB790_791.out;have hnc9:=NB791_790.out;have hcz10_0 : w8.cell? ⟨gb790,0,none⟩ = some (.int .i64 a0_0):=(zCl BK790.out 0).trans rfl;have hcz10_1 : w8.cell? ⟨gb790,1,none⟩ = some (.int .i64 a0_1):=(zCl BK790.out 1).trans rfl;have hcz10_2 : w8.cell? ⟨gb790,2,none⟩ = some (.int .i64 a0_2):=(zCl BK790.out 2).trans rfl;have hcz10_3 : w8.cell? ⟨gb790,3,none⟩ = some (.int .i64 a0_3):=(zCl BK790.out 3).trans rfl;have hfz10_0:=zFr BK790.out 0;have hfz10_1:=zFr BK790.out 1;have hfz10_2:=zFr BK790.out 2;have hfz10_3:=zFr BK790.out 3;have hcz11_0 : w8.cell? ⟨gb791,0,none⟩ = some (.int .i64 a1_0):=(zCl BK791.out 0).trans rfl;have hcz11_1 : w8.cell? ⟨gb791,1,none⟩ = some (.int .i64 a1_1):=(zCl BK791.out 1).trans rfl;have hcz11_2 : w8.cell? ⟨gb791,2,none⟩ = some (.int .i64 a1_2):=(zCl BK791.out 2).trans rfl;have hcz11_3 : w8.cell? ⟨gb791,3,none⟩ = some (.int .i64 a1_3):=(zCl BK791.out 3).trans rfl;have hfz11_0:=zFr BK791.out 0;have hfz11_1:=zFr BK791.out 1;have hfz11_2:=zFr BK791.out 2;have hfz11_3:=zFr BK791.out 3))
     go_ret
     exact ⟨by first | rfl | (simp [errW_none,errW_some] <;> rfl) | (simp [*,errW_none,errW_some] <;> rfl),hs2 HB GE790 GE791⟩
    rw [if_neg c6] at H;have c6b0 : (a0_3 == a1_3) = false:=beq_eq_false_iff_ne.mpr c6;have c6b1 : (a0_3 != a1_3) = true:=bne_iff_ne.mpr c6;obtain rfl:=Option.some.inj H
    go_enter Try.func68,Try.ntmps68
    go_wp2_with (first | ((with_reducible refine gate_dst (N:=2) rfl ?_);refine box_event ?hg (N:=2) ?hd (cs:=#[.int .i64 a0_0,.int .i64 a0_1,.int .i64 a0_2,.int .i64 a0_3]) (t:=45) ?hr ?_;(case hd=>rfl);(case hg=>rfl);(case hr=>first | (go_simp;done) | (go_simp;rfl));intro gb790 hg w12 hbox hb;have n0_:=zMk (below_step (hs HB) hb);have n1_:=zMk (hbox);have n2_:=zMk ((by rw [hg];exact (below_size (hs HB)) : w.heap.size ≤ gb790));have n3_:=zMk ((by rw [hg];exact (below_size (hs HB)) : w.heap.size ≤ gb790));clear HB;have HB:=n0_;have BK790:=n1_;have GW790:=n2_;have GE790:=n3_;clear n0_ n1_ n2_ n3_;clear hb hbox hg) | ((with_reducible refine gate_dst (N:=3) rfl ?_);refine box_event ?hg (N:=3) ?hd (cs:=#[.int .i64 a1_0,.int .i64 a1_1,.int .i64 a1_2,.int .i64 a1_3]) (t:=45) ?hr ?_;(case hd=>rfl);(case hg=>rfl);(case hr=>first | (go_simp;done) | (go_simp;rfl));intro gb791 hg w13 hbox hb;have n0_:=zMk (blk_below (g:=gb790) (o:=.cells #[.int .i64 a0_0,.int .i64 a0_1,.int .i64 a0_2,.int .i64 a0_3] 45 (0,0)) (bs BK790) hb);have n1_:=zMk (below_step (hs1 HB GE790) hb);have n2_:=zMk (hbox);have n3_:=zMk ((by rw [hg];exact (below_size (hs1 HB GE790)) : w.heap.size ≤ gb791));have n4_:=zMk ((by rw [hg];exact (below_size (hs1 HB GE790)) : w.heap.size ≤ gb791));have n5_:=zMk ((by rw [hg];exact Nat.ne_of_lt (blk_lt (g:=gb790) (o:=.cells #[.int .i64 a0_0,.int .i64 a0_1,.int .i64 a0_2,.int .i64 a0_3] 45 (0,0)) (bs BK790)) : gb790 ≠ gb791));have n6_:=zMk ((by rw [hg];exact Nat.ne_of_gt (blk_lt (g:=gb790) (o:=.cells #[.int .i64 a0_0,.int .i64 a0_1,.int .i64 a0_2,.int .i64 a0_3] 45 (0,0)) (bs BK790)) : gb791 ≠ gb790));clear BK790;clear HB;have BK790:=n0_;have HB:=n1_;have BK791:=n2_;have GW791:=n3_;have GE791:=n4_;have NB790_791:=n5_;have NB791_790:=n6_;clear n0_ n1_ n2_ n3_ n4_ n5_ n6_;clear hb hbox hg;have hnb14:=NB790_791.out;have hnc14:=NB791_790.out;have hcz15_0 : w13.cell? ⟨gb790,0,none⟩ = some (.int .i64 a0_0):=(zCl BK790.out 0).trans rfl;have hcz15_1 : w13.cell? ⟨gb790,1,none⟩ = some (.int .i64 a0_1):=(zCl BK790.out 1).trans rfl;have hcz15_2 : w13.cell? ⟨gb790,2,none⟩ = some (.int .i64 a0_2):=(zCl BK790.out 2).trans rfl;have hcz15_3 : w13.cell? ⟨gb790,3,none⟩ = some (.int .i64 a0_3):=(zCl BK790.out 3).trans rfl;have hfz15_0:=zFr BK790.out 0;have hfz15_1:=zFr BK790.out 1;have hfz15_2:=zFr BK790.out 2;have hfz15_3:=zFr BK790.out 3;have hcz16_0 : w13.cell? ⟨gb791,0,none⟩ = some (.int .i64 a1_0):=(zCl BK791.out 0).trans rfl;have hcz16_1 : w13.cell? ⟨gb791,1,none⟩ = some (.int .i64 a1_1):=(zCl BK791.out 1).trans rfl;have hcz16_2 : w13.cell? ⟨gb791,2,none⟩ = some (.int .i64 a1_2):=(zCl BK791.out 2).trans rfl;have hcz16_3 : w13.cell? ⟨gb791,3,none⟩ = some (.int .i64 a1_3):=(zCl BK791.out 3).trans rfl;have hfz16_0:=zFr BK791.out 0;have hfz16_1:=zFr BK791.out 1;have hfz16_2:=zFr BK791.out 2;have hfz16_3:=zFr BK791.out 3))
    go_ret
    exact ⟨by first | rfl | (simp [errW_none,errW_some] <;> rfl) | (simp [*,errW_none,errW_some] <;> rfl),hs2 HB GE790 GE791⟩
   rw [if_neg c5] at H;have c5b0 : (a0_2 == a1_2) = false:=beq_eq_false_iff_ne.mpr c5;have c5b1 : (a0_2 != a1_2) = true:=bne_iff_ne.mpr c5;obtain rfl:=Option.some.inj H
   go_enter Try.func68,Try.ntmps68
   go_wp2_with (first | ((with_reducible refine gate_dst (N:=2) rfl ?_);refine box_event ?hg (N:=2) ?hd (cs:=#[.int .i64 a0_0,.int .i64 a0_1,.int .i64 a0_2,.int .i64 a0_3]) (t:=45) ?hr ?_;(case hd=>rfl);(case hg=>rfl);(case hr=>first | (go_simp;done) | (go_simp;rfl));intro gb790 hg w17 hbox hb;have n0_:=zMk (below_step (hs HB) hb);have n1_:=zMk (hbox);have n2_:=zMk ((by rw [hg];exact (below_size (hs HB)) : w.heap.size ≤ gb790));have n3_:=zMk ((by rw [hg];exact (below_size (hs HB)) : w.heap.size ≤ gb790));clear HB;have HB:=n0_;have BK790:=n1_;have GW790:=n2_;have GE790:=n3_;clear n0_ n1_ n2_ n3_;clear hb hbox hg) | ((with_reducible refine gate_dst (N:=3) rfl ?_);refine box_event ?hg (N:=3) ?hd (cs:=#[.int .i64 a1_0,.int .i64 a1_1,.int .i64 a1_2,.int .i64 a1_3]) (t:=45) ?hr ?_;(case hd=>rfl);(case hg=>rfl);(case hr=>first | (go_simp;done) | (go_simp;rfl));intro gb791 hg w18 hbox hb;have n0_:=zMk (blk_below (g:=gb790) (o:=.cells #[.int .i64 a0_0,.int .i64 a0_1,.int .i64 a0_2,.int .i64 a0_3] 45 (0,0)) (bs BK790) hb);have n1_:=zMk (below_step (hs1 HB GE790) hb);have n2_:=zMk (hbox);have n3_:=zMk ((by rw [hg];exact (below_size (hs1 HB GE790)) : w.heap.size ≤ gb791));have n4_:=zMk ((by rw [hg];exact (below_size (hs1 HB GE790)) : w.heap.size ≤ gb791));have n5_:=zMk ((by rw [hg];exact Nat.ne_of_lt (blk_lt (g:=gb790) (o:=.cells #[.int .i64 a0_0,.int .i64 a0_1,.int .i64 a0_2,.int .i64 a0_3] 45 (0,0)) (bs BK790)) : gb790 ≠ gb791));have n6_:=zMk ((by rw [hg];exact Nat.ne_of_gt (blk_lt (g:=gb790) (o:=.cells #[.int .i64 a0_0,.int .i64 a0_1,.int .i64 a0_2,.int .i64 a0_3] 45 (0,0)) (bs BK790)) : gb791 ≠ gb790));clear BK790;clear HB;have BK790:=n0_;have HB:=n1_;have BK791:=n2_;have GW791:=n3_;have GE791:=n4_;have NB790_791:=n5_;have NB791_790:=n6_;clear n0_ n1_ n2_ n3_ n4_ n5_ n6_;clear hb hbox hg;have hnb19:=NB790_791.out;have hnc19:=NB791_790.out;have hcz20_0 : w18.cell? ⟨gb790,0,none⟩ = some (.int .i64 a0_0):=(zCl BK790.out 0).trans rfl;have hcz20_1 : w18.cell? ⟨gb790,1,none⟩ = some (.int .i64 a0_1):=(zCl BK790.out 1).trans rfl;have hcz20_2 : w18.cell? ⟨gb790,2,none⟩ = some (.int .i64 a0_2):=(zCl BK790.out 2).trans rfl;have hcz20_3 : w18.cell? ⟨gb790,3,none⟩ = some (.int .i64 a0_3):=(zCl BK790.out 3).trans rfl;have hfz20_0:=zFr BK790.out 0;have hfz20_1:=zFr BK790.out 1;have hfz20_2:=zFr BK790.out 2;have hfz20_3:=zFr BK790.out 3;have hcz21_0 : w18.cell? ⟨gb791,0,none⟩ = some (.int .i64 a1_0):=(zCl BK791.out 0).trans rfl;have hcz21_1 : w18.cell? ⟨gb791,1,none⟩ = some (.int .i64 a1_1):=(zCl BK791.out 1).trans rfl;have hcz21_2 : w18.cell? ⟨gb791,2,none⟩ = some (.int .i64 a1_2):=(zCl BK791.out 2).trans rfl;have hcz21_3 : w18.cell? ⟨gb791,3,none⟩ = some (.int .i64 a1_3):=(zCl BK791.out 3).trans rfl;have hfz21_0:=zFr BK791.out 0;have hfz21_1:=zFr BK791.out 1;have hfz21_2:=zFr BK791.out 2;have hfz21_3:=zFr BK791.out 3))
   go_ret
   exact ⟨by first | rfl | (simp [errW_none,errW_some] <;> rfl) | (simp [*,errW_none,errW_some] <;> rfl),hs2 HB GE790 GE791⟩
  rw [if_neg c4] at H;have c4b0 : (a0_1 == a1_1) = false:=beq_eq_false_iff_ne.mpr c4;have c4b1 : (a0_1 != a1_1) = true:=bne_iff_ne.mpr c4;obtain rfl:=Option.some.inj H
  go_enter Try.func68,Try.ntmps68
  go_wp2_with (first | ((with_reducible refine gate_dst (N:=2) rfl ?_);refine box_event ?hg (N:=2) ?hd (cs:=#[.int .i64 a0_0,.int .i64 a0_1,.int .i64 a0_2,.int .i64 a0_3]) (t:=45) ?hr ?_;(case hd=>rfl);(case hg=>rfl);(case hr=>first | (go_simp;done) | (go_simp;rfl));intro gb790 hg w22 hbox hb;have n0_:=zMk (below_step (hs HB) hb);have n1_:=zMk (hbox);have n2_:=zMk ((by rw [hg];exact (below_size (hs HB)) : w.heap.size ≤ gb790));have n3_:=zMk ((by rw [hg];exact (below_size (hs HB)) : w.heap.size ≤ gb790));clear HB;have HB:=n0_;have BK790:=n1_;have GW790:=n2_;have GE790:=n3_;clear n0_ n1_ n2_ n3_;clear hb hbox hg) | ((with_reducible refine gate_dst (N:=3) rfl ?_);refine box_event ?hg (N:=3) ?hd (cs:=#[.int .i64 a1_0,.int .i64 a1_1,.int .i64 a1_2,.int .i64 a1_3]) (t:=45) ?hr ?_;(case hd=>rfl);(case hg=>rfl);(case hr=>first | (go_simp;done) | (go_simp;rfl));intro gb791 hg w23 hbox hb;have n0_:=zMk (blk_below (g:=gb790) (o:=.cells #[.int .i64 a0_0,.int .i64 a0_1,.int .i64 a0_2,.int .i64 a0_3] 45 (0,0)) (bs BK790) hb);have n1_:=zMk (below_step (hs1 HB GE790) hb);have n2_:=zMk (hbox);have n3_:=zMk ((by rw [hg];exact (below_size (hs1 HB GE790)) : w.heap.size ≤ gb791));have n4_:=zMk ((by rw [hg];exact (below_size (hs1 HB GE790)) : w.heap.size ≤ gb791));have n5_:=zMk ((by rw [hg];exact Nat.ne_of_lt (blk_lt (g:=gb790) (o:=.cells #[.int .i64 a0_0,.int .i64 a0_1,.int .i64 a0_2,.int .i64 a0_3] 45 (0,0)) (bs BK790)) : gb790 ≠ gb791));have n6_:=zMk ((by rw [hg];exact Nat.ne_of_gt (blk_lt (g:=gb790) (o:=.cells #[.int .i64 a0_0,.int .i64 a0_1,.int .i64 a0_2,.int .i64 a0_3] 45 (0,0)) (bs BK790)) : gb791 ≠ gb790));clear BK790;clear HB;have BK790:=n0_;have HB:=n1_;have BK791:=n2_;have GW791:=n3_;have GE791:=n4_;have NB790_791:=n5_;have NB791_790:=n6_;clear n0_ n1_ n2_ n3_ n4_ n5_ n6_;clear hb hbox hg;have hnb24:=NB790_791.out;have hnc24:=NB791_790.out;have hcz25_0 : w23.cell? ⟨gb790,0,none⟩ = some (.int .i64 a0_0):=(zCl BK790.out 0).trans rfl;have hcz25_1 : w23.cell? ⟨gb790,1,none⟩ = some (.int .i64 a0_1):=(zCl BK790.out 1).trans rfl;have hcz25_2 : w23.cell? ⟨gb790,2,none⟩ = some (.int .i64 a0_2):=(zCl BK790.out 2).trans rfl;have hcz25_3 : w23.cell? ⟨gb790,3,none⟩ = some (.int .i64 a0_3):=(zCl BK790.out 3).trans rfl;have hfz25_0:=zFr BK790.out 0;have hfz25_1:=zFr BK790.out 1;have hfz25_2:=zFr BK790.out 2;have hfz25_3:=zFr BK790.out 3;have hcz26_0 : w23.cell? ⟨gb791,0,none⟩ = some (.int .i64 a1_0):=(zCl BK791.out 0).trans rfl;have hcz26_1 : w23.cell? ⟨gb791,1,none⟩ = some (.int .i64 a1_1):=(zCl BK791.out 1).trans rfl;have hcz26_2 : w23.cell? ⟨gb791,2,none⟩ = some (.int .i64 a1_2):=(zCl BK791.out 2).trans rfl;have hcz26_3 : w23.cell? ⟨gb791,3,none⟩ = some (.int .i64 a1_3):=(zCl BK791.out 3).trans rfl;have hfz26_0:=zFr BK791.out 0;have hfz26_1:=zFr BK791.out 1;have hfz26_2:=zFr BK791.out 2;have hfz26_3:=zFr BK791.out 3))
  go_ret
  exact ⟨by first | rfl | (simp [errW_none,errW_some] <;> rfl) | (simp [*,errW_none,errW_some] <;> rfl),hs2 HB GE790 GE791⟩
 rw [if_neg c3] at H;have c3b0 : (a0_0 == a1_0) = false:=beq_eq_false_iff_ne.mpr c3;have c3b1 : (a0_0 != a1_0) = true:=bne_iff_ne.mpr c3;obtain rfl:=Option.some.inj H
 go_enter Try.func68,Try.ntmps68
 go_wp2_with (first | ((with_reducible refine gate_dst (N:=2) rfl ?_);refine box_event ?hg (N:=2) ?hd (cs:=#[.int .i64 a0_0,.int .i64 a0_1,.int .i64 a0_2,.int .i64 a0_3]) (t:=45) ?hr ?_;(case hd=>rfl);(case hg=>rfl);(case hr=>first | (go_simp;done) | (go_simp;rfl));intro gb790 hg w27 hbox hb;have n0_:=zMk (below_step (hs HB) hb);have n1_:=zMk (hbox);have n2_:=zMk ((by rw [hg];exact (below_size (hs HB)) : w.heap.size ≤ gb790));have n3_:=zMk ((by rw [hg];exact (below_size (hs HB)) : w.heap.size ≤ gb790));clear HB;have HB:=n0_;have BK790:=n1_;have GW790:=n2_;have GE790:=n3_;clear n0_ n1_ n2_ n3_;clear hb hbox hg) | ((with_reducible refine gate_dst (N:=3) rfl ?_);refine box_event ?hg (N:=3) ?hd (cs:=#[.int .i64 a1_0,.int .i64 a1_1,.int .i64 a1_2,.int .i64 a1_3]) (t:=45) ?hr ?_;(case hd=>rfl);(case hg=>rfl);(case hr=>first | (go_simp;done) | (go_simp;rfl));intro gb791 hg w28 hbox hb;have n0_:=zMk (blk_below (g:=gb790) (o:=.cells #[.int .i64 a0_0,.int .i64 a0_1,.int .i64 a0_2,.int .i64 a0_3] 45 (0,0)) (bs BK790) hb);have n1_:=zMk (below_step (hs1 HB GE790) hb);have n2_:=zMk (hbox);have n3_:=zMk ((by rw [hg];exact (below_size (hs1 HB GE790)) : w.heap.size ≤ gb791));have n4_:=zMk ((by rw [hg];exact (below_size (hs1 HB GE790)) : w.heap.size ≤ gb791));have n5_:=zMk ((by rw [hg];exact Nat.ne_of_lt (blk_lt (g:=gb790) (o:=.cells #[.int .i64 a0_0,.int .i64 a0_1,.int .i64 a0_2,.int .i64 a0_3] 45 (0,0)) (bs BK790)) : gb790 ≠ gb791));have n6_:=zMk ((by rw [hg];exact Nat.ne_of_gt (blk_lt (g:=gb790) (o:=.cells #[.int .i64 a0_0,.int .i64 a0_1,.int .i64 a0_2,.int .i64 a0_3] 45 (0,0)) (bs BK790)) : gb791 ≠ gb790));clear BK790;clear HB;have BK790:=n0_;have HB:=n1_;have BK791:=n2_;have GW791:=n3_;have GE791:=n4_;have NB790_791:=n5_;have NB791_790:=n6_;clear n0_ n1_ n2_ n3_ n4_ n5_ n6_;clear hb hbox hg;have hnb29:=NB790_791.out;have hnc29:=NB791_790.out;have hcz30_0 : w28.cell? ⟨gb790,0,none⟩ = some (.int .i64 a0_0):=(zCl BK790.out 0).trans rfl;have hcz30_1 : w28.cell? ⟨gb790,1,none⟩ = some (.int .i64 a0_1):=(zCl BK790.out 1).trans rfl;have hcz30_2 : w28.cell? ⟨gb790,2,none⟩ = some (.int .i64 a0_2):=(zCl BK790.out 2).trans rfl;have hcz30_3 : w28.cell? ⟨gb790,3,none⟩ = some (.int .i64 a0_3):=(zCl BK790.out 3).trans rfl;have hfz30_0:=zFr BK790.out 0;have hfz30_1:=zFr BK790.out 1;have hfz30_2:=zFr BK790.out 2;have hfz30_3:=zFr BK790.out 3;have hcz31_0 : w28.cell? ⟨gb791,0,none⟩ = some (.int .i64 a1_0):=(zCl BK791.out 0).trans rfl;have hcz31_1 : w28.cell? ⟨gb791,1,none⟩ = some (.int .i64 a1_1):=(zCl BK791.out 1).trans rfl;have hcz31_2 : w28.cell? ⟨gb791,2,none⟩ = some (.int .i64 a1_2):=(zCl BK791.out 2).trans rfl;have hcz31_3 : w28.cell? ⟨gb791,3,none⟩ = some (.int .i64 a1_3):=(zCl BK791.out 3).trans rfl;have hfz31_0:=zFr BK791.out 0;have hfz31_1:=zFr BK791.out 1;have hfz31_2:=zFr BK791.out 2;have hfz31_3:=zFr BK791.out 3))
 go_ret
 exact ⟨by first | rfl | (simp [errW_none,errW_some] <;> rfl) | (simp [*,errW_none,errW_some] <;> rfl),hs2 HB GE790 GE791⟩
def laws_eqRecS.l0 : Nat → List (S45) → List (S45) → Int → Option (Bool)
 | 0,_,_,_=>none
 | k + 1,x0,x1,x5=>if x5 < (x0.length : Int) then (if 0 ≤ x5 then (if x5 < (x1.length : Int) then ((laws_eqRec.f ((rd_T45 x0 x5).f0) ((rd_T45 x0 x5).f1) ((rd_T45 x0 x5).f2) ((rd_T45 x0 x5).f3) ((rd_T45 x1 x5).f0) ((rd_T45 x1 x5).f1) ((rd_T45 x1 x5).f2) ((rd_T45 x1 x5).f3)).bind fun t794=>(if t794 = true then (laws_eqRecS.l0 k x0 x1 (wrap64 (x5 + 1))) else (some false))) else (none)) else (none)) else (some true)
def laws_eqRecS.f (k : Nat) (l0 : List (S45)) (l1 : List (S45)) : Option (Bool):=if (l0.length : Int) = (l1.length : Int) then (laws_eqRecS.l0 k l0 l1 0) else (some false)
theorem laws_eqRecS.mono_l : ∀ k,(∀ y0 y1 y2,LeO (laws_eqRecS.l0 k y0 y1 y2) (laws_eqRecS.l0 (k + 1) y0 y1 y2))
 | 0=>fun _ _ _ r h=>by simp [laws_eqRecS.l0] at h
 | k + 1=>by
  have ih0:=laws_eqRecS.mono_l k;intro y0 y1 y2;unfold laws_eqRecS.l0
  repeat' first
  | (with_reducible exact ih0 _ _ _)
  | (with_reducible exact LeO.refl _)
  | (with_reducible exact LeO.none _)
  | (with_reducible refine LeO.ite ?_ ?_)
  | (with_reducible refine LeO.bind ?_ (fun _=>?_))
  | exact ih0 _ _ _
  | exact LeO.none _
  | refine LeO.ite ?_ ?_
  | refine LeO.bind ?_ (fun _=>?_)
theorem laws_eqRecS.mono : ∀ a0 a1 k,LeO (laws_eqRecS.f k a0 a1) (laws_eqRecS.f (k + 1) a0 a1):=by
 intro a0 a1 k;have ih0:=laws_eqRecS.mono_l k;unfold laws_eqRecS.f
 repeat' first
   | (with_reducible exact ih0 _ _ _)
   | (with_reducible exact LeO.refl _)
   | (with_reducible exact LeO.none _)
   | (with_reducible refine LeO.ite ?_ ?_)
   | (with_reducible refine LeO.bind ?_ (fun _=>?_))
   | exact ih0 _ _ _
   | exact LeO.none _
   | refine LeO.ite ?_ ?_
   | refine LeO.bind ?_ (fun _=>?_)
def laws_eqRecS.T6 : Bool × List (List Nat × List Nat):=(true,[([],[]),([],[]),([0,1],[0,1]),([2],[2]),([],[]),([],[]),([4,5],[4,5]),([6],[6]),([3,7],[3,7]),([8],[8])])
def laws_eqRecS.B6 : List Nat:=[0,0,3,7,0,0,48,112,255,511]
theorem laws_eqRecS.tab6 : rtab .any (opsOf Try.f60 6) = laws_eqRecS.T6:=by kernel_rfl
theorem laws_eqRecS.bits6 : waitsOk laws_eqRecS.T6.2 laws_eqRecS.B6 = true:=by kernel_rfl
set_option maxHeartbeats 8000000 in
set_option maxRecDepth 100000 in
theorem laws_eqRecS.calls (k : Nat) (A0 : Option Addr) (c0 : Nat) (l0 : List (S45)) (A1 : Option Addr) (c1 : Nat) (l1 : List (S45)) (r : Bool) (w : World) (hr0 : Kd.C k45 w A0 l0.length l0) (hc0 : l0.length ≤ c0) (hr1 : Kd.C k45 w A1 l1.length l1) (hc1 : l1.length ≤ c1) (h : laws_eqRecS.f k l0 l1 = some r) :
  Calls Try.prog 60 #[.slice A0 l0.length c0,.slice A1 l1.length c1] w fun e w'=>e = .returned (.bool r) ∧ Below w.heap.size w w':=by
 have hu45:=Try.underlying45;have HR0:=zMk hr0;have HC0:=zMk hc0;clear hr0 hc0;have HR1:=zMk hr1;have HC1:=zMk hc1;clear hr1 hc1;have HB:=zMk (Below.refl w.heap.size w);have H : (if (l0.length : Int) = (l1.length : Int) then (laws_eqRecS.l0 k l0 l1 0) else (some false)) = some r:=h;clear h
 by_cases c3 : (l0.length : Int) = (l1.length : Int)
 ·rw [if_pos c3] at H;have c3b0 : ((l0.length : Int) == (l1.length : Int)) = true:=beq_iff_eq.mpr c3;have c3b1 : ((l0.length : Int) != (l1.length : Int)) = false:=bne_eq_false_iff_eq.mpr c3;have c3b2 : (l0.length == l1.length) = true:=by first | simpa using c3 | (simp at c3 ⊢;omega)
  clear c3;have H':=zMk H;clear H
  go_enter Try.func60,Try.ntmps60
  go_wp2
  go_loopg [5] k (fun kq v5 w'=>∃ (x5_1 : Int),v5 = .int .i64 x5_1 ∧ Aside0 (laws_eqRecS.l0 kq l0 l1 x5_1 = some r) ∧ Aside0 (kq ≤ k) ∧ Aside0 (Below w.heap.size w w'));case atStart=>exact ⟨(0),(by first | rfl | (simp;done) | (simp [*];done)),H',⟨Nat.le_refl _⟩,⟨hs HB⟩⟩
  case round =>
   clear H'
   try clear c1
   try clear p2
   try clear c3
   try clear c3b0
   try clear c3b1
   try clear c3b2
   obtain ⟨x5_1,rfl,HA,HK1,HB⟩:=hrel;cases gk with
   | zero=>exact absurd HA.out (by simp [laws_eqRecS.l0])
   | succ k1 =>
    have H:=HA.out;clear HA;simp only [laws_eqRecS.l0] at H
    by_cases c4 : x5_1 < (l0.length : Int)
    ·rw [if_pos c4] at H;have c4b0 : decide (x5_1 < (l0.length : Int)) = true:=decide_eq_true c4;clear c4
     by_cases c5 : 0 ≤ x5_1
     ·rw [if_pos c5] at H;have c5b0 : decide (0 ≤ x5_1) = true:=decide_eq_true c5;clear c5
      by_cases c6 : x5_1 < (l1.length : Int)
      ·rw [if_pos c6] at H;have c6b0 : decide (x5_1 < (l1.length : Int)) = true:=decide_eq_true c6;clear c6;replace H:=Option.bind_eq_some_iff.mp H;obtain ⟨t794,A70,H⟩:=H;replace H : (if t794 = true then (laws_eqRecS.l0 k1 l0 l1 (wrap64 (x5_1 + 1))) else (some false)) = some r:=H;have A7:=zMk A70;clear A70
       by_cases c8 : t794 = true
       ·subst c8;have H1 : (laws_eqRecS.l0 k1 l0 l1 (wrap64 (x5_1 + 1))) = some r:=by rw [if_pos rfl] at H;exact H
        clear H;have H:=H1;clear H1;have H':=zMk H;clear H
        try go_wp2
        have n0_:=zMk (below_drew1 HB.out);clear HB;have HB:=n0_;clear n0_;have p792 : 0 ≤ (x5_1 : Int):=zDe (by first | (with_reducible assumption) | assumption);have q792 : x5_1 < (l0.length : Int):=zDe (by first | (with_reducible assumption) | assumption);obtain ⟨ad792,e792,hx792_0,hx792_1,hx792_2,hx792_3⟩:=at_T45 HR0.out x5_1 p792 q792;have hw792_3:=hx792_3;have hw792_2:=hx792_2;have hw792_1:=hx792_1;have hw792_0:=hx792_0;cases e792;replace hx792_0:=(HB.out.cell (zBl w _ hx792_0)).trans hx792_0;replace hx792_1:=(HB.out.cell (zBl w _ hx792_1)).trans hx792_1;replace hx792_2:=(HB.out.cell (zBl w _ hx792_2)).trans hx792_2;replace hx792_3:=(HB.out.cell (zBl w _ hx792_3)).trans hx792_3;replace p792:=eq_true p792;replace q792:=eq_true q792;have p793 : 0 ≤ (x5_1 : Int):=zDe (by first | (with_reducible assumption) | assumption);have q793 : x5_1 < (l1.length : Int):=zDe (by first | (with_reducible assumption) | assumption);obtain ⟨ad793,e793,hx793_0,hx793_1,hx793_2,hx793_3⟩:=at_T45 HR1.out x5_1 p793 q793;have hw793_3:=hx793_3;have hw793_2:=hx793_2;have hw793_1:=hx793_1;have hw793_0:=hx793_0;cases e793;replace hx793_0:=(HB.out.cell (zBl w _ hx793_0)).trans hx793_0;replace hx793_1:=(HB.out.cell (zBl w _ hx793_1)).trans hx793_1;replace hx793_2:=(HB.out.cell (zBl w _ hx793_2)).trans hx793_2;replace hx793_3:=(HB.out.cell (zBl w _ hx793_3)).trans hx793_3;replace p793:=eq_true p793;replace q793:=eq_true q793;refine start_ (n:=10) (S:=fun w'=>w'.cell? (ad792.add ((x5_1).toNat * 4)) = some (.int .i64 ((rd_T45 l0 x5_1).f0)) ∧ w'.cell? ⟨(ad792.add ((x5_1).toNat * 4)).block,(ad792.add ((x5_1).toNat * 4)).off + 1,none⟩ = some (.int .i64 ((rd_T45 l0 x5_1).f1)) ∧ w'.cell? ⟨(ad792.add ((x5_1).toNat * 4)).block,(ad792.add ((x5_1).toNat * 4)).off + 2,none⟩ = some (.int .i64 ((rd_T45 l0 x5_1).f2)) ∧ w'.cell? ⟨(ad792.add ((x5_1).toNat * 4)).block,(ad792.add ((x5_1).toNat * 4)).off + 3,none⟩ = some (.int .i64 ((rd_T45 l0 x5_1).f3)) ∧ w'.cell? (ad793.add ((x5_1).toNat * 4)) = some (.int .i64 ((rd_T45 l1 x5_1).f0)) ∧ w'.cell? ⟨(ad793.add ((x5_1).toNat * 4)).block,(ad793.add ((x5_1).toNat * 4)).off + 1,none⟩ = some (.int .i64 ((rd_T45 l1 x5_1).f1)) ∧ w'.cell? ⟨(ad793.add ((x5_1).toNat * 4)).block,(ad793.add ((x5_1).toNat * 4)).off + 2,none⟩ = some (.int .i64 ((rd_T45 l1 x5_1).f2)) ∧ w'.cell? ⟨(ad793.add ((x5_1).toNat * 4)).block,(ad793.add ((x5_1).toNat * 4)).off + 3,none⟩ = some (.int .i64 ((rd_T45 l1 x5_1).f3))) (ds:=[]) #[false,false,false,false,false,false,false,false,false,false] (by kernel_rfl) rfl rfl ⟨((HB.out.cell (zBl w _ hw792_0)).trans hw792_0),((HB.out.cell (zBl w _ hw792_1)).trans hw792_1),((HB.out.cell (zBl w _ hw792_2)).trans hw792_2),((HB.out.cell (zBl w _ hw792_3)).trans hw792_3),((HB.out.cell (zBl w _ hw793_0)).trans hw793_0),((HB.out.cell (zBl w _ hw793_1)).trans hw793_1),((HB.out.cell (zBl w _ hw793_2)).trans hw793_2),((HB.out.cell (zBl w _ hw793_3)).trans hw793_3)⟩ (fun hHeld=>?_);refine with_tabW laws_eqRecS.tab6 laws_eqRecS.bits6 (fun HT_ HW_=>?_);generalize wr.drew = w9 at HB hx792_0 hx792_1 hx792_2 hx792_3 hx793_0 hx793_1 hx793_2 hx793_3 hHeld ⊢;refine pure_ (i:=0) (N:=some 17) (v:=?_) (a':=?_) #[true,false,false,false,false,false,false,false,false,false] rfl rfl (any_of HT_.out (by kernel_rfl)) (fun _ _ _ h=>h) (Or.inl ⟨by rfl,?_⟩) ?_ ?_;rotate_left
        ·intro w';go_simp;with_reducible rfl
        rotate_left
        ·simp only [Act.put,zS1,zS2,zS3,i64_w,i32_w];rfl
        refine pure_ (i:=1) (N:=some 18) (v:=?_) (a':=?_) #[true,true,false,false,false,false,false,false,false,false] rfl rfl (any_of HT_.out (by kernel_rfl)) (fun _ _ _ h=>h) (Or.inl ⟨by rfl,?_⟩) ?_ ?_;rotate_left
        ·intro w';go_simp;with_reducible rfl
        rotate_left
        ·simp only [Act.put,zS1,zS2,zS3,i64_w,i32_w];rfl
        refine pure_ (i:=2) (N:=some 19) (v:=?_) (a':=?_) #[true,true,true,false,false,false,false,false,false,false] rfl rfl (any_of HT_.out (by kernel_rfl)) (fun _ _ _ h=>h) (Or.inl ⟨by rfl,?_⟩) ?_ ?_;rotate_left
        ·intro w';go_simp;with_reducible rfl
        rotate_left
        ·simp only [Act.put,zS1,zS2,zS3,i64_w,i32_w];rfl
        refine pure_ (i:=4) (N:=some 21) (v:=?_) (a':=?_) #[true,true,true,false,true,false,false,false,false,false] rfl rfl (any_of HT_.out (by kernel_rfl)) (fun _ _ _ h=>h) (Or.inl ⟨by rfl,?_⟩) ?_ ?_;rotate_left
        ·intro w';go_simp;with_reducible rfl
        rotate_left
        ·simp only [Act.put,zS1,zS2,zS3,i64_w,i32_w];rfl
        refine pure_ (i:=5) (N:=some 22) (v:=?_) (a':=?_) #[true,true,true,false,true,true,false,false,false,false] rfl rfl (any_of HT_.out (by kernel_rfl)) (fun _ _ _ h=>h) (Or.inl ⟨by rfl,?_⟩) ?_ ?_;rotate_left
        ·intro w';go_simp;with_reducible rfl
        rotate_left
        ·simp only [Act.put,zS1,zS2,zS3,i64_w,i32_w];rfl
        refine pure_ (i:=6) (N:=some 23) (v:=?_) (a':=?_) #[true,true,true,false,true,true,true,false,false,false] rfl rfl (any_of HT_.out (by kernel_rfl)) (fun _ _ _ h=>h) (Or.inl ⟨by rfl,?_⟩) ?_ ?_;rotate_left
        ·intro w';go_simp;with_reducible rfl
        rotate_left
        ·simp only [Act.put,zS1,zS2,zS3,i64_w,i32_w];rfl
        refine take_ (i:=3) (N:=some 20) (v:=?_) (a':=?_) #[true,true,true,true,true,true,true,false,false,false] rfl rfl (take_ofW HT_.out HW_.out (by kernel_rfl)) (fun _ _ _ h=>h) (Or.inl ⟨by rfl,?_⟩) hHeld ?_ ?_;rotate_left
        ·rintro w' ⟨s0,s1,s2,s3,s4,s5,s6,s7⟩;go_simp;with_reducible rfl
        rotate_left
        ·simp only [Act.put,zS1,zS2,zS3,i64_w,i32_w];rfl
        refine take_ (i:=7) (N:=some 24) (v:=?_) (a':=?_) #[true,true,true,true,true,true,true,true,false,false] rfl rfl (take_ofW HT_.out HW_.out (by kernel_rfl)) (fun _ _ _ h=>h) (Or.inl ⟨by rfl,?_⟩) hHeld ?_ ?_;rotate_left
        ·rintro w' ⟨s0,s1,s2,s3,s4,s5,s6,s7⟩;go_simp;with_reducible rfl
        rotate_left
        ·simp only [Act.put,zS1,zS2,zS3,i64_w,i32_w];rfl
        refine one_ (i:=8) (N:=some 25) #[true,true,true,true,true,true,true,true,true,false] rfl rfl (one_of HT_.out (by kernel_rfl)) (by decide) (fun K hK=>?_);refine goes_ Try.func68 (by kernel_rfl) rfl #[.agg #[.int .i64 ((rd_T45 l0 x5_1).f0),.int .i64 ((rd_T45 l0 x5_1).f1),.int .i64 ((rd_T45 l0 x5_1).f2),.int .i64 ((rd_T45 l0 x5_1).f3)],.agg #[.int .i64 ((rd_T45 l1 x5_1).f0),.int .i64 ((rd_T45 l1 x5_1).f1),.int .i64 ((rd_T45 l1 x5_1).f2),.int .i64 ((rd_T45 l1 x5_1).f3)]] (by rfl) rfl rfl (by (try simp only [List.map_toArray,List.map_cons,List.map_nil]);first | done | rfl | (simp only [List.length_drop,List.length_take];rfl)) ?_;with_reducible refine (laws_eqRec.calls ((rd_T45 l0 x5_1).f0) ((rd_T45 l0 x5_1).f1) ((rd_T45 l0 x5_1).f2) ((rd_T45 l0 x5_1).f3) ((rd_T45 l1 x5_1).f0) ((rd_T45 l1 x5_1).f1) ((rd_T45 l1 x5_1).f2) ((rd_T45 l1 x5_1).f3) true _ A7.out).mono ?_
        rintro e w10 ⟨rfl,hb⟩;refine ⟨_,rfl,?_⟩;have n0_:=zMk (below_step (hs HB) hb);clear HB;have HB:=n0_;clear n0_
        (try clear hb)
        (try clear hb2)
        (try clear hk)
        (try clear hi)
        refine hK.out _ _ ⟨((HB.out.cell (zBl w _ hw792_0)).trans hw792_0),((HB.out.cell (zBl w _ hw792_1)).trans hw792_1),((HB.out.cell (zBl w _ hw792_2)).trans hw792_2),((HB.out.cell (zBl w _ hw792_3)).trans hw792_3),((HB.out.cell (zBl w _ hw793_0)).trans hw793_0),((HB.out.cell (zBl w _ hw793_1)).trans hw793_1),((HB.out.cell (zBl w _ hw793_2)).trans hw793_2),((HB.out.cell (zBl w _ hw793_3)).trans hw793_3)⟩ (fun hHeld=>?_);clear hK K;refine norm_ (a':=?_) ?_ ?_;rotate_left
        ·show Act.put _ (some 25) _ = _;simp only [Act.put,zS1,zS2,zS3,i64_w,i32_w];rfl
        refine pure_ (i:=9) (N:=some 26) (v:=?_) (a':=?_) #[true,true,true,true,true,true,true,true,true,true] rfl rfl (any_of HT_.out (by kernel_rfl)) (fun _ _ _ h=>h) (Or.inl ⟨by rfl,?_⟩) ?_ ?_;rotate_left
        ·intro w';go_simp;with_reducible rfl
        rotate_left
        ·simp only [Act.put,zS1,zS2,zS3,i64_w,i32_w];rfl
        refine done_ (done_of HT_.out (by kernel_rfl)) ?_
        try go_wp2
        go_roundg k1;case measure=>have:=HK1.out;omega
        case rel=>exact ⟨(wrap64 (x5_1 + 1)),(by first | rfl | (simp;done) | (simp [*];done)),H',⟨by have:=HK1.out;omega⟩,⟨hs HB⟩⟩
       replace c8:=Bool.eq_false_iff.mpr c8;subst c8;have H1 : (some false) = some r:=by rw [if_neg (show ¬ (false = true) by decide)] at H;exact H
       clear H;have H:=H1;clear H1;obtain rfl:=Option.some.inj H
       try go_wp2
       have n0_:=zMk (below_drew1 HB.out);clear HB;have HB:=n0_;clear n0_;have p792 : 0 ≤ (x5_1 : Int):=zDe (by first | (with_reducible assumption) | assumption);have q792 : x5_1 < (l0.length : Int):=zDe (by first | (with_reducible assumption) | assumption);obtain ⟨ad792,e792,hx792_0,hx792_1,hx792_2,hx792_3⟩:=at_T45 HR0.out x5_1 p792 q792;have hw792_3:=hx792_3;have hw792_2:=hx792_2;have hw792_1:=hx792_1;have hw792_0:=hx792_0;cases e792;replace hx792_0:=(HB.out.cell (zBl w _ hx792_0)).trans hx792_0;replace hx792_1:=(HB.out.cell (zBl w _ hx792_1)).trans hx792_1;replace hx792_2:=(HB.out.cell (zBl w _ hx792_2)).trans hx792_2;replace hx792_3:=(HB.out.cell (zBl w _ hx792_3)).trans hx792_3;replace p792:=eq_true p792;replace q792:=eq_true q792;have p793 : 0 ≤ (x5_1 : Int):=zDe (by first | (with_reducible assumption) | assumption);have q793 : x5_1 < (l1.length : Int):=zDe (by first | (with_reducible assumption) | assumption);obtain ⟨ad793,e793,hx793_0,hx793_1,hx793_2,hx793_3⟩:=at_T45 HR1.out x5_1 p793 q793;have hw793_3:=hx793_3;have hw793_2:=hx793_2;have hw793_1:=hx793_1;have hw793_0:=hx793_0;cases e793;replace hx793_0:=(HB.out.cell (zBl w _ hx793_0)).trans hx793_0;replace hx793_1:=(HB.out.cell (zBl w _ hx793_1)).trans hx793_1;replace hx793_2:=(HB.out.cell (zBl w _ hx793_2)).trans hx793_2;replace hx793_3:=(HB.out.cell (zBl w _ hx793_3)).trans hx793_3;replace p793:=eq_true p793;replace q793:=eq_true q793;refine start_ (n:=10) (S:=fun w'=>w'.cell? (ad792.add ((x5_1).toNat * 4)) = some (.int .i64 ((rd_T45 l0 x5_1).f0)) ∧ w'.cell? ⟨(ad792.add ((x5_1).toNat * 4)).block,(ad792.add ((x5_1).toNat * 4)).off + 1,none⟩ = some (.int .i64 ((rd_T45 l0 x5_1).f1)) ∧ w'.cell? ⟨(ad792.add ((x5_1).toNat * 4)).block,(ad792.add ((x5_1).toNat * 4)).off + 2,none⟩ = some (.int .i64 ((rd_T45 l0 x5_1).f2)) ∧ w'.cell? ⟨(ad792.add ((x5_1).toNat * 4)).block,(ad792.add ((x5_1).toNat * 4)).off + 3,none⟩ = some (.int .i64 ((rd_T45 l0 x5_1).f3)) ∧ w'.cell? (ad793.add ((x5_1).toNat * 4)) = some (.int .i64 ((rd_T45 l1 x5_1).f0)) ∧ w'.cell? ⟨(ad793.add ((x5_1).toNat * 4)).block,(ad793.add ((x5_1).toNat * 4)).off + 1,none⟩ = some (.int .i64 ((rd_T45 l1 x5_1).f1)) ∧ w'.cell? ⟨(ad793.add ((x5_1).toNat * 4)).block,(ad793.add ((x5_1).toNat * 4)).off + 2,none⟩ = some (.int .i64 ((rd_T45 l1 x5_1).f2)) ∧ w'.cell? ⟨(ad793.add ((x5_1).toNat * 4)).block,(ad793.add ((x5_1).toNat * 4)).off + 3,none⟩ = some (.int .i64 ((rd_T45 l1 x5_1).f3))) (ds:=[]) #[false,false,false,false,false,false,false,false,false,false] (by kernel_rfl) rfl rfl ⟨((HB.out.cell (zBl w _ hw792_0)).trans hw792_0),((HB.out.cell (zBl w _ hw792_1)).trans hw792_1),((HB.out.cell (zBl w _ hw792_2)).trans hw792_2),((HB.out.cell (zBl w _ hw792_3)).trans hw792_3),((HB.out.cell (zBl w _ hw793_0)).trans hw793_0),((HB.out.cell (zBl w _ hw793_1)).trans hw793_1),((HB.out.cell (zBl w _ hw793_2)).trans hw793_2),((HB.out.cell (zBl w _ hw793_3)).trans hw793_3)⟩ (fun hHeld=>?_);refine with_tabW laws_eqRecS.tab6 laws_eqRecS.bits6 (fun HT_ HW_=>?_);generalize wr.drew = w11 at HB hx792_0 hx792_1 hx792_2 hx792_3 hx793_0 hx793_1 hx793_2 hx793_3 hHeld ⊢;refine pure_ (i:=0) (N:=some 17) (v:=?_) (a':=?_) #[true,false,false,false,false,false,false,false,false,false] rfl rfl (any_of HT_.out (by kernel_rfl)) (fun _ _ _ h=>h) (Or.inl ⟨by rfl,?_⟩) ?_ ?_;rotate_left
       ·intro w';go_simp;with_reducible rfl
       rotate_left
       ·simp only [Act.put,zS1,zS2,zS3,i64_w,i32_w];rfl
       refine pure_ (i:=1) (N:=some 18) (v:=?_) (a':=?_) #[true,true,false,false,false,false,false,false,false,false] rfl rfl (any_of HT_.out (by kernel_rfl)) (fun _ _ _ h=>h) (Or.inl ⟨by rfl,?_⟩) ?_ ?_;rotate_left
       ·intro w';go_simp;with_reducible rfl
       rotate_left
       ·simp only [Act.put,zS1,zS2,zS3,i64_w,i32_w];rfl
       refine pure_ (i:=2) (N:=some 19) (v:=?_) (a':=?_) #[true,true,true,false,false,false,false,false,false,false] rfl rfl (any_of HT_.out (by kernel_rfl)) (fun _ _ _ h=>h) (Or.inl ⟨by rfl,?_⟩) ?_ ?_;rotate_left
       ·intro w';go_simp;with_reducible rfl
       rotate_left
       ·simp only [Act.put,zS1,zS2,zS3,i64_w,i32_w];rfl
       refine pure_ (i:=4) (N:=some 21) (v:=?_) (a':=?_) #[true,true,true,false,true,false,false,false,false,false] rfl rfl (any_of HT_.out (by kernel_rfl)) (fun _ _ _ h=>h) (Or.inl ⟨by rfl,?_⟩) ?_ ?_;rotate_left
       ·intro w';go_simp;with_reducible rfl
       rotate_left
       ·simp only [Act.put,zS1,zS2,zS3,i64_w,i32_w];rfl
       refine pure_ (i:=5) (N:=some 22) (v:=?_) (a':=?_) #[true,true,true,false,true,true,false,false,false,false] rfl rfl (any_of HT_.out (by kernel_rfl)) (fun _ _ _ h=>h) (Or.inl ⟨by rfl,?_⟩) ?_ ?_;rotate_left
       ·intro w';go_simp;with_reducible rfl
       rotate_left
       ·simp only [Act.put,zS1,zS2,zS3,i64_w,i32_w];rfl
       refine pure_ (i:=6) (N:=some 23) (v:=?_) (a':=?_) #[true,true,true,false,true,true,true,false,false,false] rfl rfl (any_of HT_.out (by kernel_rfl)) (fun _ _ _ h=>h) (Or.inl ⟨by rfl,?_⟩) ?_ ?_;rotate_left
       ·intro w';go_simp;with_reducible rfl
       rotate_left
       ·simp only [Act.put,zS1,zS2,zS3,i64_w,i32_w];rfl
       refine take_ (i:=3) (N:=some 20) (v:=?_) (a':=?_) #[true,true,true,true,true,true,true,false,false,false] rfl rfl (take_ofW HT_.out HW_.out (by kernel_rfl)) (fun _ _ _ h=>h) (Or.inl ⟨by rfl,?_⟩) hHeld ?_ ?_;rotate_left
       ·rintro w' ⟨s0,s1,s2,s3,s4,s5,s6,s7⟩;go_simp;with_reducible rfl
       rotate_left
       ·simp only [Act.put,zS1,zS2,zS3,i64_w,i32_w];rfl
       refine take_ (i:=7) (N:=some 24) (v:=?_) (a':=?_) #[true,true,true,true,true,true,true,true,false,false] rfl rfl (take_ofW HT_.out HW_.out (by kernel_rfl)) (fun _ _ _ h=>h) (Or.inl ⟨by rfl,?_⟩) hHeld ?_ ?_;rotate_left
       ·rintro w' ⟨s0,s1,s2,s3,s4,s5,s6,s7⟩;go_simp;with_reducible rfl
       rotate_left
       ·simp only [Act.put,zS1,zS2,zS3,i64_w,i32_w];rfl
       refine one_ (i:=8) (N:=some 25) #[true,true,true,true,true,true,true,true,true,false] rfl rfl (one_of HT_.out (by kernel_rfl)) (by decide) (fun K hK=>?_);refine goes_ Try.func68 (by kernel_rfl) rfl #[.agg #[.int .i64 ((rd_T45 l0 x5_1).f0),.int .i64 ((rd_T45 l0 x5_1).f1),.int .i64 ((rd_T45 l0 x5_1).f2),.int .i64 ((rd_T45 l0 x5_1).f3)],.agg #[.int .i64 ((rd_T45 l1 x5_1).f0),.int .i64 ((rd_T45 l1 x5_1).f1),.int .i64 ((rd_T45 l1 x5_1).f2),.int .i64 ((rd_T45 l1 x5_1).f3)]] (by rfl) rfl rfl (by (try simp only [List.map_toArray,List.map_cons,List.map_nil]);first | done | rfl | (simp only [List.length_drop,List.length_take];rfl)) ?_;with_reducible refine (laws_eqRec.calls ((rd_T45 l0 x5_1).f0) ((rd_T45 l0 x5_1).f1) ((rd_T45 l0 x5_1).f2) ((rd_T45 l0 x5_1).f3) ((rd_T45 l1 x5_1).f0) ((rd_T45 l1 x5_1).f1) ((rd_T45 l1 x5_1).f2) ((rd_T45 l1 x5_1).f3) false _ A7.out).mono ?_
       rintro e w12 ⟨rfl,hb⟩;refine ⟨_,rfl,?_⟩;have n0_:=zMk (below_step (hs HB) hb);clear HB;have HB:=n0_;clear n0_
       (try clear hb)
       (try clear hb2)
       (try clear hk)
       (try clear hi)
       refine hK.out _ _ ⟨((HB.out.cell (zBl w _ hw792_0)).trans hw792_0),((HB.out.cell (zBl w _ hw792_1)).trans hw792_1),((HB.out.cell (zBl w _ hw792_2)).trans hw792_2),((HB.out.cell (zBl w _ hw792_3)).trans hw792_3),((HB.out.cell (zBl w _ hw793_0)).trans hw793_0),((HB.out.cell (zBl w _ hw793_1)).trans hw793_1),((HB.out.cell (zBl w _ hw793_2)).trans hw793_2),((HB.out.cell (zBl w _ hw793_3)).trans hw793_3)⟩ (fun hHeld=>?_);clear hK K;refine norm_ (a':=?_) ?_ ?_;rotate_left
       ·show Act.put _ (some 25) _ = _;simp only [Act.put,zS1,zS2,zS3,i64_w,i32_w];rfl
       refine pure_ (i:=9) (N:=some 26) (v:=?_) (a':=?_) #[true,true,true,true,true,true,true,true,true,true] rfl rfl (any_of HT_.out (by kernel_rfl)) (fun _ _ _ h=>h) (Or.inl ⟨by rfl,?_⟩) ?_ ?_;rotate_left
       ·intro w';go_simp;with_reducible rfl
       rotate_left
       ·simp only [Act.put,zS1,zS2,zS3,i64_w,i32_w];rfl
       refine done_ (done_of HT_.out (by kernel_rfl)) ?_
       try go_wp2
       go_ret
       exact ⟨by first | rfl | (simp [errW_none,errW_some] <;> rfl) | (simp [*,errW_none,errW_some] <;> rfl),hs HB⟩
      rw [if_neg c6] at H;exact absurd H (by simp)
     rw [if_neg c5] at H;exact absurd H (by simp)
    rw [if_neg c4] at H;have c4b0 : decide (x5_1 < (l0.length : Int)) = false:=decide_eq_false c4;clear c4;obtain rfl:=Option.some.inj H
    go_wp2
    go_ret
    exact ⟨by first | rfl | (simp [errW_none,errW_some] <;> rfl) | (simp [*,errW_none,errW_some] <;> rfl),hs HB⟩
 rw [if_neg c3] at H;have c3b0 : ((l0.length : Int) == (l1.length : Int)) = false:=beq_eq_false_iff_ne.mpr c3;have c3b1 : ((l0.length : Int) != (l1.length : Int)) = true:=bne_iff_ne.mpr c3;have c3b2 : (l0.length == l1.length) = false:=by first | simpa using c3 | (simp at c3 ⊢;omega)
 obtain rfl:=Option.some.inj H
 go_enter Try.func60,Try.ntmps60
 go_wp2
 go_ret
 exact ⟨by first | rfl | (simp [errW_none,errW_some] <;> rfl) | (simp [*,errW_none,errW_some] <;> rfl),hs HB⟩
end Go.Proofs.Ytodokejcmbjpbaa.PK

/- A row of records as data. -/
namespace Go.Proofs.Ytodokejcmbjpbaa.Pu
open Go.RowKit Go.Proofs.Ytodokejcmbjpbaa.PK Go.Proofs.YtodokejcmbjpbaaW.PrintWords
theorem rdIR_nat (l : List S45) (i : Nat) : rd_T45 l (i : Int) = l.getD i z45 := rfl
theorem eqRecS_ev (l : List S45) (hn : l.length ≤ 9223372036854775807) : Ev (fun k => laws_eqRecS.f k l l) true := by
  have h1 := ev_all (n := l.length) (m := l.length) (L := fun k i => laws_eqRecS.l0 k l l i) (E := fun _ i => laws_eqRec.f (rd_T45 l i).f0 (rd_T45 l i).f1 (rd_T45 l i).f2 (rd_T45 l i).f3 (rd_T45 l i).f0 (rd_T45 l i).f1 (rd_T45 l i).f2 (rd_T45 l i).f3) hn (Nat.le_refl _) (fun k i => by simp only [laws_eqRecS.l0]) (fun i _ => ev_const (by unfold laws_eqRec.f; simp only [if_true])) l.length 0 (by omega)
  unfold laws_eqRecS.f
  simp only [if_true]
  exact h1
end Go.Proofs.Ytodokejcmbjpbaa.Pu

namespace Go.Proofs.Ytodokejcmbjpbaa.PK
open Go.RowKit Go.Proofs.YtodokejcmbjpbaaW.PrintWords Go.Proofs.YtodokejcmbjpbaaW.PrintLast Go.Proofs.YtodokejcmbjpbaaW.PrintMore
attribute [local go_sem] max2_int min2_int max_two min_two max_three min_three max_four min_four
def laws_markRecS.l0 : Nat → List (S45) → Int → Int → Option (Int × (List (S45)))
 | 0,_,_,_=>none
 | k + 1,x0,x1,x5=>if x5 < (x0.length : Int) then (if 0 ≤ x5 then ((some (x0.set (x5 : Int).toNat (⟨x1,(rd_T45 x0 x5).f1,(rd_T45 x0 x5).f2,(rd_T45 x0 x5).f3⟩ : S45) : List (S45))).bind fun y815=>((some (y815.set (x5 : Int).toNat (⟨(rd_T45 y815 x5).f0,wrap64 (x1 + 1),(rd_T45 y815 x5).f2,(rd_T45 y815 x5).f3⟩ : S45) : List (S45))).bind fun y816=>((some (y816.set (x5 : Int).toNat (⟨(rd_T45 y816 x5).f0,(rd_T45 y816 x5).f1,wrap64 ((wrap64 (x1 + 1)) + 1),(rd_T45 y816 x5).f3⟩ : S45) : List (S45))).bind fun y817=>(laws_markRecS.l0 k (y817.set (x5 : Int).toNat (⟨(rd_T45 y817 x5).f0,(rd_T45 y817 x5).f1,(rd_T45 y817 x5).f2,wrap64 ((wrap64 ((wrap64 (x1 + 1)) + 1)) + 1)⟩ : S45)) (wrap64 ((wrap64 ((wrap64 ((wrap64 (x1 + 1)) + 1)) + 1)) + 1)) (wrap64 (x5 + 1)))))) else (none)) else (some (x1,x0))
def laws_markRecS.f (k : Nat) (l0 : List (S45)) (a1 : Int) : Option (Int × (List (S45))):=laws_markRecS.l0 k l0 a1 0
theorem laws_markRecS.mono_l : ∀ k,(∀ y0 y1 y2,LeO (laws_markRecS.l0 k y0 y1 y2) (laws_markRecS.l0 (k + 1) y0 y1 y2))
 | 0=>fun _ _ _ r h=>by simp [laws_markRecS.l0] at h
 | k + 1=>by
  have ih0:=laws_markRecS.mono_l k;intro y0 y1 y2;unfold laws_markRecS.l0
  repeat' first
  | (with_reducible exact ih0 _ _ _)
  | (with_reducible exact LeO.refl _)
  | (with_reducible exact LeO.none _)
  | (with_reducible refine LeO.ite ?_ ?_)
  | (with_reducible refine LeO.bind ?_ (fun _=>?_))
  | exact ih0 _ _ _
  | exact LeO.none _
  | refine LeO.ite ?_ ?_
  | refine LeO.bind ?_ (fun _=>?_)
theorem laws_markRecS.mono : ∀ a0 a1 k,LeO (laws_markRecS.f k a0 a1) (laws_markRecS.f (k + 1) a0 a1):=by
 intro a0 a1 k;have ih0:=laws_markRecS.mono_l k;unfold laws_markRecS.f
 repeat' first
   | (with_reducible exact ih0 _ _ _)
   | (with_reducible exact LeO.refl _)
   | (with_reducible exact LeO.none _)
   | (with_reducible refine LeO.ite ?_ ?_)
   | (with_reducible refine LeO.bind ?_ (fun _=>?_))
   | exact ih0 _ _ _
   | exact LeO.none _
   | refine LeO.ite ?_ ?_
   | refine LeO.bind ?_ (fun _=>?_)
set_option maxHeartbeats 8000000 in
set_option maxRecDepth 100000 in
theorem laws_markRecS.calls (k : Nat) (P0_ : Nat → Prop) (u9000_ : Value) (l0 : List (S45)) (a1 : Int) (r1 : Int) (r2 : List (S45)) (w0 w : World) (hB : Below w0.heap.size w0 w) (ho0 : Kd.R k45 45 w w0.heap.size P0_ u9000_ l0) (h : laws_markRecS.f k l0 a1 = some (r1,r2)) :
  Calls Try.prog 46 #[u9000_,.int .i64 a1] w fun e w'=>e = .returned (.int .i64 r1) ∧ Kd.R k45 45 w' w0.heap.size (fun k_=>(P0_ k_ ∨ w.heap.size ≤ k_)) u9000_ r2 ∧ Below w0.heap.size w0 w' ∧ Kept w w' (fun k_=>P0_ k_):=by
 have HO0:=zMk (show Kd.R k45 45 w w0.heap.size (fun k_=>(P0_ k_ ∨ w.heap.size ≤ k_)) u9000_ l0 from Kd.R_mono ho0 (fun k_ hk=>(.inl hk)));have HK:=zMk (Kept.refl w (fun k_=>P0_ k_));have HW0:=zMk hB.size;have HB:=zMk hB;clear hB;have H : (laws_markRecS.l0 k l0 a1 0) = some (r1,r2):=h;clear h;have H':=zMk H;clear H
 go_enter Try.func46,Try.ntmps46
 go_wp2
 go_loopg [1,5] k (fun kq v1 v5 w'=>∃ (x0_1 : List (S45)) (x1_1 : Int) (x5_1 : Int),v1 = .int .i64 x1_1 ∧ v5 = .int .i64 x5_1 ∧ Aside0 (laws_markRecS.l0 kq x0_1 x1_1 x5_1 = some (r1,r2)) ∧ Aside0 (kq ≤ k) ∧ Aside0 (Kd.R k45 45 w' w0.heap.size (fun k_=>(P0_ k_ ∨ w.heap.size ≤ k_)) u9000_ x0_1) ∧ Aside0 (Kept w w' (fun k_=>P0_ k_)) ∧ Aside0 (Below w0.heap.size w0 w'));case atStart=>exact ⟨(l0),(a1),(0),(by first | rfl | (simp;done) | (simp [*];done)),(by first | rfl | (simp;done) | (simp [*];done)),H',⟨Nat.le_refl _⟩,⟨rs HO0⟩,⟨by repeat (first | (with_reducible first | exact HK.out | apply Kept.alloc | apply Kept.drewN | apply Kept.drew) | exact HK.out)⟩,⟨hs HB⟩⟩
 case round =>
  clear H'
  try clear p2
  obtain ⟨x0_1,x1_1,x5_1,rfl,rfl,HA,HK1,HO_0,HK,HB⟩:=hrel;cases gk with
  | zero=>exact absurd HA.out (by simp [laws_markRecS.l0])
  | succ k1 =>
   have H:=HA.out;clear HA;simp only [laws_markRecS.l0] at H
   by_cases c3 : x5_1 < (x0_1.length : Int)
   ·rw [if_pos c3] at H;have c3b0 : decide (x5_1 < (x0_1.length : Int)) = true:=decide_eq_true c3;clear c3
    by_cases c4 : 0 ≤ x5_1
    ·rw [if_pos c4] at H;have c4b0 : decide (0 ≤ x5_1) = true:=decide_eq_true c4;clear c4;obtain ⟨y815,hy815⟩ : ∃ y_ : List (S45),y_ = (x0_1.set (x5_1 : Int).toNat (⟨x1_1,(rd_T45 x0_1 x5_1).f1,(rd_T45 x0_1 x5_1).f2,(rd_T45 x0_1 x5_1).f3⟩ : S45)):=⟨_,rfl⟩;replace H : ((some (y815.set (x5_1 : Int).toNat (⟨(rd_T45 y815 x5_1).f0,wrap64 (x1_1 + 1),(rd_T45 y815 x5_1).f2,(rd_T45 y815 x5_1).f3⟩ : S45) : List (S45))).bind fun y816=>((some (y816.set (x5_1 : Int).toNat (⟨(rd_T45 y816 x5_1).f0,(rd_T45 y816 x5_1).f1,wrap64 ((wrap64 (x1_1 + 1)) + 1),(rd_T45 y816 x5_1).f3⟩ : S45) : List (S45))).bind fun y817=>(laws_markRecS.l0 k1 (y817.set (x5_1 : Int).toNat (⟨(rd_T45 y817 x5_1).f0,(rd_T45 y817 x5_1).f1,(rd_T45 y817 x5_1).f2,wrap64 ((wrap64 ((wrap64 (x1_1 + 1)) + 1)) + 1)⟩ : S45)) (wrap64 ((wrap64 ((wrap64 ((wrap64 (x1_1 + 1)) + 1)) + 1)) + 1)) (wrap64 (x5_1 + 1))))) = some (r1,r2):=by first | (rw [hy815];with_reducible exact H) | (have H2_:=(Option.bind_some _ _).symm.trans H;rw [hy815];with_reducible exact H2_) | (have H2_:=(Option.bind_some _ _).symm.trans H;with_reducible exact H2_) | with_reducible exact H | (rw [hy815];exact H) | exact H
     have Ny815:=zMk hy815;clear hy815;obtain ⟨y816,hy816⟩ : ∃ y_ : List (S45),y_ = (y815.set (x5_1 : Int).toNat (⟨(rd_T45 y815 x5_1).f0,wrap64 (x1_1 + 1),(rd_T45 y815 x5_1).f2,(rd_T45 y815 x5_1).f3⟩ : S45)):=⟨_,rfl⟩;replace H : ((some (y816.set (x5_1 : Int).toNat (⟨(rd_T45 y816 x5_1).f0,(rd_T45 y816 x5_1).f1,wrap64 ((wrap64 (x1_1 + 1)) + 1),(rd_T45 y816 x5_1).f3⟩ : S45) : List (S45))).bind fun y817=>(laws_markRecS.l0 k1 (y817.set (x5_1 : Int).toNat (⟨(rd_T45 y817 x5_1).f0,(rd_T45 y817 x5_1).f1,(rd_T45 y817 x5_1).f2,wrap64 ((wrap64 ((wrap64 (x1_1 + 1)) + 1)) + 1)⟩ : S45)) (wrap64 ((wrap64 ((wrap64 ((wrap64 (x1_1 + 1)) + 1)) + 1)) + 1)) (wrap64 (x5_1 + 1)))) = some (r1,r2):=by first | (rw [hy816];with_reducible exact H) | (have H2_:=(Option.bind_some _ _).symm.trans H;rw [hy816];with_reducible exact H2_) | (have H2_:=(Option.bind_some _ _).symm.trans H;with_reducible exact H2_) | with_reducible exact H | (rw [hy816];exact H) | exact H
     have Ny816:=zMk hy816;clear hy816;obtain ⟨y817,hy817⟩ : ∃ y_ : List (S45),y_ = (y816.set (x5_1 : Int).toNat (⟨(rd_T45 y816 x5_1).f0,(rd_T45 y816 x5_1).f1,wrap64 ((wrap64 (x1_1 + 1)) + 1),(rd_T45 y816 x5_1).f3⟩ : S45)):=⟨_,rfl⟩;replace H : (laws_markRecS.l0 k1 (y817.set (x5_1 : Int).toNat (⟨(rd_T45 y817 x5_1).f0,(rd_T45 y817 x5_1).f1,(rd_T45 y817 x5_1).f2,wrap64 ((wrap64 ((wrap64 (x1_1 + 1)) + 1)) + 1)⟩ : S45)) (wrap64 ((wrap64 ((wrap64 ((wrap64 (x1_1 + 1)) + 1)) + 1)) + 1)) (wrap64 (x5_1 + 1))) = some (r1,r2):=by first | (rw [hy817];with_reducible exact H) | (have H2_:=(Option.bind_some _ _).symm.trans H;rw [hy817];with_reducible exact H2_) | (have H2_:=(Option.bind_some _ _).symm.trans H;with_reducible exact H2_) | with_reducible exact H | (rw [hy817];exact H) | exact H
     have Ny817:=zMk hy817;clear hy817;obtain ⟨y818,hy818⟩ : ∃ y_ : List (S45),y_ = (y817.set (x5_1 : Int).toNat (⟨(rd_T45 y817 x5_1).f0,(rd_T45 y817 x5_1).f1,(rd_T45 y817 x5_1).f2,wrap64 ((wrap64 ((wrap64 (x1_1 + 1)) + 1)) + 1)⟩ : S45)):=⟨_,rfl⟩;replace H : (laws_markRecS.l0 k1 y818 (wrap64 ((wrap64 ((wrap64 ((wrap64 (x1_1 + 1)) + 1)) + 1)) + 1)) (wrap64 (x5_1 + 1))) = some (r1,r2):=by first | (rw [hy818];with_reducible exact H) | (have H2_:=(Option.bind_some _ _).symm.trans H;rw [hy818];with_reducible exact H2_) | (have H2_:=(Option.bind_some _ _).symm.trans H;with_reducible exact H2_) | with_reducible exact H | (rw [hy818];exact H) | exact H
     have Ny818:=zMk hy818;clear hy818;have H':=zMk H;clear H;obtain ⟨Ao9,co9,eo9⟩:=Kd.R_slice HO_0.out;subst eo9;have p5 : 0 ≤ (x5_1 : Int):=zDe (by first | (with_reducible assumption) | assumption);have q5 : (x5_1 : Int) < ((x0_1.length : Int) : Int):=zDe (by first | (with_reducible assumption) | assumption);obtain ⟨go5,co5,eo5,gb5,gl5,cl5,HG5⟩:=Kd.R_form HO_0.out (by omega)
     (first | cases eo5 | (injection eo5 with ea_ en_ ec_;(first | subst ea_ | (injection ea_ with ea_;subst ea_));subst ec_;clear en_))
     have GB5:=zMk gb5;have GG5:=zMk HG5;clear gb5 gl5 HG5;have HMgo5:=zMk (show (P0_ go5 ∨ w.heap.size ≤ go5) from (HO_0.out.1 _ rfl));obtain ⟨ce5,hcl5,hM5,hcc5,hfr5⟩:=Kd.R_elem HO_0.out z45 (x5_1 : Int) p5 q5;obtain rfl:=k45_openM hM5;have hx5_0 : wr.cell? ⟨go5,(x5_1 : Int).toNat * 4,none⟩ = some (.int .i64 ((rd_T45 x0_1 x5_1).f0)):=hcc5 0 _ rfl;have hx5_1 : wr.cell? ⟨go5,(x5_1 : Int).toNat * 4 + 1,none⟩ = some (.int .i64 ((rd_T45 x0_1 x5_1).f1)):=hcc5 1 _ rfl;have hx5_2 : wr.cell? ⟨go5,(x5_1 : Int).toNat * 4 + 2,none⟩ = some (.int .i64 ((rd_T45 x0_1 x5_1).f2)):=hcc5 2 _ rfl;have hx5_3 : wr.cell? ⟨go5,(x5_1 : Int).toNat * 4 + 3,none⟩ = some (.int .i64 ((rd_T45 x0_1 x5_1).f3)):=hcc5 3 _ rfl;have hf5_0 : wr.frozen? ⟨go5,(x5_1 : Int).toNat * 4,none⟩ = false:=hfr5 0;have hf5_1 : wr.frozen? ⟨go5,(x5_1 : Int).toNat * 4 + 1,none⟩ = false:=hfr5 1;have hf5_2 : wr.frozen? ⟨go5,(x5_1 : Int).toNat * 4 + 2,none⟩ = false:=hfr5 2;have hf5_3 : wr.frozen? ⟨go5,(x5_1 : Int).toNat * 4 + 3,none⟩ = false:=hfr5 3;clear hcl5 hcc5 hfr5 hM5;replace p5:=eq_true p5;replace q5:=eq_true q5;have HX10:=zMk (show Kd.R k45 45 wr w0.heap.size (fun k_=>(P0_ k_ ∨ w.heap.size ≤ k_)) (.slice (some ⟨go5,0,none⟩) x0_1.length co9) x0_1 from (rs HO_0));obtain ⟨ce10,hcl10,hM10,hcc10,hfr10⟩:=Kd.R_elem HX10.out z45 (x5_1 : Int) (zDe (by first | (with_reducible assumption) | assumption)) (by have h_ : (x5_1 : Int) < ((x0_1.length : Int) : Int):=zDe (by first | (with_reducible assumption) | assumption);first | exact h_ | (have e_:=(Kd.R_reads' HO_0.out).1;omega) | simpa using h_);obtain rfl:=k45_openM hM10;have HP10:=Kd.R_seg HX10.out (x5_1 : Int) (zDe (by first | (with_reducible assumption) | assumption)) (by have h_ : (x5_1 : Int) < ((x0_1.length : Int) : Int):=zDe (by first | (with_reducible assumption) | assumption);first | exact h_ | (have e_:=(Kd.R_reads' HO_0.out).1;omega) | simpa using h_) (seg:=[.int .i64 x1_1]) (j:=0) hcl10 hcc10 (show 1 ≤ 4 from by decide) (x':=(⟨x1_1,(rd_T45 x0_1 x5_1).f1,(rd_T45 x0_1 x5_1).f2,(rd_T45 x0_1 x5_1).f3⟩ : S45)) (k45_mkM _ _ _ (⟨x1_1,(rd_T45 x0_1 x5_1).f1,(rd_T45 x0_1 x5_1).f2,(rd_T45 x0_1 x5_1).f3⟩ : S45) ) (fun _ hk=>hk);have hx10_0:=hcc10 0 _ rfl
     (try simp only [show (k45).sz = 4 from rfl,Nat.mul_one,Nat.add_zero] at hx10_0)
     have hf10_0:=hfr10 0
     (try simp only [show (k45).sz = 4 from rfl,Nat.mul_one,Nat.add_zero] at hf10_0)
     clear hcl10 hcc10 hfr10 hM10;go_wp2_with (first | ((with_reducible refine gate_store (t:=3) (p:=16) rfl ?_);refine store_event (t:=3) (p:=16) (v:=?vo_w11) (w1:=(wr.setCell ⟨go5,(x5_1 : Int).toNat * 4,none⟩ (.int .i64 x1_1))) ?hg ?ho ?hn ?hr ?_;(case ho=>rfl);(case hg=>rfl);(case hn=>rfl);(case hr=>first | (go_simp;done) | (go_simp;rfl));intro w11 hw;have hg : wr.grownBy w11 (some go5):=(by rw [hw];exact HP10.2);have hp_ : Kd.R k45 45 w11 w0.heap.size (fun k_=>(P0_ k_ ∨ w.heap.size ≤ k_)) (.slice (some ⟨go5,0,none⟩) x0_1.length co9) y815:=(by rw [hw,Ny815.out];exact HP10.1);clear HP10;have n0_:=zMk (hp_);have n1_:=zMk ((by rw [hw];exact below_set (HB.out) GB5.out : Below w0.heap.size w0 w11));have n2_:=zMk (Kept.of_grown (S:=(fun k_=>P0_ k_)) hg (by repeat (first | (with_reducible first | exact HK.out | apply Kept.alloc | apply Kept.drewN | apply Kept.drew) | exact HK.out)) (fun k_ e_=>(HO_0.out.1 k_ e_)));clear HO_0;clear HB;clear HK;have HO_0:=n0_;have HB:=n1_;have HK:=n2_;clear n0_ n1_ n2_;clear hg hw hp_;have p6 : 0 ≤ (x5_1 : Int):=zDe (by first | (with_reducible assumption) | assumption);have q6 : (x5_1 : Int) < ((x0_1.length : Int) : Int):=zDe (by first | (with_reducible assumption) | assumption);obtain ⟨ce6,hcl6,hM6,hcc6,hfr6⟩:=Kd.R_elem HO_0.out z45 (x5_1 : Int) p6 q6;obtain rfl:=k45_openM hM6;have hx6_0 : w11.cell? ⟨go5,(x5_1 : Int).toNat * 4,none⟩ = some (.int .i64 ((rd_T45 y815 x5_1).f0)):=hcc6 0 _ rfl;have hx6_1 : w11.cell? ⟨go5,(x5_1 : Int).toNat * 4 + 1,none⟩ = some (.int .i64 ((rd_T45 y815 x5_1).f1)):=hcc6 1 _ rfl;have hx6_2 : w11.cell? ⟨go5,(x5_1 : Int).toNat * 4 + 2,none⟩ = some (.int .i64 ((rd_T45 y815 x5_1).f2)):=hcc6 2 _ rfl;have hx6_3 : w11.cell? ⟨go5,(x5_1 : Int).toNat * 4 + 3,none⟩ = some (.int .i64 ((rd_T45 y815 x5_1).f3)):=hcc6 3 _ rfl;have hf6_0 : w11.frozen? ⟨go5,(x5_1 : Int).toNat * 4,none⟩ = false:=hfr6 0;have hf6_1 : w11.frozen? ⟨go5,(x5_1 : Int).toNat * 4 + 1,none⟩ = false:=hfr6 1;have hf6_2 : w11.frozen? ⟨go5,(x5_1 : Int).toNat * 4 + 2,none⟩ = false:=hfr6 2;have hf6_3 : w11.frozen? ⟨go5,(x5_1 : Int).toNat * 4 + 3,none⟩ = false:=hfr6 3;clear hcl6 hcc6 hfr6 hM6;replace p6:=eq_true p6;replace q6:=eq_true q6;have HX12:=zMk (show Kd.R k45 45 w11 w0.heap.size (fun k_=>(P0_ k_ ∨ w.heap.size ≤ k_)) (.slice (some ⟨go5,0,none⟩) x0_1.length co9) y815 from (rs HO_0));obtain ⟨ce12,hcl12,hM12,hcc12,hfr12⟩:=Kd.R_elem HX12.out z45 (x5_1 : Int) (zDe (by first | (with_reducible assumption) | assumption)) (by have h_ : (x5_1 : Int) < ((x0_1.length : Int) : Int):=zDe (by first | (with_reducible assumption) | assumption);first | exact h_ | (have e_:=(Kd.R_reads' HO_0.out).1;omega) | simpa using h_);obtain rfl:=k45_openM hM12;have HP12:=Kd.R_seg HX12.out (x5_1 : Int) (zDe (by first | (with_reducible assumption) | assumption)) (by have h_ : (x5_1 : Int) < ((x0_1.length : Int) : Int):=zDe (by first | (with_reducible assumption) | assumption);first | exact h_ | (have e_:=(Kd.R_reads' HO_0.out).1;omega) | simpa using h_) (seg:=[.int .i64 (wrap64 (x1_1 + 1))]) (j:=1) hcl12 hcc12 (show 2 ≤ 4 from by decide) (x':=(⟨(rd_T45 y815 x5_1).f0,wrap64 (x1_1 + 1),(rd_T45 y815 x5_1).f2,(rd_T45 y815 x5_1).f3⟩ : S45)) (k45_mkM _ _ _ (⟨(rd_T45 y815 x5_1).f0,wrap64 (x1_1 + 1),(rd_T45 y815 x5_1).f2,(rd_T45 y815 x5_1).f3⟩ : S45) ) (fun _ hk=>hk);have hx12_1:=hcc12 1 _ rfl;(try simp only [show (k45).sz = 4 from rfl,Nat.mul_one,Nat.add_zero] at hx12_1);have hf12_1:=hfr12 1;(try simp only [show (k45).sz = 4 from rfl,Nat.mul_one,Nat.add_zero] at hf12_1);clear hcl12 hcc12 hfr12 hM12) | ((with_reducible refine gate_store (t:=3) (p:=23) rfl ?_);refine store_event (t:=3) (p:=23) (v:=?vo_w13) (w1:=(w11.setCell ⟨go5,(x5_1 : Int).toNat * 4 + 1,none⟩ (.int .i64 (wrap64 (x1_1 + 1))))) ?hg ?ho ?hn ?hr ?_;(case ho=>rfl);(case hg=>rfl);(case hn=>rfl);(case hr=>first | (go_simp;done) | (go_simp;rfl));intro w13 hw;have hg : w11.grownBy w13 (some go5):=(by rw [hw];exact HP12.2);have hp_ : Kd.R k45 45 w13 w0.heap.size (fun k_=>(P0_ k_ ∨ w.heap.size ≤ k_)) (.slice (some ⟨go5,0,none⟩) x0_1.length co9) y816:=(by rw [hw,Ny816.out];exact HP12.1);clear HP12;have n0_:=zMk (hp_);have n1_:=zMk ((by rw [hw];exact below_set (HB.out) GB5.out : Below w0.heap.size w0 w13));have n2_:=zMk (Kept.of_grown (S:=(fun k_=>P0_ k_)) hg (by repeat (first | (with_reducible first | exact HK.out | apply Kept.alloc | apply Kept.drewN | apply Kept.drew) | exact HK.out)) (fun k_ e_=>(HO_0.out.1 k_ e_)));clear HO_0;clear HB;clear HK;have HO_0:=n0_;have HB:=n1_;have HK:=n2_;clear n0_ n1_ n2_;clear hg hw hp_;have p7 : 0 ≤ (x5_1 : Int):=zDe (by first | (with_reducible assumption) | assumption);have q7 : (x5_1 : Int) < ((x0_1.length : Int) : Int):=zDe (by first | (with_reducible assumption) | assumption);obtain ⟨ce7,hcl7,hM7,hcc7,hfr7⟩:=Kd.R_elem HO_0.out z45 (x5_1 : Int) p7 q7;obtain rfl:=k45_openM hM7;have hx7_0 : w13.cell? ⟨go5,(x5_1 : Int).toNat * 4,none⟩ = some (.int .i64 ((rd_T45 y816 x5_1).f0)):=hcc7 0 _ rfl;have hx7_1 : w13.cell? ⟨go5,(x5_1 : Int).toNat * 4 + 1,none⟩ = some (.int .i64 ((rd_T45 y816 x5_1).f1)):=hcc7 1 _ rfl;have hx7_2 : w13.cell? ⟨go5,(x5_1 : Int).toNat * 4 + 2,none⟩ = some (.int .i64 ((rd_T45 y816 x5_1).f2)):=hcc7 2 _ rfl;have hx7_3 : w13.cell? ⟨go5,(x5_1 : Int).toNat * 4 + 3,none⟩ = some (.int .i64 ((rd_T45 y816 x5_1).f3)):=hcc7 3 _ rfl;have hf7_0 : w13.frozen? ⟨go5,(x5_1 : Int).toNat * 4,none⟩ = false:=hfr7 0;have hf7_1 : w13.frozen? ⟨go5,(x5_1 : Int).toNat * 4 + 1,none⟩ = false:=hfr7 1;have hf7_2 : w13.frozen? ⟨go5,(x5_1 : Int).toNat * 4 + 2,none⟩ = false:=hfr7 2;have hf7_3 : w13.frozen? ⟨go5,(x5_1 : Int).toNat * 4 + 3,none⟩ = false:=hfr7 3;clear hcl7 hcc7 hfr7 hM7;replace p7:=eq_true p7;replace q7:=eq_true q7;have HX14:=zMk (show Kd.R k45 45 w13 w0.heap.size (fun k_=>(P0_ k_ ∨ w.heap.size ≤ k_)) (.slice (some ⟨go5,0,none⟩) x0_1.length co9) y816 from (rs HO_0));obtain ⟨ce14,hcl14,hM14,hcc14,hfr14⟩:=Kd.R_elem HX14.out z45 (x5_1 : Int) (zDe (by first | (with_reducible assumption) | assumption)) (by have h_ : (x5_1 : Int) < ((x0_1.length : Int) : Int):=zDe (by first | (with_reducible assumption) | assumption);first | exact h_ | (have e_:=(Kd.R_reads' HO_0.out).1;omega) | simpa using h_);obtain rfl:=k45_openM hM14;have HP14:=Kd.R_seg HX14.out (x5_1 : Int) (zDe (by first | (with_reducible assumption) | assumption)) (by have h_ : (x5_1 : Int) < ((x0_1.length : Int) : Int):=zDe (by first | (with_reducible assumption) | assumption);first | exact h_ | (have e_:=(Kd.R_reads' HO_0.out).1;omega) | simpa using h_) (seg:=[.int .i64 (wrap64 ((wrap64 (x1_1 + 1)) + 1))]) (j:=2) hcl14 hcc14 (show 3 ≤ 4 from by decide) (x':=(⟨(rd_T45 y816 x5_1).f0,(rd_T45 y816 x5_1).f1,wrap64 ((wrap64 (x1_1 + 1)) + 1),(rd_T45 y816 x5_1).f3⟩ : S45)) (k45_mkM _ _ _ (⟨(rd_T45 y816 x5_1).f0,(rd_T45 y816 x5_1).f1,wrap64 ((wrap64 (x1_1 + 1)) + 1),(rd_T45 y816 x5_1).f3⟩ : S45) ) (fun _ hk=>hk);have hx14_2:=hcc14 2 _ rfl;(try simp only [show (k45).sz = 4 from rfl,Nat.mul_one,Nat.add_zero] at hx14_2);have hf14_2:=hfr14 2;(try simp only [show (k45).sz = 4 from rfl,Nat.mul_one,Nat.add_zero] at hf14_2);clear hcl14 hcc14 hfr14 hM14) | ((with_reducible refine gate_store (t:=3) (p:=30) rfl ?_);refine store_event (t:=3) (p:=30) (v:=?vo_w15) (w1:=(w13.setCell ⟨go5,(x5_1 : Int).toNat * 4 + 2,none⟩ (.int .i64 (wrap64 ((wrap64 (x1_1 + 1)) + 1))))) ?hg ?ho ?hn ?hr ?_;(case ho=>rfl);(case hg=>rfl);(case hn=>rfl);(case hr=>first | (go_simp;done) | (go_simp;rfl));intro w15 hw;have hg : w13.grownBy w15 (some go5):=(by rw [hw];exact HP14.2);have hp_ : Kd.R k45 45 w15 w0.heap.size (fun k_=>(P0_ k_ ∨ w.heap.size ≤ k_)) (.slice (some ⟨go5,0,none⟩) x0_1.length co9) y817:=(by rw [hw,Ny817.out];exact HP14.1);clear HP14;have n0_:=zMk (hp_);have n1_:=zMk ((by rw [hw];exact below_set (HB.out) GB5.out : Below w0.heap.size w0 w15));have n2_:=zMk (Kept.of_grown (S:=(fun k_=>P0_ k_)) hg (by repeat (first | (with_reducible first | exact HK.out | apply Kept.alloc | apply Kept.drewN | apply Kept.drew) | exact HK.out)) (fun k_ e_=>(HO_0.out.1 k_ e_)));clear HO_0;clear HB;clear HK;have HO_0:=n0_;have HB:=n1_;have HK:=n2_;clear n0_ n1_ n2_;clear hg hw hp_;have p8 : 0 ≤ (x5_1 : Int):=zDe (by first | (with_reducible assumption) | assumption);have q8 : (x5_1 : Int) < ((x0_1.length : Int) : Int):=zDe (by first | (with_reducible assumption) | assumption);obtain ⟨ce8,hcl8,hM8,hcc8,hfr8⟩:=Kd.R_elem HO_0.out z45 (x5_1 : Int) p8 q8;obtain rfl:=k45_openM hM8;have hx8_0 : w15.cell? ⟨go5,(x5_1 : Int).toNat * 4,none⟩ = some (.int .i64 ((rd_T45 y817 x5_1).f0)):=hcc8 0 _ rfl;have hx8_1 : w15.cell? ⟨go5,(x5_1 : Int).toNat * 4 + 1,none⟩ = some (.int .i64 ((rd_T45 y817 x5_1).f1)):=hcc8 1 _ rfl;have hx8_2 : w15.cell? ⟨go5,(x5_1 : Int).toNat * 4 + 2,none⟩ = some (.int .i64 ((rd_T45 y817 x5_1).f2)):=hcc8 2 _ rfl;have hx8_3 : w15.cell? ⟨go5,(x5_1 : Int).toNat * 4 + 3,none⟩ = some (.int .i64 ((rd_T45 y817 x5_1).f3)):=hcc8 3 _ rfl;have hf8_0 : w15.frozen? ⟨go5,(x5_1 : Int).toNat * 4,none⟩ = false:=hfr8 0;have hf8_1 : w15.frozen? ⟨go5,(x5_1 : Int).toNat * 4 + 1,none⟩ = false:=hfr8 1;have hf8_2 : w15.frozen? ⟨go5,(x5_1 : Int).toNat * 4 + 2,none⟩ = false:=hfr8 2;have hf8_3 : w15.frozen? ⟨go5,(x5_1 : Int).toNat * 4 + 3,none⟩ = false:=hfr8 3;clear hcl8 hcc8 hfr8 hM8;replace p8:=eq_true p8;replace q8:=eq_true q8;have HX16:=zMk (show Kd.R k45 45 w15 w0.heap.size (fun k_=>(P0_ k_ ∨ w.heap.size ≤ k_)) (.slice (some ⟨go5,0,none⟩) x0_1.length co9) y817 from (rs HO_0));obtain ⟨ce16,hcl16,hM16,hcc16,hfr16⟩:=Kd.R_elem HX16.out z45 (x5_1 : Int) (zDe (by first | (with_reducible assumption) | assumption)) (by have h_ : (x5_1 : Int) < ((x0_1.length : Int) : Int):=zDe (by first | (with_reducible assumption) | assumption);first | exact h_ | (have e_:=(Kd.R_reads' HO_0.out).1;omega) | simpa using h_);obtain rfl:=k45_openM hM16;have HP16:=Kd.R_seg HX16.out (x5_1 : Int) (zDe (by first | (with_reducible assumption) | assumption)) (by have h_ : (x5_1 : Int) < ((x0_1.length : Int) : Int):=zDe (by first | (with_reducible assumption) | assumption);first | exact h_ | (have e_:=(Kd.R_reads' HO_0.out).1;omega) | simpa using h_) (seg:=[.int .i64 (wrap64 ((wrap64 ((wrap64 (x1_1 + 1)) + 1)) + 1))]) (j:=3) hcl16 hcc16 (show 4 ≤ 4 from by decide) (x':=(⟨(rd_T45 y817 x5_1).f0,(rd_T45 y817 x5_1).f1,(rd_T45 y817 x5_1).f2,wrap64 ((wrap64 ((wrap64 (x1_1 + 1)) + 1)) + 1)⟩ : S45)) (k45_mkM _ _ _ (⟨(rd_T45 y817 x5_1).f0,(rd_T45 y817 x5_1).f1,(rd_T45 y817 x5_1).f2,wrap64 ((wrap64 ((wrap64 (x1_1 + 1)) + 1)) + 1)⟩ : S45) ) (fun _ hk=>hk);have hx16_3:=hcc16 3 _ rfl;(try simp only [show (k45).sz = 4 from rfl,Nat.mul_one,Nat.add_zero] at hx16_3);have hf16_3:=hfr16 3;(try simp only [show (k45).sz = 4 from rfl,Nat.mul_one,Nat.add_zero] at hf16_3);clear hcl16 hcc16 hfr16 hM16) | ((with_reducible refine gate_store (t:=3) (p:=37) rfl ?_);refine store_event (t:=3) (p:=37) (v:=?vo_w17) (w1:=(w15.setCell ⟨go5,(x5_1 : Int).toNat * 4 + 3,none⟩ (.int .i64 (wrap64 ((wrap64 ((wrap64 (x1_1 + 1)) + 1)) + 1))))) ?hg ?ho ?hn ?hr ?_;(case ho=>rfl);(case hg=>rfl);(case hn=>rfl);(case hr=>first | (go_simp;done) | (go_simp;rfl));intro w17 hw;have hg : w15.grownBy w17 (some go5):=(by rw [hw];exact HP16.2);have hp_ : Kd.R k45 45 w17 w0.heap.size (fun k_=>(P0_ k_ ∨ w.heap.size ≤ k_)) (.slice (some ⟨go5,0,none⟩) x0_1.length co9) y818:=(by rw [hw,Ny818.out];exact HP16.1);clear HP16;have n0_:=zMk (hp_);have n1_:=zMk ((by rw [hw];exact below_set (HB.out) GB5.out : Below w0.heap.size w0 w17));have n2_:=zMk (Kept.of_grown (S:=(fun k_=>P0_ k_)) hg (by repeat (first | (with_reducible first | exact HK.out | apply Kept.alloc | apply Kept.drewN | apply Kept.drew) | exact HK.out)) (fun k_ e_=>(HO_0.out.1 k_ e_)));clear HO_0;clear HB;clear HK;have HO_0:=n0_;have HB:=n1_;have HK:=n2_;clear n0_ n1_ n2_;clear hg hw hp_));go_roundg k1;case measure=>have:=HK1.out;omega
     case rel=>exact ⟨(y818),(wrap64 ((wrap64 ((wrap64 ((wrap64 (x1_1 + 1)) + 1)) + 1)) + 1)),(wrap64 (x5_1 + 1)),(by first | rfl | (simp;done) | (simp [*];done)),(by first | rfl | (simp;done) | (simp [*];done)),H',⟨by have:=HK1.out;omega⟩,⟨rs HO_0⟩,⟨by repeat (first | (with_reducible first | exact HK.out | apply Kept.alloc | apply Kept.drewN | apply Kept.drew) | exact HK.out)⟩,⟨hs HB⟩⟩
    rw [if_neg c4] at H;exact absurd H (by simp)
   rw [if_neg c3] at H;have c3b0 : decide (x5_1 < (x0_1.length : Int)) = false:=decide_eq_false c3;clear c3;simp only [Option.some.injEq,Prod.mk.injEq] at H;obtain ⟨rfl,rfl⟩:=H;obtain ⟨Ao18,co18,eo18⟩:=Kd.R_slice HO_0.out;subst eo18
   go_wp2
   go_ret
   exact ⟨by first | rfl | (simp [errW_none,errW_some] <;> rfl) | (simp [*,errW_none,errW_some] <;> rfl),rs HO_0,hs HB,by repeat (first | (with_reducible first | exact HK.out | apply Kept.alloc | apply Kept.drewN | apply Kept.drew) | exact HK.out)⟩
def laws_heldRecS.l0 : Nat → List (S45) → Int → Int → Option (Int)
 | 0,_,_,_=>none
 | k + 1,x0,x1,x5=>if x5 < (x0.length : Int) then (if 0 ≤ x5 then (if ((rd_T45 x0 x5).f0) = x1 then (if ((rd_T45 x0 x5).f1) = (wrap64 (x1 + 1)) then (if ((rd_T45 x0 x5).f2) = (wrap64 ((wrap64 (x1 + 1)) + 1)) then (if ((rd_T45 x0 x5).f3) = (wrap64 ((wrap64 ((wrap64 (x1 + 1)) + 1)) + 1)) then (laws_heldRecS.l0 k x0 (wrap64 ((wrap64 ((wrap64 ((wrap64 (x1 + 1)) + 1)) + 1)) + 1)) (wrap64 (x5 + 1))) else (some (-1))) else (some (-1))) else (some (-1))) else (some (-1))) else (none)) else (some x1)
def laws_heldRecS.f (k : Nat) (l0 : List (S45)) (a1 : Int) : Option (Int):=laws_heldRecS.l0 k l0 a1 0
theorem laws_heldRecS.mono_l : ∀ k,(∀ y0 y1 y2,LeO (laws_heldRecS.l0 k y0 y1 y2) (laws_heldRecS.l0 (k + 1) y0 y1 y2))
 | 0=>fun _ _ _ r h=>by simp [laws_heldRecS.l0] at h
 | k + 1=>by
  have ih0:=laws_heldRecS.mono_l k;intro y0 y1 y2;unfold laws_heldRecS.l0
  repeat' first
  | (with_reducible exact ih0 _ _ _)
  | (with_reducible exact LeO.refl _)
  | (with_reducible exact LeO.none _)
  | (with_reducible refine LeO.ite ?_ ?_)
  | (with_reducible refine LeO.bind ?_ (fun _=>?_))
  | exact ih0 _ _ _
  | exact LeO.none _
  | refine LeO.ite ?_ ?_
  | refine LeO.bind ?_ (fun _=>?_)
theorem laws_heldRecS.mono : ∀ a0 a1 k,LeO (laws_heldRecS.f k a0 a1) (laws_heldRecS.f (k + 1) a0 a1):=by
 intro a0 a1 k;have ih0:=laws_heldRecS.mono_l k;unfold laws_heldRecS.f
 repeat' first
   | (with_reducible exact ih0 _ _ _)
   | (with_reducible exact LeO.refl _)
   | (with_reducible exact LeO.none _)
   | (with_reducible refine LeO.ite ?_ ?_)
   | (with_reducible refine LeO.bind ?_ (fun _=>?_))
   | exact ih0 _ _ _
   | exact LeO.none _
   | refine LeO.ite ?_ ?_
   | refine LeO.bind ?_ (fun _=>?_)
set_option maxHeartbeats 8000000 in
set_option maxRecDepth 100000 in
theorem laws_heldRecS.calls (k : Nat) (A0 : Option Addr) (c0 : Nat) (l0 : List (S45)) (a1 : Int) (r : Int) (w : World) (hr0 : Kd.C k45 w A0 l0.length l0) (hc0 : l0.length ≤ c0) (h : laws_heldRecS.f k l0 a1 = some r) :
  Calls Try.prog 47 #[.slice A0 l0.length c0,.int .i64 a1] w fun e w'=>e = .returned (.int .i64 r) ∧ Drawn0 w w':=by
 have HR0:=zMk hr0;have HC0:=zMk hc0;clear hr0 hc0;have H : (laws_heldRecS.l0 k l0 a1 0) = some r:=h;clear h;have H':=zMk H;clear H
 go_enter Try.func47,Try.ntmps47
 go_wp2
 go_loopg [1,5] k (fun kq v1 v5 w'=>∃ (x1_1 : Int) (x5_1 : Int),v1 = .int .i64 x1_1 ∧ v5 = .int .i64 x5_1 ∧ Aside0 (laws_heldRecS.l0 kq l0 x1_1 x5_1 = some r) ∧ Aside0 (kq ≤ k) ∧ Drawn0 w w');case atStart=>exact ⟨(a1),(0),(by first | rfl | (simp;done) | (simp [*];done)),(by first | rfl | (simp;done) | (simp [*];done)),H',⟨Nat.le_refl _⟩,by repeat (first | exact Drawn0.refl _ | apply Drawn0.step)⟩
 case round =>
  clear H'
  try clear p2
  obtain ⟨x1_1,x5_1,rfl,rfl,HA,HK1,⟨m1,rfl⟩⟩:=hrel;cases gk with
  | zero=>exact absurd HA.out (by simp [laws_heldRecS.l0])
  | succ k1 =>
   have H:=HA.out;clear HA;simp only [laws_heldRecS.l0] at H
   by_cases c3 : x5_1 < (l0.length : Int)
   ·rw [if_pos c3] at H;have c3b0 : decide (x5_1 < (l0.length : Int)) = true:=decide_eq_true c3;clear c3
    by_cases c4 : 0 ≤ x5_1
    ·rw [if_pos c4] at H;have c4b0 : decide (0 ≤ x5_1) = true:=decide_eq_true c4;clear c4
     by_cases c5 : ((rd_T45 l0 x5_1).f0) = x1_1
     ·rw [if_pos c5] at H;have c5b0 : (((rd_T45 l0 x5_1).f0) == x1_1) = true:=beq_iff_eq.mpr c5;have c5b1 : (((rd_T45 l0 x5_1).f0) != x1_1) = false:=bne_eq_false_iff_eq.mpr c5;clear c5
      by_cases c6 : ((rd_T45 l0 x5_1).f1) = (wrap64 (x1_1 + 1))
      ·rw [if_pos c6] at H;have c6b0 : (((rd_T45 l0 x5_1).f1) == (wrap64 (x1_1 + 1))) = true:=beq_iff_eq.mpr c6;have c6b1 : (((rd_T45 l0 x5_1).f1) != (wrap64 (x1_1 + 1))) = false:=bne_eq_false_iff_eq.mpr c6;clear c6
       by_cases c7 : ((rd_T45 l0 x5_1).f2) = (wrap64 ((wrap64 (x1_1 + 1)) + 1))
       ·rw [if_pos c7] at H;have c7b0 : (((rd_T45 l0 x5_1).f2) == (wrap64 ((wrap64 (x1_1 + 1)) + 1))) = true:=beq_iff_eq.mpr c7;have c7b1 : (((rd_T45 l0 x5_1).f2) != (wrap64 ((wrap64 (x1_1 + 1)) + 1))) = false:=bne_eq_false_iff_eq.mpr c7;clear c7
        by_cases c8 : ((rd_T45 l0 x5_1).f3) = (wrap64 ((wrap64 ((wrap64 (x1_1 + 1)) + 1)) + 1))
        ·rw [if_pos c8] at H;have c8b0 : (((rd_T45 l0 x5_1).f3) == (wrap64 ((wrap64 ((wrap64 (x1_1 + 1)) + 1)) + 1))) = true:=beq_iff_eq.mpr c8;have c8b1 : (((rd_T45 l0 x5_1).f3) != (wrap64 ((wrap64 ((wrap64 (x1_1 + 1)) + 1)) + 1))) = false:=bne_eq_false_iff_eq.mpr c8;clear c8;have H':=zMk H;clear H;have p822 : 0 ≤ (x5_1 : Int):=zDe (by first | (with_reducible assumption) | assumption);have q822 : x5_1 < (l0.length : Int):=zDe (by first | (with_reducible assumption) | assumption);obtain ⟨ad822,e822,hx822_0,hx822_1,hx822_2,hx822_3⟩:=at_T45 HR0.out x5_1 p822 q822;cases e822;replace p822:=eq_true p822;replace q822:=eq_true q822;have p823 : 0 ≤ (x5_1 : Int):=zDe (by first | (with_reducible assumption) | assumption);have q823 : x5_1 < (l0.length : Int):=zDe (by first | (with_reducible assumption) | assumption);obtain ⟨ad823,e823,hx823_0,hx823_1,hx823_2,hx823_3⟩:=at_T45 HR0.out x5_1 p823 q823;obtain rfl : ad822 = ad823:=(by injection e823);replace p823:=eq_true p823;replace q823:=eq_true q823;have p824 : 0 ≤ (x5_1 : Int):=zDe (by first | (with_reducible assumption) | assumption);have q824 : x5_1 < (l0.length : Int):=zDe (by first | (with_reducible assumption) | assumption);obtain ⟨ad824,e824,hx824_0,hx824_1,hx824_2,hx824_3⟩:=at_T45 HR0.out x5_1 p824 q824;obtain rfl : ad822 = ad824:=(by injection e824);replace p824:=eq_true p824;replace q824:=eq_true q824;have p825 : 0 ≤ (x5_1 : Int):=zDe (by first | (with_reducible assumption) | assumption);have q825 : x5_1 < (l0.length : Int):=zDe (by first | (with_reducible assumption) | assumption);obtain ⟨ad825,e825,hx825_0,hx825_1,hx825_2,hx825_3⟩:=at_T45 HR0.out x5_1 p825 q825;obtain rfl : ad822 = ad825:=(by injection e825);replace p825:=eq_true p825;replace q825:=eq_true q825
         go_wp2
         go_roundg k1;case measure=>have:=HK1.out;omega
         case rel=>exact ⟨(wrap64 ((wrap64 ((wrap64 ((wrap64 (x1_1 + 1)) + 1)) + 1)) + 1)),(wrap64 (x5_1 + 1)),(by first | rfl | (simp;done) | (simp [*];done)),(by first | rfl | (simp;done) | (simp [*];done)),H',⟨by have:=HK1.out;omega⟩,by repeat (first | exact Drawn0.refl _ | apply Drawn0.step)⟩
        rw [if_neg c8] at H;have c8b0 : (((rd_T45 l0 x5_1).f3) == (wrap64 ((wrap64 ((wrap64 (x1_1 + 1)) + 1)) + 1))) = false:=beq_eq_false_iff_ne.mpr c8;have c8b1 : (((rd_T45 l0 x5_1).f3) != (wrap64 ((wrap64 ((wrap64 (x1_1 + 1)) + 1)) + 1))) = true:=bne_iff_ne.mpr c8;obtain rfl:=Option.some.inj H;have p822 : 0 ≤ (x5_1 : Int):=zDe (by first | (with_reducible assumption) | assumption);have q822 : x5_1 < (l0.length : Int):=zDe (by first | (with_reducible assumption) | assumption);obtain ⟨ad822,e822,hx822_0,hx822_1,hx822_2,hx822_3⟩:=at_T45 HR0.out x5_1 p822 q822;cases e822;replace p822:=eq_true p822;replace q822:=eq_true q822;have p823 : 0 ≤ (x5_1 : Int):=zDe (by first | (with_reducible assumption) | assumption);have q823 : x5_1 < (l0.length : Int):=zDe (by first | (with_reducible assumption) | assumption);obtain ⟨ad823,e823,hx823_0,hx823_1,hx823_2,hx823_3⟩:=at_T45 HR0.out x5_1 p823 q823;obtain rfl : ad822 = ad823:=(by injection e823);replace p823:=eq_true p823;replace q823:=eq_true q823;have p824 : 0 ≤ (x5_1 : Int):=zDe (by first | (with_reducible assumption) | assumption);have q824 : x5_1 < (l0.length : Int):=zDe (by first | (with_reducible assumption) | assumption);obtain ⟨ad824,e824,hx824_0,hx824_1,hx824_2,hx824_3⟩:=at_T45 HR0.out x5_1 p824 q824;obtain rfl : ad822 = ad824:=(by injection e824);replace p824:=eq_true p824;replace q824:=eq_true q824;have p825 : 0 ≤ (x5_1 : Int):=zDe (by first | (with_reducible assumption) | assumption);have q825 : x5_1 < (l0.length : Int):=zDe (by first | (with_reducible assumption) | assumption);obtain ⟨ad825,e825,hx825_0,hx825_1,hx825_2,hx825_3⟩:=at_T45 HR0.out x5_1 p825 q825;obtain rfl : ad822 = ad825:=(by injection e825);replace p825:=eq_true p825;replace q825:=eq_true q825
        go_wp2
        go_ret
        exact ⟨by first | rfl | (simp;done) | (simp [*];done),by repeat (first | exact Drawn0.refl _ | apply Drawn0.step)⟩
       rw [if_neg c7] at H;have c7b0 : (((rd_T45 l0 x5_1).f2) == (wrap64 ((wrap64 (x1_1 + 1)) + 1))) = false:=beq_eq_false_iff_ne.mpr c7;have c7b1 : (((rd_T45 l0 x5_1).f2) != (wrap64 ((wrap64 (x1_1 + 1)) + 1))) = true:=bne_iff_ne.mpr c7;obtain rfl:=Option.some.inj H;have p822 : 0 ≤ (x5_1 : Int):=zDe (by first | (with_reducible assumption) | assumption);have q822 : x5_1 < (l0.length : Int):=zDe (by first | (with_reducible assumption) | assumption);obtain ⟨ad822,e822,hx822_0,hx822_1,hx822_2,hx822_3⟩:=at_T45 HR0.out x5_1 p822 q822;cases e822;replace p822:=eq_true p822;replace q822:=eq_true q822;have p823 : 0 ≤ (x5_1 : Int):=zDe (by first | (with_reducible assumption) | assumption);have q823 : x5_1 < (l0.length : Int):=zDe (by first | (with_reducible assumption) | assumption);obtain ⟨ad823,e823,hx823_0,hx823_1,hx823_2,hx823_3⟩:=at_T45 HR0.out x5_1 p823 q823;obtain rfl : ad822 = ad823:=(by injection e823);replace p823:=eq_true p823;replace q823:=eq_true q823;have p824 : 0 ≤ (x5_1 : Int):=zDe (by first | (with_reducible assumption) | assumption);have q824 : x5_1 < (l0.length : Int):=zDe (by first | (with_reducible assumption) | assumption);obtain ⟨ad824,e824,hx824_0,hx824_1,hx824_2,hx824_3⟩:=at_T45 HR0.out x5_1 p824 q824;obtain rfl : ad822 = ad824:=(by injection e824);replace p824:=eq_true p824;replace q824:=eq_true q824
       go_wp2
       go_ret
       exact ⟨by first | rfl | (simp;done) | (simp [*];done),by repeat (first | exact Drawn0.refl _ | apply Drawn0.step)⟩
      rw [if_neg c6] at H;have c6b0 : (((rd_T45 l0 x5_1).f1) == (wrap64 (x1_1 + 1))) = false:=beq_eq_false_iff_ne.mpr c6;have c6b1 : (((rd_T45 l0 x5_1).f1) != (wrap64 (x1_1 + 1))) = true:=bne_iff_ne.mpr c6;obtain rfl:=Option.some.inj H;have p822 : 0 ≤ (x5_1 : Int):=zDe (by first | (with_reducible assumption) | assumption);have q822 : x5_1 < (l0.length : Int):=zDe (by first | (with_reducible assumption) | assumption);obtain ⟨ad822,e822,hx822_0,hx822_1,hx822_2,hx822_3⟩:=at_T45 HR0.out x5_1 p822 q822;cases e822;replace p822:=eq_true p822;replace q822:=eq_true q822;have p823 : 0 ≤ (x5_1 : Int):=zDe (by first | (with_reducible assumption) | assumption);have q823 : x5_1 < (l0.length : Int):=zDe (by first | (with_reducible assumption) | assumption);obtain ⟨ad823,e823,hx823_0,hx823_1,hx823_2,hx823_3⟩:=at_T45 HR0.out x5_1 p823 q823;obtain rfl : ad822 = ad823:=(by injection e823);replace p823:=eq_true p823;replace q823:=eq_true q823
      go_wp2
      go_ret
      exact ⟨by first | rfl | (simp;done) | (simp [*];done),by repeat (first | exact Drawn0.refl _ | apply Drawn0.step)⟩
     rw [if_neg c5] at H;have c5b0 : (((rd_T45 l0 x5_1).f0) == x1_1) = false:=beq_eq_false_iff_ne.mpr c5;have c5b1 : (((rd_T45 l0 x5_1).f0) != x1_1) = true:=bne_iff_ne.mpr c5;obtain rfl:=Option.some.inj H;have p822 : 0 ≤ (x5_1 : Int):=zDe (by first | (with_reducible assumption) | assumption);have q822 : x5_1 < (l0.length : Int):=zDe (by first | (with_reducible assumption) | assumption);obtain ⟨ad822,e822,hx822_0,hx822_1,hx822_2,hx822_3⟩:=at_T45 HR0.out x5_1 p822 q822;cases e822;replace p822:=eq_true p822;replace q822:=eq_true q822
     go_wp2
     go_ret
     exact ⟨by first | rfl | (simp;done) | (simp [*];done),by repeat (first | exact Drawn0.refl _ | apply Drawn0.step)⟩
    rw [if_neg c4] at H;exact absurd H (by simp)
   rw [if_neg c3] at H;have c3b0 : decide (x5_1 < (l0.length : Int)) = false:=decide_eq_false c3;clear c3;obtain rfl:=Option.some.inj H
   go_wp2
   go_ret
   exact ⟨by first | rfl | (simp;done) | (simp [*];done),by repeat (first | exact Drawn0.refl _ | apply Drawn0.step)⟩
end Go.Proofs.Ytodokejcmbjpbaa.PK

/- Marks of a row of records, and a row of records held against itself. -/
namespace Go.Proofs.Ytodokejcmbjpbaa.Pu
open Go.RowKit Go.Proofs.Ytodokejcmbjpbaa.PK Go.Proofs.YtodokejcmbjpbaaW.PrintWords
theorem mark_recs (l : List S45) (a : Int) (hn : (l.length : Int) ≤ 1099511627776) (ha : 0 ≤ a) (hM : a + l.length * 4 ≤ 4611686018427387904) :
    ∃ a' l', l'.length = l.length ∧ Ev (fun k => laws_markRecS.f k l a) (a', l') ∧ Ev (fun k => laws_heldRecS.f k l' a) a' ∧ a ≤ a' ∧ a' ≤ a + l.length * 4 := by
  obtain ⟨a', l', h1, _, h2, h3, h4, h5⟩ := ev_mark z45 (L := fun k xs a i => laws_markRecS.l0 k xs a i) (Hd := fun k xs a i => laws_heldRecS.l0 k xs a i)
    (fun _ x a => some (wrap64 ((wrap64 ((wrap64 ((wrap64 (a + 1)) + 1)) + 1)) + 1), (⟨a, wrap64 (a + 1), wrap64 ((wrap64 (a + 1)) + 1), wrap64 ((wrap64 ((wrap64 (a + 1)) + 1)) + 1)⟩ : S45))) (fun _ x a => (if x.f0 = a then (if x.f1 = (wrap64 (a + 1)) then (if x.f2 = (wrap64 ((wrap64 (a + 1)) + 1)) then (if x.f3 = (wrap64 ((wrap64 ((wrap64 (a + 1)) + 1)) + 1)) then some (wrap64 ((wrap64 ((wrap64 ((wrap64 (a + 1)) + 1)) + 1)) + 1)) else some (-1)) else some (-1)) else some (-1)) else some (-1))) 4 (fun _ => True)
    (fun k xs a i hi _ _ => by
      have e1 : ∀ v, rd_T45 (xs.set i v) (i : Int) = v := fun v => getD_set_self hi
      simp only [laws_markRecS.l0]
      rw [if_pos (by omega), if_pos (by omega)]
      simp only [Option.bind_some, Int.toNat_natCast, e1, List.set_set])
    (fun k xs a i hi => by
      simp only [laws_markRecS.l0]
      rw [if_neg (by omega)])
    (fun k xs a i hi h0 h1 => by
      have er : rd_T45 xs (i : Int) = xs.getD i z45 := rfl
      have ew : wrap64 ((wrap64 ((wrap64 ((wrap64 (a + 1)) + 1)) + 1)) + 1) = a + 4 := by rw [w64 (x := a + 1) (by omega) (by omega)]; rw [w64 (x := a + 1 + 1) (by omega) (by omega)]; rw [w64 (x := a + 1 + 1 + 1) (by omega) (by omega)]; rw [w64 (x := a + 1 + 1 + 1 + 1) (by omega) (by omega)]; omega
      simp only [laws_heldRecS.l0]
      rw [if_pos (by omega), if_pos (by omega), er]
      generalize xs.getD i z45 = y
      by_cases q0 : y.f0 = a
      rotate_left
      · simp only [if_neg q0, Option.bind_some]
        rw [if_pos (by omega)]
      by_cases q1 : y.f1 = wrap64 (a + 1)
      rotate_left
      · simp only [if_pos q0, if_neg q1, Option.bind_some]
        rw [if_pos (by omega)]
      by_cases q2 : y.f2 = wrap64 ((wrap64 (a + 1)) + 1)
      rotate_left
      · simp only [if_pos q0, if_pos q1, if_neg q2, Option.bind_some]
        rw [if_pos (by omega)]
      by_cases q3 : y.f3 = wrap64 ((wrap64 ((wrap64 (a + 1)) + 1)) + 1)
      rotate_left
      · simp only [if_pos q0, if_pos q1, if_pos q2, if_neg q3, Option.bind_some]
        rw [if_pos (by omega)]
      simp only [if_pos q0, if_pos q1, if_pos q2, if_pos q3, Option.bind_some]
      rw [if_neg (by omega)])
    (fun k xs a i hi => by
      simp only [laws_heldRecS.l0]
      rw [if_neg (by omega)])
    (by omega)
    (fun x a _ h0 h1 => by
      have ew : wrap64 ((wrap64 ((wrap64 ((wrap64 (a + 1)) + 1)) + 1)) + 1) = a + 4 := by rw [w64 (x := a + 1) (by omega) (by omega)]; rw [w64 (x := a + 1 + 1) (by omega) (by omega)]; rw [w64 (x := a + 1 + 1 + 1) (by omega) (by omega)]; rw [w64 (x := a + 1 + 1 + 1 + 1) (by omega) (by omega)]; omega
      exact ⟨a + 4, ⟨a, wrap64 (a + 1), wrap64 ((wrap64 (a + 1)) + 1), wrap64 ((wrap64 ((wrap64 (a + 1)) + 1)) + 1)⟩, by simp only [ew]; exact Ev.now _, by simp only [if_true, ew]; exact Ev.now _, by omega, by omega⟩)
    l.length 0 l a (by omega) (by omega) (fun _ _ _ => trivial) ha (by omega)
  exact ⟨a', l', h1, h2, h3, h4, h5⟩
end Go.Proofs.Ytodokejcmbjpbaa.Pu

namespace Go.Proofs.Ytodokejcmbjpbaa.PK
open Go.RowKit Go.Proofs.YtodokejcmbjpbaaW.PrintWords Go.Proofs.YtodokejcmbjpbaaW.PrintLast Go.Proofs.YtodokejcmbjpbaaW.PrintMore
def laws_markTxS.l0 : Nat → List S40 → Int → Int → Option (Int × (List S40))
 | 0,_,_,_=>none
 | k + 1,x0,x1,x5=>if x5 < (x0.length : Int) then (if 0 ≤ x5 then ((some ((x0.set (x5 : Int).toNat (⟨x1,(rd_T40 x0 x5).f1,(rd_T40 x0 x5).f2⟩ : S40)) : List S40)).bind fun y1=>((some ((y1.set (x5 : Int).toNat (⟨(rd_T40 y1 x5).f0,wrap64 (x1 + 1),(rd_T40 y1 x5).f2⟩ : S40)) : List S40)).bind fun y2=>((laws_markRecS.f k (rd_T40 y2 x5).f2 (wrap64 ((wrap64 (x1 + 1)) + 1))).bind fun b_=>(laws_markTxS.l0 k (y2.set (x5 : Int).toNat (⟨(rd_T40 y2 x5).f0,(rd_T40 y2 x5).f1,b_.2⟩ : S40)) b_.1 (wrap64 (x5 + 1)))))) else (none)) else (some (x1,x0))
def laws_markTxS.f (k : Nat) (l0 : List S40) (a1 : Int) : Option (Int × (List S40)):=laws_markTxS.l0 k l0 a1 0
theorem laws_markTxS.mono_l : ∀ k,∀ y0 y1 y2,LeO (laws_markTxS.l0 k y0 y1 y2) (laws_markTxS.l0 (k + 1) y0 y1 y2)
 | 0=>fun _ _ _ r h=>by simp [laws_markTxS.l0] at h
 | k + 1=>by
  have ih0:=laws_markTxS.mono_l k;intro y0 y1 y2;unfold laws_markTxS.l0;refine LeO.ite (LeO.ite ?_ (LeO.none _)) (LeO.refl _)
  repeat' first
   | (with_reducible exact ih0 _ _ _)
   | (with_reducible exact laws_markRecS.mono _ _ _)
   | (with_reducible exact LeO.refl _)
   | (with_reducible refine LeO.bind ?_ (fun _=>?_))
theorem laws_markTxS.mono : ∀ a0 a1 k,LeO (laws_markTxS.f k a0 a1) (laws_markTxS.f (k + 1) a0 a1):=fun a0 a1 k=>laws_markTxS.mono_l k _ _ _
set_option maxHeartbeats 8000000 in
set_option maxRecDepth 100000 in
theorem laws_markTxS.calls (k : Nat) (P0_ : Nat → Prop) (u9000_ : Value) (l0 : List S40) (a1 : Int) (r1 : Int) (r2 : List S40) (w0 w : World) (hB : Below w0.heap.size w0 w) (ho0 : Kd.S k40 40 w w0.heap.size P0_ u9000_ l0) (h : laws_markTxS.f k l0 a1 = some (r1,r2)) :
  Calls Try.prog 24 #[u9000_,.int .i64 a1] w fun e w'=>e = .returned (.int .i64 r1) ∧ Kd.S k40 40 w' w0.heap.size (fun k_=>(P0_ k_ ∨ w.heap.size ≤ k_)) u9000_ r2 ∧ Below w0.heap.size w0 w' ∧ Kept w w' (fun k_=>P0_ k_):=by
 have HO0:=zMk (show Kd.S k40 40 w w0.heap.size (fun k_=>(P0_ k_ ∨ w.heap.size ≤ k_)) u9000_ l0 from Kd.S_mono ho0 (fun k_ hk=>(.inl hk)));have HK:=zMk (Kept.refl w (fun k_=>P0_ k_));have HB:=zMk hB;clear hB ho0;have H':=zMk (show laws_markTxS.l0 k l0 a1 0 = some (r1,r2) from h);clear h
 go_enter Try.func24,Try.ntmps24
 go_wp2
 go_loopg [1,5] k (fun kq v1 v5 w'=>∃ (x0_1 : List S40) (x1_1 : Int) (x5_1 : Int),v1 = .int .i64 x1_1 ∧ v5 = .int .i64 x5_1 ∧ Aside0 (laws_markTxS.l0 kq x0_1 x1_1 x5_1 = some (r1,r2)) ∧ Aside0 (kq ≤ k) ∧ Aside0 (Kd.S k40 40 w' w0.heap.size (fun k_=>(P0_ k_ ∨ w.heap.size ≤ k_)) u9000_ x0_1) ∧ Aside0 (Kept w w' (fun k_=>P0_ k_)) ∧ Aside0 (Below w0.heap.size w0 w'));case atStart=>exact ⟨l0,a1,0,rfl,rfl,H',⟨Nat.le_refl _⟩,HO0,HK,HB⟩
 case round =>
  clear H';obtain ⟨x0_1,x1_1,x5_1,rfl,rfl,HA,HK1,HO_0,HK,HB⟩:=hrel;cases gk with
  | zero=>exact absurd HA.out (by simp [laws_markTxS.l0])
  | succ k1 =>
   have H:=HA.out;clear HA;simp only [laws_markTxS.l0] at H
   by_cases c3 : x5_1 < (x0_1.length : Int)
   ·rw [if_pos c3] at H;have c3b0 : decide (x5_1 < (x0_1.length : Int)) = true:=decide_eq_true c3
    by_cases c4 : 0 ≤ x5_1
    ·rw [if_pos c4] at H;have c4b0 : decide (0 ≤ x5_1) = true:=decide_eq_true c4;obtain ⟨y1,hy1⟩ : ∃ y_ : List S40,y_ = (x0_1.set (x5_1 : Int).toNat (⟨x1_1,(rd_T40 x0_1 x5_1).f1,(rd_T40 x0_1 x5_1).f2⟩ : S40)):=⟨_,rfl⟩;replace H : ((some ((y1.set (x5_1 : Int).toNat (⟨(rd_T40 y1 x5_1).f0,wrap64 (x1_1 + 1),(rd_T40 y1 x5_1).f2⟩ : S40)) : List S40)).bind fun y2=>((laws_markRecS.f k1 (rd_T40 y2 x5_1).f2 (wrap64 ((wrap64 (x1_1 + 1)) + 1))).bind fun b_=>(laws_markTxS.l0 k1 (y2.set (x5_1 : Int).toNat (⟨(rd_T40 y2 x5_1).f0,(rd_T40 y2 x5_1).f1,b_.2⟩ : S40)) b_.1 (wrap64 (x5_1 + 1))))) = some (r1,r2):=by rw [hy1];exact H
     have Ny1:=zMk hy1;clear hy1;obtain ⟨y2,hy2⟩ : ∃ y_ : List S40,y_ = (y1.set (x5_1 : Int).toNat (⟨(rd_T40 y1 x5_1).f0,wrap64 (x1_1 + 1),(rd_T40 y1 x5_1).f2⟩ : S40)):=⟨_,rfl⟩;replace H : ((laws_markRecS.f k1 (rd_T40 y2 x5_1).f2 (wrap64 ((wrap64 (x1_1 + 1)) + 1))).bind fun b_=>(laws_markTxS.l0 k1 (y2.set (x5_1 : Int).toNat (⟨(rd_T40 y2 x5_1).f0,(rd_T40 y2 x5_1).f1,b_.2⟩ : S40)) b_.1 (wrap64 (x5_1 + 1)))) = some (r1,r2):=by rw [hy2];exact H
     have Ny2:=zMk hy2;clear hy2;obtain ⟨⟨t_,l_⟩,A0_,H⟩:=Option.bind_eq_some_iff.mp H;have A1:=zMk A0_;clear A0_;have H':=zMk (show laws_markTxS.l0 k1 (y2.set (x5_1 : Int).toNat (⟨(rd_T40 y2 x5_1).f0,(rd_T40 y2 x5_1).f1,l_⟩ : S40)) t_ (wrap64 (x5_1 + 1)) = some (r1,r2) from H);clear H;obtain ⟨go5,co5,eo5,gb5,_,_⟩:=Kd.S_form HO_0.out (by omega);subst eo5;have GB5:=zMk gb5;clear gb5;have HM5:=zMk (show (P0_ go5 ∨ w.heap.size ≤ go5) from ((Kd.S_R HO_0.out).1 _ rfl));have p5:=eq_true c4;have q5:=eq_true c3;have P5:=zMk c4;have Q5:=zMk c3;clear c3 c4;obtain ⟨okia0,cea0,hcla0,hMa0,hcca0,hokia0,hHa0⟩:=Kd.S_lend HO_0.out z40 (x5_1 : Int) P5.out Q5.out;have hfra0:=(Kd.R_elem (Kd.S_R HO_0.out) z40 (x5_1 : Int) P5.out Q5.out).choose_spec.2.2.2;obtain ⟨vea0,rfl,gea0⟩:=k40_openM hMa0;have hxa0_0 : wr.cell? ⟨go5,(x5_1 : Int).toNat * 3,none⟩ = some (.int .i64 (rd_T40 x0_1 x5_1).f0):=hcca0 0 _ rfl;have hfa0_0 : wr.frozen? ⟨go5,(x5_1 : Int).toNat * 3,none⟩ = false:=hfra0 0;have hxa0_1 : wr.cell? ⟨go5,(x5_1 : Int).toNat * 3 + 1,none⟩ = some (.int .i64 (rd_T40 x0_1 x5_1).f1):=hcca0 1 _ rfl;have hfa0_1 : wr.frozen? ⟨go5,(x5_1 : Int).toNat * 3 + 1,none⟩ = false:=hfra0 1;have hxa0_2 : wr.cell? ⟨go5,(x5_1 : Int).toNat * 3 + 2,none⟩ = some vea0:=hcca0 2 _ rfl;have hfa0_2 : wr.frozen? ⟨go5,(x5_1 : Int).toNat * 3 + 2,none⟩ = false:=hfra0 2;clear hcla0 hMa0 hcca0 hfra0;clear hokia0 hHa0;have HP:=Kd.S_field HO_0.out z40 (x5_1 : Int) P5.out Q5.out 0 (.int .i64 x1_1) (show 1 ≤ 3 from by decide) (x':=(⟨x1_1,(rd_T40 x0_1 x5_1).f1,(rd_T40 x0_1 x5_1).f2⟩ : S40)) (fun okp c hM_=>by obtain ⟨v_,rfl,g_⟩:=k40_openM hM_;exact k40_mkM _ _ _ _ g_);have HP':=zMk HP;clear HP;go_wp2_with (first | ((with_reducible refine gate_store (t:=3) (p:=16) rfl ?_);refine store_event (t:=3) (p:=16) (v:=?vo0_) (w1:=(wr.setCell ⟨go5,(x5_1 : Int).toNat * 3,none⟩ (.int .i64 x1_1))) ?hg ?ho ?hn ?hr ?_;(case ho=>rfl);(case hg=>rfl);(case hn=>rfl);(case hr=>first | (go_simp;done) | (go_simp;rfl));intro ws1 hw;have hg : wr.grownBy ws1 (some go5):=(by rw [hw];exact HP'.out.2);have n0_:=zMk (show Kd.S k40 40 ws1 w0.heap.size (fun k_=>(P0_ k_ ∨ w.heap.size ≤ k_)) (.slice (some ⟨go5,0,none⟩) x0_1.length co5) y1 from (by rw [hw,Ny1.out];exact HP'.out.1));have n1_:=zMk (show Below w0.heap.size w0 ws1 from (by rw [hw];exact below_set HB.out GB5.out));have n2_:=zMk (Kept.of_grown (S:=(fun k_=>P0_ k_)) hg HK.out (fun k_ e_=>(Kd.S_R HO_0.out).1 k_ e_));clear HO_0 HB HK HP';have HO_0:=n0_;have HB:=n1_;have HK:=n2_;clear n0_ n1_ n2_ hg hw;clear hxa0_0 hfa0_0 hxa0_1 hfa0_1 hxa0_2 hfa0_2;obtain ⟨okia1,cea1,hcla1,hMa1,hcca1,hokia1,hHa1⟩:=Kd.S_lend HO_0.out z40 (x5_1 : Int) P5.out Q5.out;have hfra1:=(Kd.R_elem (Kd.S_R HO_0.out) z40 (x5_1 : Int) P5.out Q5.out).choose_spec.2.2.2;obtain ⟨vea1,rfl,gea1⟩:=k40_openM hMa1;have hxa1_0 : ws1.cell? ⟨go5,(x5_1 : Int).toNat * 3,none⟩ = some (.int .i64 (rd_T40 y1 x5_1).f0):=hcca1 0 _ rfl;have hfa1_0 : ws1.frozen? ⟨go5,(x5_1 : Int).toNat * 3,none⟩ = false:=hfra1 0;have hxa1_1 : ws1.cell? ⟨go5,(x5_1 : Int).toNat * 3 + 1,none⟩ = some (.int .i64 (rd_T40 y1 x5_1).f1):=hcca1 1 _ rfl;have hfa1_1 : ws1.frozen? ⟨go5,(x5_1 : Int).toNat * 3 + 1,none⟩ = false:=hfra1 1;have hxa1_2 : ws1.cell? ⟨go5,(x5_1 : Int).toNat * 3 + 2,none⟩ = some vea1:=hcca1 2 _ rfl;have hfa1_2 : ws1.frozen? ⟨go5,(x5_1 : Int).toNat * 3 + 2,none⟩ = false:=hfra1 2;clear hcla1 hMa1 hcca1 hfra1;clear hokia1 hHa1;have HP:=Kd.S_field HO_0.out z40 (x5_1 : Int) P5.out Q5.out 1 (.int .i64 (wrap64 (x1_1 + 1))) (show 2 ≤ 3 from by decide) (x':=(⟨(rd_T40 y1 x5_1).f0,wrap64 (x1_1 + 1),(rd_T40 y1 x5_1).f2⟩ : S40)) (fun okp c hM_=>by obtain ⟨v_,rfl,g_⟩:=k40_openM hM_;exact k40_mkM _ _ _ _ g_);have HP':=zMk HP;clear HP) | ((with_reducible refine gate_store (t:=3) (p:=23) rfl ?_);refine store_event (t:=3) (p:=23) (v:=?vo1_) (w1:=(ws1.setCell ⟨go5,(x5_1 : Int).toNat * 3 + 1,none⟩ (.int .i64 (wrap64 (x1_1 + 1))))) ?hg ?ho ?hn ?hr ?_;(case ho=>rfl);(case hg=>rfl);(case hn=>rfl);(case hr=>first | (go_simp;done) | (go_simp;rfl));intro ws2 hw;have hg : ws1.grownBy ws2 (some go5):=(by rw [hw];exact HP'.out.2);have n0_:=zMk (show Kd.S k40 40 ws2 w0.heap.size (fun k_=>(P0_ k_ ∨ w.heap.size ≤ k_)) (.slice (some ⟨go5,0,none⟩) x0_1.length co5) y2 from (by rw [hw,Ny2.out];exact HP'.out.1));have n1_:=zMk (show Below w0.heap.size w0 ws2 from (by rw [hw];exact below_set HB.out GB5.out));have n2_:=zMk (Kept.of_grown (S:=(fun k_=>P0_ k_)) hg HK.out (fun k_ e_=>(Kd.S_R HO_0.out).1 k_ e_));clear HO_0 HB HK HP';have HO_0:=n0_;have HB:=n1_;have HK:=n2_;clear n0_ n1_ n2_ hg hw;clear hxa1_0 hfa1_0 hxa1_1 hfa1_1 hxa1_2 hfa1_2;obtain ⟨okia2,cea2,hcla2,hMa2,hcca2,hokia2,hHa2⟩:=Kd.S_lend HO_0.out z40 (x5_1 : Int) P5.out Q5.out;have hfra2:=(Kd.R_elem (Kd.S_R HO_0.out) z40 (x5_1 : Int) P5.out Q5.out).choose_spec.2.2.2;obtain ⟨vea2,rfl,gea2⟩:=k40_openM hMa2;have hxa2_0 : ws2.cell? ⟨go5,(x5_1 : Int).toNat * 3,none⟩ = some (.int .i64 (rd_T40 y2 x5_1).f0):=hcca2 0 _ rfl;have hfa2_0 : ws2.frozen? ⟨go5,(x5_1 : Int).toNat * 3,none⟩ = false:=hfra2 0;have hxa2_1 : ws2.cell? ⟨go5,(x5_1 : Int).toNat * 3 + 1,none⟩ = some (.int .i64 (rd_T40 y2 x5_1).f1):=hcca2 1 _ rfl;have hfa2_1 : ws2.frozen? ⟨go5,(x5_1 : Int).toNat * 3 + 1,none⟩ = false:=hfra2 1;have hxa2_2 : ws2.cell? ⟨go5,(x5_1 : Int).toNat * 3 + 2,none⟩ = some vea2:=hcca2 2 _ rfl;have hfa2_2 : ws2.frozen? ⟨go5,(x5_1 : Int).toNat * 3 + 2,none⟩ = false:=hfra2 2;clear hcla2 hMa2 hcca2 hfra2;have HOK:=zMk hokia2;have HH:=zMk hHa2;have HG:=zMk (show Kd.R k45 45 ws2 w0.heap.size okia2 vea2 (rd_T40 y2 x5_1).f2 from gea2);clear hokia2 hHa2 gea2) | ((go_at_call 46);(with_reducible refine (laws_markRecS.calls k1 okia2 _ _ _ t_ l_ w0 _ HB.out HG.out A1.out).mono ?_);rintro e wz ⟨rfl,hR_,hB_,hK_⟩;have n0_:=zMk (show Kd.S k40 40 wz w0.heap.size (fun k_=>(P0_ k_ ∨ w.heap.size ≤ k_)) (.slice (some ⟨go5,0,none⟩) x0_1.length co5) (y2.set (x5_1 : Int).toNat (⟨(rd_T40 y2 x5_1).f0,(rd_T40 y2 x5_1).f1,l_⟩ : S40)) from Kd.S_called HH.out hK_ (k40_mkM _ _ _ (⟨(rd_T40 y2 x5_1).f0,(rd_T40 y2 x5_1).f1,l_⟩ : S40) hR_) (fun k_ hk=>.inr (Nat.le_trans HK.out.1 hk)));have n1_:=zMk hB_;have n2_:=zMk (Kept.then_ HK.out hK_ (fun k_ hk=>(HOK.out k_ hk).1));clear HO_0 HB HK;have HO_0:=n0_;have HB:=n1_;have HK:=n2_;clear n0_ n1_ n2_ hR_ hB_ hK_ HH HG HOK));go_roundg k1;case measure=>have:=HK1.out;omega
     case rel=>exact ⟨_,_,_,rfl,rfl,H',⟨by have:=HK1.out;omega⟩,HO_0,HK,HB⟩
    rw [if_neg c4] at H;exact absurd H (by simp)
   rw [if_neg c3] at H;have c3b0 : decide (x5_1 < (x0_1.length : Int)) = false:=decide_eq_false c3;clear c3;simp only [Option.some.injEq,Prod.mk.injEq] at H;obtain ⟨rfl,rfl⟩:=H;obtain ⟨Ao18,co18,eo18⟩:=Kd.S_slice HO_0.out;subst eo18
   go_wp2
   go_ret
   exact ⟨rfl,HO_0.out,HB.out,HK.out⟩
end Go.Proofs.Ytodokejcmbjpbaa.PK

namespace Go.Proofs.Ytodokejcmbjpbaa.PK
open Go.RowKit Go.Proofs.YtodokejcmbjpbaaW.PrintWords Go.Proofs.YtodokejcmbjpbaaW.PrintLast Go.Proofs.YtodokejcmbjpbaaW.PrintMore
attribute [local go_sem] max2_int min2_int max_two min_two max_three min_three max_four min_four
def laws_eqTx.f (k : Nat) (a0_0 : Int) (a0_1 : Int) (l0_2 : List (S45)) (a1_0 : Int) (a1_1 : Int) (l1_2 : List (S45)) : Option (Bool):=if a0_0 = a1_0 then (if a0_1 = a1_1 then ((laws_eqRecS.f k l0_2 l1_2).bind fun t797=>(if t797 = true then (some true) else (some false))) else (some false)) else (some false)
theorem laws_eqTx.mono : ∀ a0 a1 a2 a3 a4 a5 k,LeO (laws_eqTx.f k a0 a1 a2 a3 a4 a5) (laws_eqTx.f (k + 1) a0 a1 a2 a3 a4 a5):=by
 intro a0 a1 a2 a3 a4 a5 k;unfold laws_eqTx.f
 repeat' first
   | (with_reducible exact laws_eqRecS.mono _ _ _)
   | (with_reducible exact LeO.refl _)
   | (with_reducible exact LeO.none _)
   | (with_reducible refine LeO.ite ?_ ?_)
   | (with_reducible refine LeO.bind ?_ (fun _=>?_))
   | exact laws_eqRecS.mono _ _ _
   | exact LeO.none _
   | refine LeO.ite ?_ ?_
   | refine LeO.bind ?_ (fun _=>?_)
set_option maxHeartbeats 8000000 in
set_option maxRecDepth 100000 in
theorem laws_eqTx.calls (k : Nat) (a0_0 : Int) (a0_1 : Int) (A0_2 : Option Addr) (c0_2 : Nat) (l0_2 : List (S45)) (a1_0 : Int) (a1_1 : Int) (A1_2 : Option Addr) (c1_2 : Nat) (l1_2 : List (S45)) (r : Bool) (w : World) (hr0_2 : Kd.C k45 w A0_2 l0_2.length l0_2) (hc0_2 : l0_2.length ≤ c0_2) (hr1_2 : Kd.C k45 w A1_2 l1_2.length l1_2) (hc1_2 : l1_2.length ≤ c1_2) (h : laws_eqTx.f k a0_0 a0_1 l0_2 a1_0 a1_1 l1_2 = some r) :
  Calls Try.prog 43 #[.agg #[.int .i64 a0_0,.int .i64 a0_1,.slice A0_2 l0_2.length c0_2],.agg #[.int .i64 a1_0,.int .i64 a1_1,.slice A1_2 l1_2.length c1_2]] w fun e w'=>e = .returned (.bool r) ∧ Below w.heap.size w w':=by
 have hu40:=Try.underlying40;have HR0_2:=zMk hr0_2;have HC0_2:=zMk hc0_2;clear hr0_2 hc0_2;have HR1_2:=zMk hr1_2;have HC1_2:=zMk hc1_2;clear hr1_2 hc1_2;have HB:=zMk (Below.refl w.heap.size w);have H : (if a0_0 = a1_0 then (if a0_1 = a1_1 then ((laws_eqRecS.f k l0_2 l1_2).bind fun t797=>(if t797 = true then (some true) else (some false))) else (some false)) else (some false)) = some r:=h;clear h
 by_cases c3 : a0_0 = a1_0
 ·rw [if_pos c3] at H;have c3b0 : (a0_0 == a1_0) = true:=beq_iff_eq.mpr c3;have c3b1 : (a0_0 != a1_0) = false:=bne_eq_false_iff_eq.mpr c3;clear c3
  by_cases c4 : a0_1 = a1_1
  ·rw [if_pos c4] at H;have c4b0 : (a0_1 == a1_1) = true:=beq_iff_eq.mpr c4;have c4b1 : (a0_1 != a1_1) = false:=bne_eq_false_iff_eq.mpr c4;clear c4;replace H:=Option.bind_eq_some_iff.mp H;obtain ⟨t797,A50,H⟩:=H;replace H : (if t797 = true then (some true) else (some false)) = some r:=H;have A5:=zMk A50;clear A50
   by_cases c6 : t797 = true
   ·subst c6;have H1 : (some true) = some r:=by rw [if_pos rfl] at H;exact H
    clear H;have H:=H1;clear H1;obtain rfl:=Option.some.inj H
    go_enter Try.func43,Try.ntmps43
    go_wp2_with (first | ((with_reducible refine gate_dst (N:=2) rfl ?_);refine box_event ?hg (N:=2) ?hd (cs:=#[.int .i64 a0_0,.int .i64 a0_1,.slice A0_2 l0_2.length c0_2]) (t:=40) ?hr ?_;(case hd=>rfl);(case hg=>rfl);(case hr=>first | (go_simp;done) | (go_simp;rfl));intro gb795 hg w7 hbox hb;have n0_:=zMk (below_step (hs HB) hb);have n1_:=zMk (hbox);have n2_:=zMk ((by rw [hg];exact (below_size (hs HB)) : w.heap.size ≤ gb795));have n3_:=zMk ((by rw [hg];exact (below_size (hs HB)) : w.heap.size ≤ gb795));clear HB;have HB:=n0_;have BK795:=n1_;have GW795:=n2_;have GE795:=n3_;clear n0_ n1_ n2_ n3_;clear hb hbox hg) | ((with_reducible refine gate_dst (N:=3) rfl ?_);refine box_event ?hg (N:=3) ?hd (cs:=#[.int .i64 a1_0,.int .i64 a1_1,.slice A1_2 l1_2.length c1_2]) (t:=40) ?hr ?_;(case hd=>rfl);(case hg=>rfl);(case hr=>first | (go_simp;done) | (go_simp;rfl));intro gb796 hg w8 hbox hb;have n0_:=zMk (blk_below (g:=gb795) (o:=.cells #[.int .i64 a0_0,.int .i64 a0_1,.slice A0_2 l0_2.length c0_2] 40 (0,0)) (bs BK795) hb);have n1_:=zMk (below_step (hs1 HB GE795) hb);have n2_:=zMk (hbox);have n3_:=zMk ((by rw [hg];exact (below_size (hs1 HB GE795)) : w.heap.size ≤ gb796));have n4_:=zMk ((by rw [hg];exact (below_size (hs1 HB GE795)) : w.heap.size ≤ gb796));have n5_:=zMk ((by rw [hg];exact Nat.ne_of_lt (blk_lt (g:=gb795) (o:=.cells #[.int .i64 a0_0,.int .i64 a0_1,.slice A0_2 l0_2.length c0_2] 40 (0,0)) (bs BK795)) : gb795 ≠ gb796));have n6_:=zMk ((by rw [hg];exact Nat.ne_of_gt (blk_lt (g:=gb795) (o:=.cells #[.int .i64 a0_0,.int .i64 a0_1,.slice A0_2 l0_2.length c0_2] 40 (0,0)) (bs BK795)) : gb796 ≠ gb795));clear BK795;clear HB;have BK795:=n0_;have HB:=n1_;have BK796:=n2_;have GW796:=n3_;have GE796:=n4_;have NB795_796:=n5_;have NB796_795:=n6_;clear n0_ n1_ n2_ n3_ n4_ n5_ n6_;clear hb hbox hg;have hnb9:=NB795_796.out;have hnc9:=NB796_795.out;have hcz10_0 : w8.cell? ⟨gb795,0,none⟩ = some (.int .i64 a0_0):=(zCl BK795.out 0).trans rfl;have hcz10_1 : w8.cell? ⟨gb795,1,none⟩ = some (.int .i64 a0_1):=(zCl BK795.out 1).trans rfl;have hcz10_2 : w8.cell? ⟨gb795,2,none⟩ = some (.slice A0_2 l0_2.length c0_2):=(zCl BK795.out 2).trans rfl;have hfz10_0:=zFr BK795.out 0;have hfz10_1:=zFr BK795.out 1;have hfz10_2:=zFr BK795.out 2;have hcz11_0 : w8.cell? ⟨gb796,0,none⟩ = some (.int .i64 a1_0):=(zCl BK796.out 0).trans rfl;have hcz11_1 : w8.cell? ⟨gb796,1,none⟩ = some (.int .i64 a1_1):=(zCl BK796.out 1).trans rfl;have hcz11_2 : w8.cell? ⟨gb796,2,none⟩ = some (.slice A1_2 l1_2.length c1_2):=(zCl BK796.out 2).trans rfl;have hfz11_0:=zFr BK796.out 0;have hfz11_1:=zFr BK796.out 1;have hfz11_2:=zFr BK796.out 2) | ((with_reducible refine gate_callee (f:=60) rfl ?_);refine goesL_ (some 19) rfl rfl Try.func60 (by kernel_rfl) rfl #[.slice A0_2 l0_2.length c0_2,.slice A1_2 l1_2.length c1_2] rfl (by (try simp only [List.map_toArray,List.map_cons,List.map_nil]);first | done | rfl | (simp only [List.length_drop,List.length_take];rfl)) ?_;(with_reducible refine (laws_eqRecS.calls k _ _ l0_2 _ _ l1_2 true _ ?side1 ?side2 ?side3 ?side4 A5.out).mono ?_);(case side1=>repeat (first | exact (Kd.C_below HR0_2.out HB.out) | (with_reducible refine Kd.C_alloc ?_ _) | (with_reducible refine Kd.C_drewN ?_ _) | (with_reducible refine Kd.C_drew ?_)));(case side2=>exact HC0_2.out);(case side3=>repeat (first | exact (Kd.C_below HR1_2.out HB.out) | (with_reducible refine Kd.C_alloc ?_ _) | (with_reducible refine Kd.C_drewN ?_ _) | (with_reducible refine Kd.C_drew ?_)));(case side4=>exact HC1_2.out);rintro e w12 ⟨rfl,hb⟩;refine ⟨_,rfl,?_⟩;have n0_:=zMk (blk_below (g:=gb795) (o:=.cells #[.int .i64 a0_0,.int .i64 a0_1,.slice A0_2 l0_2.length c0_2] 40 (0,0)) (bs BK795) hb);have n1_:=zMk (blk_below (g:=gb796) (o:=.cells #[.int .i64 a1_0,.int .i64 a1_1,.slice A1_2 l1_2.length c1_2] 40 (0,0)) (bs BK796) hb);have n2_:=zMk (below_step (hs2 HB GE795 GE796) hb);clear BK795;clear BK796;clear HB;have BK795:=n0_;have BK796:=n1_;have HB:=n2_;clear n0_ n1_ n2_;(try clear hb);(try clear hb2);(try clear hk);(try clear hi)))
    go_ret
    exact ⟨by first | rfl | (simp [errW_none,errW_some] <;> rfl) | (simp [*,errW_none,errW_some] <;> rfl),hs2 HB GE795 GE796⟩
   replace c6:=Bool.eq_false_iff.mpr c6;subst c6;have H1 : (some false) = some r:=by rw [if_neg (show ¬ (false = true) by decide)] at H;exact H
   clear H;have H:=H1;clear H1;obtain rfl:=Option.some.inj H
   go_enter Try.func43,Try.ntmps43
   go_wp2_with (first | ((with_reducible refine gate_dst (N:=2) rfl ?_);refine box_event ?hg (N:=2) ?hd (cs:=#[.int .i64 a0_0,.int .i64 a0_1,.slice A0_2 l0_2.length c0_2]) (t:=40) ?hr ?_;(case hd=>rfl);(case hg=>rfl);(case hr=>first | (go_simp;done) | (go_simp;rfl));intro gb795 hg w13 hbox hb;have n0_:=zMk (below_step (hs HB) hb);have n1_:=zMk (hbox);have n2_:=zMk ((by rw [hg];exact (below_size (hs HB)) : w.heap.size ≤ gb795));have n3_:=zMk ((by rw [hg];exact (below_size (hs HB)) : w.heap.size ≤ gb795));clear HB;have HB:=n0_;have BK795:=n1_;have GW795:=n2_;have GE795:=n3_;clear n0_ n1_ n2_ n3_;clear hb hbox hg) | ((with_reducible refine gate_dst (N:=3) rfl ?_);refine box_event ?hg (N:=3) ?hd (cs:=#[.int .i64 a1_0,.int .i64 a1_1,.slice A1_2 l1_2.length c1_2]) (t:=40) ?hr ?_;(case hd=>rfl);(case hg=>rfl);(case hr=>first | (go_simp;done) | (go_simp;rfl));intro gb796 hg w14 hbox hb;have n0_:=zMk (blk_below (g:=gb795) (o:=.cells #[.int .i64 a0_0,.int .i64 a0_1,.slice A0_2 l0_2.length c0_2] 40 (0,0)) (bs BK795) hb);have n1_:=zMk (below_step (hs1 HB GE795) hb);have n2_:=zMk (hbox);have n3_:=zMk ((by rw [hg];exact (below_size (hs1 HB GE795)) : w.heap.size ≤ gb796));have n4_:=zMk ((by rw [hg];exact (below_size (hs1 HB GE795)) : w.heap.size ≤ gb796));have n5_:=zMk ((by rw [hg];exact Nat.ne_of_lt (blk_lt (g:=gb795) (o:=.cells #[.int .i64 a0_0,.int .i64 a0_1,.slice A0_2 l0_2.length c0_2] 40 (0,0)) (bs BK795)) : gb795 ≠ gb796));have n6_:=zMk ((by rw [hg];exact Nat.ne_of_gt (blk_lt (g:=gb795) (o:=.cells #[.int .i64 a0_0,.int .i64 a0_1,.slice A0_2 l0_2.length c0_2] 40 (0,0)) (bs BK795)) : gb796 ≠ gb795));clear BK795;clear HB;have BK795:=n0_;have HB:=n1_;have BK796:=n2_;have GW796:=n3_;have GE796:=n4_;have NB795_796:=n5_;have NB796_795:=n6_;clear n0_ n1_ n2_ n3_ n4_ n5_ n6_;clear hb hbox hg;have hnb15:=NB795_796.out;have hnc15:=NB796_795.out;have hcz16_0 : w14.cell? ⟨gb795,0,none⟩ = some (.int .i64 a0_0):=(zCl BK795.out 0).trans rfl;have hcz16_1 : w14.cell? ⟨gb795,1,none⟩ = some (.int .i64 a0_1):=(zCl BK795.out 1).trans rfl;have hcz16_2 : w14.cell? ⟨gb795,2,none⟩ = some (.slice A0_2 l0_2.length c0_2):=(zCl BK795.out 2).trans rfl;have hfz16_0:=zFr BK795.out 0;have hfz16_1:=zFr BK795.out 1;have hfz16_2:=zFr BK795.out 2;have hcz17_0 : w14.cell? ⟨gb796,0,none⟩ = some (.int .i64 a1_0):=(zCl BK796.out 0).trans rfl;have hcz17_1 : w14.cell? ⟨gb796,1,none⟩ = some (.int .i64 a1_1):=(zCl BK796.out 1).trans rfl;have hcz17_2 : w14.cell? ⟨gb796,2,none⟩ = some (.slice A1_2 l1_2.length c1_2):=(zCl BK796.out 2).trans rfl;have hfz17_0:=zFr BK796.out 0;have hfz17_1:=zFr BK796.out 1;have hfz17_2:=zFr BK796.out 2) | ((with_reducible refine gate_callee (f:=60) rfl ?_);refine goesL_ (some 19) rfl rfl Try.func60 (by kernel_rfl) rfl #[.slice A0_2 l0_2.length c0_2,.slice A1_2 l1_2.length c1_2] rfl (by (try simp only [List.map_toArray,List.map_cons,List.map_nil]);first | done | rfl | (simp only [List.length_drop,List.length_take];rfl)) ?_;(with_reducible refine (laws_eqRecS.calls k _ _ l0_2 _ _ l1_2 false _ ?side1 ?side2 ?side3 ?side4 A5.out).mono ?_);(case side1=>repeat (first | exact (Kd.C_below HR0_2.out HB.out) | (with_reducible refine Kd.C_alloc ?_ _) | (with_reducible refine Kd.C_drewN ?_ _) | (with_reducible refine Kd.C_drew ?_)));(case side2=>exact HC0_2.out);(case side3=>repeat (first | exact (Kd.C_below HR1_2.out HB.out) | (with_reducible refine Kd.C_alloc ?_ _) | (with_reducible refine Kd.C_drewN ?_ _) | (with_reducible refine Kd.C_drew ?_)));(case side4=>exact HC1_2.out);rintro e w18 ⟨rfl,hb⟩;refine ⟨_,rfl,?_⟩;have n0_:=zMk (blk_below (g:=gb795) (o:=.cells #[.int .i64 a0_0,.int .i64 a0_1,.slice A0_2 l0_2.length c0_2] 40 (0,0)) (bs BK795) hb);have n1_:=zMk (blk_below (g:=gb796) (o:=.cells #[.int .i64 a1_0,.int .i64 a1_1,.slice A1_2 l1_2.length c1_2] 40 (0,0)) (bs BK796) hb);have n2_:=zMk (below_step (hs2 HB GE795 GE796) hb);clear BK795;clear BK796;clear HB;have BK795:=n0_;have BK796:=n1_;have HB:=n2_;clear n0_ n1_ n2_;(try clear hb);(try clear hb2);(try clear hk);(try clear hi)))
   go_ret
   exact ⟨by first | rfl | (simp [errW_none,errW_some] <;> rfl) | (simp [*,errW_none,errW_some] <;> rfl),hs2 HB GE795 GE796⟩
  rw [if_neg c4] at H;have c4b0 : (a0_1 == a1_1) = false:=beq_eq_false_iff_ne.mpr c4;have c4b1 : (a0_1 != a1_1) = true:=bne_iff_ne.mpr c4;obtain rfl:=Option.some.inj H
  go_enter Try.func43,Try.ntmps43
  go_wp2_with (first | ((with_reducible refine gate_dst (N:=2) rfl ?_);refine box_event ?hg (N:=2) ?hd (cs:=#[.int .i64 a0_0,.int .i64 a0_1,.slice A0_2 l0_2.length c0_2]) (t:=40) ?hr ?_;(case hd=>rfl);(case hg=>rfl);(case hr=>first | (go_simp;done) | (go_simp;rfl));intro gb795 hg w19 hbox hb;have n0_:=zMk (below_step (hs HB) hb);have n1_:=zMk (hbox);have n2_:=zMk ((by rw [hg];exact (below_size (hs HB)) : w.heap.size ≤ gb795));have n3_:=zMk ((by rw [hg];exact (below_size (hs HB)) : w.heap.size ≤ gb795));clear HB;have HB:=n0_;have BK795:=n1_;have GW795:=n2_;have GE795:=n3_;clear n0_ n1_ n2_ n3_;clear hb hbox hg) | ((with_reducible refine gate_dst (N:=3) rfl ?_);refine box_event ?hg (N:=3) ?hd (cs:=#[.int .i64 a1_0,.int .i64 a1_1,.slice A1_2 l1_2.length c1_2]) (t:=40) ?hr ?_;(case hd=>rfl);(case hg=>rfl);(case hr=>first | (go_simp;done) | (go_simp;rfl));intro gb796 hg w20 hbox hb;have n0_:=zMk (blk_below (g:=gb795) (o:=.cells #[.int .i64 a0_0,.int .i64 a0_1,.slice A0_2 l0_2.length c0_2] 40 (0,0)) (bs BK795) hb);have n1_:=zMk (below_step (hs1 HB GE795) hb);have n2_:=zMk (hbox);have n3_:=zMk ((by rw [hg];exact (below_size (hs1 HB GE795)) : w.heap.size ≤ gb796));have n4_:=zMk ((by rw [hg];exact (below_size (hs1 HB GE795)) : w.heap.size ≤ gb796));have n5_:=zMk ((by rw [hg];exact Nat.ne_of_lt (blk_lt (g:=gb795) (o:=.cells #[.int .i64 a0_0,.int .i64 a0_1,.slice A0_2 l0_2.length c0_2] 40 (0,0)) (bs BK795)) : gb795 ≠ gb796));have n6_:=zMk ((by rw [hg];exact Nat.ne_of_gt (blk_lt (g:=gb795) (o:=.cells #[.int .i64 a0_0,.int .i64 a0_1,.slice A0_2 l0_2.length c0_2] 40 (0,0)) (bs BK795)) : gb796 ≠ gb795));clear BK795;clear HB;have BK795:=n0_;have HB:=n1_;have BK796:=n2_;have GW796:=n3_;have GE796:=n4_;have NB795_796:=n5_;have NB796_795:=n6_;clear n0_ n1_ n2_ n3_ n4_ n5_ n6_;clear hb hbox hg;have hnb21:=NB795_796.out;have hnc21:=NB796_795.out;have hcz22_0 : w20.cell? ⟨gb795,0,none⟩ = some (.int .i64 a0_0):=(zCl BK795.out 0).trans rfl;have hcz22_1 : w20.cell? ⟨gb795,1,none⟩ = some (.int .i64 a0_1):=(zCl BK795.out 1).trans rfl;have hcz22_2 : w20.cell? ⟨gb795,2,none⟩ = some (.slice A0_2 l0_2.length c0_2):=(zCl BK795.out 2).trans rfl;have hfz22_0:=zFr BK795.out 0;have hfz22_1:=zFr BK795.out 1;have hfz22_2:=zFr BK795.out 2;have hcz23_0 : w20.cell? ⟨gb796,0,none⟩ = some (.int .i64 a1_0):=(zCl BK796.out 0).trans rfl;have hcz23_1 : w20.cell? ⟨gb796,1,none⟩ = some (.int .i64 a1_1):=(zCl BK796.out 1).trans rfl;have hcz23_2 : w20.cell? ⟨gb796,2,none⟩ = some (.slice A1_2 l1_2.length c1_2):=(zCl BK796.out 2).trans rfl;have hfz23_0:=zFr BK796.out 0;have hfz23_1:=zFr BK796.out 1;have hfz23_2:=zFr BK796.out 2))
  go_ret
  exact ⟨by first | rfl | (simp [errW_none,errW_some] <;> rfl) | (simp [*,errW_none,errW_some] <;> rfl),hs2 HB GE795 GE796⟩
 rw [if_neg c3] at H;have c3b0 : (a0_0 == a1_0) = false:=beq_eq_false_iff_ne.mpr c3;have c3b1 : (a0_0 != a1_0) = true:=bne_iff_ne.mpr c3;obtain rfl:=Option.some.inj H
 go_enter Try.func43,Try.ntmps43
 go_wp2_with (first | ((with_reducible refine gate_dst (N:=2) rfl ?_);refine box_event ?hg (N:=2) ?hd (cs:=#[.int .i64 a0_0,.int .i64 a0_1,.slice A0_2 l0_2.length c0_2]) (t:=40) ?hr ?_;(case hd=>rfl);(case hg=>rfl);(case hr=>first | (go_simp;done) | (go_simp;rfl));intro gb795 hg w24 hbox hb;have n0_:=zMk (below_step (hs HB) hb);have n1_:=zMk (hbox);have n2_:=zMk ((by rw [hg];exact (below_size (hs HB)) : w.heap.size ≤ gb795));have n3_:=zMk ((by rw [hg];exact (below_size (hs HB)) : w.heap.size ≤ gb795));clear HB;have HB:=n0_;have BK795:=n1_;have GW795:=n2_;have GE795:=n3_;clear n0_ n1_ n2_ n3_;clear hb hbox hg) | ((with_reducible refine gate_dst (N:=3) rfl ?_);refine box_event ?hg (N:=3) ?hd (cs:=#[.int .i64 a1_0,.int .i64 a1_1,.slice A1_2 l1_2.length c1_2]) (t:=40) ?hr ?_;(case hd=>rfl);(case hg=>rfl);(case hr=>first | (go_simp;done) | (go_simp;rfl));intro gb796 hg w25 hbox hb;have n0_:=zMk (blk_below (g:=gb795) (o:=.cells #[.int .i64 a0_0,.int .i64 a0_1,.slice A0_2 l0_2.length c0_2] 40 (0,0)) (bs BK795) hb);have n1_:=zMk (below_step (hs1 HB GE795) hb);have n2_:=zMk (hbox);have n3_:=zMk ((by rw [hg];exact (below_size (hs1 HB GE795)) : w.heap.size ≤ gb796));have n4_:=zMk ((by rw [hg];exact (below_size (hs1 HB GE795)) : w.heap.size ≤ gb796));have n5_:=zMk ((by rw [hg];exact Nat.ne_of_lt (blk_lt (g:=gb795) (o:=.cells #[.int .i64 a0_0,.int .i64 a0_1,.slice A0_2 l0_2.length c0_2] 40 (0,0)) (bs BK795)) : gb795 ≠ gb796));have n6_:=zMk ((by rw [hg];exact Nat.ne_of_gt (blk_lt (g:=gb795) (o:=.cells #[.int .i64 a0_0,.int .i64 a0_1,.slice A0_2 l0_2.length c0_2] 40 (0,0)) (bs BK795)) : gb796 ≠ gb795));clear BK795;clear HB;have BK795:=n0_;have HB:=n1_;have BK796:=n2_;have GW796:=n3_;have GE796:=n4_;have NB795_796:=n5_;have NB796_795:=n6_;clear n0_ n1_ n2_ n3_ n4_ n5_ n6_;clear hb hbox hg;have hnb26:=NB795_796.out;have hnc26:=NB796_795.out;have hcz27_0 : w25.cell? ⟨gb795,0,none⟩ = some (.int .i64 a0_0):=(zCl BK795.out 0).trans rfl;have hcz27_1 : w25.cell? ⟨gb795,1,none⟩ = some (.int .i64 a0_1):=(zCl BK795.out 1).trans rfl;have hcz27_2 : w25.cell? ⟨gb795,2,none⟩ = some (.slice A0_2 l0_2.length c0_2):=(zCl BK795.out 2).trans rfl;have hfz27_0:=zFr BK795.out 0;have hfz27_1:=zFr BK795.out 1;have hfz27_2:=zFr BK795.out 2;have hcz28_0 : w25.cell? ⟨gb796,0,none⟩ = some (.int .i64 a1_0):=(zCl BK796.out 0).trans rfl;have hcz28_1 : w25.cell? ⟨gb796,1,none⟩ = some (.int .i64 a1_1):=(zCl BK796.out 1).trans rfl;have hcz28_2 : w25.cell? ⟨gb796,2,none⟩ = some (.slice A1_2 l1_2.length c1_2):=(zCl BK796.out 2).trans rfl;have hfz28_0:=zFr BK796.out 0;have hfz28_1:=zFr BK796.out 1;have hfz28_2:=zFr BK796.out 2))
 go_ret
 exact ⟨by first | rfl | (simp [errW_none,errW_some] <;> rfl) | (simp [*,errW_none,errW_some] <;> rfl),hs2 HB GE795 GE796⟩
def laws_eqTxS.l0 : Nat → List (S40) → List (S40) → Int → Option (Bool)
 | 0,_,_,_=>none
 | k + 1,x0,x1,x5=>if x5 < (x0.length : Int) then (if 0 ≤ x5 then (if x5 < (x1.length : Int) then ((laws_eqTx.f k ((rd_T40 x0 x5).f0) ((rd_T40 x0 x5).f1) ((rd_T40 x0 x5).f2) ((rd_T40 x1 x5).f0) ((rd_T40 x1 x5).f1) ((rd_T40 x1 x5).f2)).bind fun t800=>(if t800 = true then (laws_eqTxS.l0 k x0 x1 (wrap64 (x5 + 1))) else (some false))) else (none)) else (none)) else (some true)
def laws_eqTxS.f (k : Nat) (l0 : List (S40)) (l1 : List (S40)) : Option (Bool):=if (l0.length : Int) = (l1.length : Int) then (laws_eqTxS.l0 k l0 l1 0) else (some false)
theorem laws_eqTxS.mono_l : ∀ k,(∀ y0 y1 y2,LeO (laws_eqTxS.l0 k y0 y1 y2) (laws_eqTxS.l0 (k + 1) y0 y1 y2))
 | 0=>fun _ _ _ r h=>by simp [laws_eqTxS.l0] at h
 | k + 1=>by
  have ih0:=laws_eqTxS.mono_l k;intro y0 y1 y2;unfold laws_eqTxS.l0
  repeat' first
  | (with_reducible exact ih0 _ _ _)
  | (with_reducible exact laws_eqTx.mono _ _ _ _ _ _ _)
  | (with_reducible exact LeO.refl _)
  | (with_reducible exact LeO.none _)
  | (with_reducible refine LeO.ite ?_ ?_)
  | (with_reducible refine LeO.bind ?_ (fun _=>?_))
  | exact ih0 _ _ _
  | exact laws_eqTx.mono _ _ _ _ _ _ _
  | exact LeO.none _
  | refine LeO.ite ?_ ?_
  | refine LeO.bind ?_ (fun _=>?_)
theorem laws_eqTxS.mono : ∀ a0 a1 k,LeO (laws_eqTxS.f k a0 a1) (laws_eqTxS.f (k + 1) a0 a1):=by
 intro a0 a1 k;have ih0:=laws_eqTxS.mono_l k;unfold laws_eqTxS.f
 repeat' first
   | (with_reducible exact ih0 _ _ _)
   | (with_reducible exact laws_eqTx.mono _ _ _ _ _ _ _)
   | (with_reducible exact LeO.refl _)
   | (with_reducible exact LeO.none _)
   | (with_reducible refine LeO.ite ?_ ?_)
   | (with_reducible refine LeO.bind ?_ (fun _=>?_))
   | exact ih0 _ _ _
   | exact laws_eqTx.mono _ _ _ _ _ _ _
   | exact LeO.none _
   | refine LeO.ite ?_ ?_
   | refine LeO.bind ?_ (fun _=>?_)
def laws_eqTxS.T6 : Bool × List (List Nat × List Nat):=(true,[([],[]),([],[]),([0,1],[0,1]),([2],[2]),([],[]),([],[]),([4,5],[4,5]),([6],[6]),([3,7],[3,7]),([8],[8])])
def laws_eqTxS.B6 : List Nat:=[0,0,3,7,0,0,48,112,255,511]
theorem laws_eqTxS.tab6 : rtab .any (opsOf Try.f21 6) = laws_eqTxS.T6:=by kernel_rfl
theorem laws_eqTxS.bits6 : waitsOk laws_eqTxS.T6.2 laws_eqTxS.B6 = true:=by kernel_rfl
set_option maxHeartbeats 8000000 in
set_option maxRecDepth 100000 in
theorem laws_eqTxS.calls (k : Nat) (A0 : Option Addr) (c0 : Nat) (l0 : List (S40)) (A1 : Option Addr) (c1 : Nat) (l1 : List (S40)) (r : Bool) (w : World) (hr0 : Kd.C k40 w A0 l0.length l0) (hc0 : l0.length ≤ c0) (hr1 : Kd.C k40 w A1 l1.length l1) (hc1 : l1.length ≤ c1) (h : laws_eqTxS.f k l0 l1 = some r) :
  Calls Try.prog 21 #[.slice A0 l0.length c0,.slice A1 l1.length c1] w fun e w'=>e = .returned (.bool r) ∧ Below w.heap.size w w':=by
 have hu40:=Try.underlying40;have HR0:=zMk hr0;have HC0:=zMk hc0;clear hr0 hc0;have HR1:=zMk hr1;have HC1:=zMk hc1;clear hr1 hc1;have HB:=zMk (Below.refl w.heap.size w);have H : (if (l0.length : Int) = (l1.length : Int) then (laws_eqTxS.l0 k l0 l1 0) else (some false)) = some r:=h;clear h
 by_cases c3 : (l0.length : Int) = (l1.length : Int)
 ·rw [if_pos c3] at H;have c3b0 : ((l0.length : Int) == (l1.length : Int)) = true:=beq_iff_eq.mpr c3;have c3b1 : ((l0.length : Int) != (l1.length : Int)) = false:=bne_eq_false_iff_eq.mpr c3;have c3b2 : (l0.length == l1.length) = true:=by first | simpa using c3 | (simp at c3 ⊢;omega)
  clear c3;have H':=zMk H;clear H
  go_enter Try.func21,Try.ntmps21
  go_wp2
  go_loopg [5] k (fun kq v5 w'=>∃ (x5_1 : Int),v5 = .int .i64 x5_1 ∧ Aside0 (laws_eqTxS.l0 kq l0 l1 x5_1 = some r) ∧ Aside0 (kq ≤ k) ∧ Aside0 (Below w.heap.size w w'));case atStart=>exact ⟨(0),(by first | rfl | (simp;done) | (simp [*];done)),H',⟨Nat.le_refl _⟩,⟨hs HB⟩⟩
  case round =>
   clear H'
   try clear c1
   try clear c2
   try clear p2
   try clear c3
   try clear c3b0
   try clear c3b1
   try clear c3b2
   obtain ⟨x5_1,rfl,HA,HK1,HB⟩:=hrel;cases gk with
   | zero=>exact absurd HA.out (by simp [laws_eqTxS.l0])
   | succ k1 =>
    have H:=HA.out;clear HA;simp only [laws_eqTxS.l0] at H
    by_cases c4 : x5_1 < (l0.length : Int)
    ·rw [if_pos c4] at H;have c4b0 : decide (x5_1 < (l0.length : Int)) = true:=decide_eq_true c4;clear c4
     by_cases c5 : 0 ≤ x5_1
     ·rw [if_pos c5] at H;have c5b0 : decide (0 ≤ x5_1) = true:=decide_eq_true c5;clear c5
      by_cases c6 : x5_1 < (l1.length : Int)
      ·rw [if_pos c6] at H;have c6b0 : decide (x5_1 < (l1.length : Int)) = true:=decide_eq_true c6;clear c6;replace H:=Option.bind_eq_some_iff.mp H;obtain ⟨t800,A70,H⟩:=H;replace H : (if t800 = true then (laws_eqTxS.l0 k1 l0 l1 (wrap64 (x5_1 + 1))) else (some false)) = some r:=H;have A7:=zMk A70;clear A70
       by_cases c8 : t800 = true
       ·subst c8;have H1 : (laws_eqTxS.l0 k1 l0 l1 (wrap64 (x5_1 + 1))) = some r:=by rw [if_pos rfl] at H;exact H
        clear H;have H:=H1;clear H1;have H':=zMk H;clear H
        try go_wp2
        have n0_:=zMk (below_drew1 HB.out);clear HB;have HB:=n0_;clear n0_;have p798 : 0 ≤ (x5_1 : Int):=zDe (by first | (with_reducible assumption) | assumption);have q798 : x5_1 < (l0.length : Int):=zDe (by first | (with_reducible assumption) | assumption);obtain ⟨ad798,A798_2,c798_2,e798,hx798_0,hx798_1,hx798_2,hl798_2,hi798_2⟩:=at_T40 HR0.out x5_1 p798 q798;have hw798_2:=hx798_2;have hw798_1:=hx798_1;have hw798_0:=hx798_0;cases e798;replace hx798_0:=(HB.out.cell (zBl w _ hx798_0)).trans hx798_0;replace hx798_1:=(HB.out.cell (zBl w _ hx798_1)).trans hx798_1;replace hx798_2:=(HB.out.cell (zBl w _ hx798_2)).trans hx798_2;have HR798_2:=zMk hi798_2;have HC798_2:=zMk hl798_2;clear hi798_2 hl798_2;replace p798:=eq_true p798;replace q798:=eq_true q798;have p799 : 0 ≤ (x5_1 : Int):=zDe (by first | (with_reducible assumption) | assumption);have q799 : x5_1 < (l1.length : Int):=zDe (by first | (with_reducible assumption) | assumption);obtain ⟨ad799,A799_2,c799_2,e799,hx799_0,hx799_1,hx799_2,hl799_2,hi799_2⟩:=at_T40 HR1.out x5_1 p799 q799;have hw799_2:=hx799_2;have hw799_1:=hx799_1;have hw799_0:=hx799_0;cases e799;replace hx799_0:=(HB.out.cell (zBl w _ hx799_0)).trans hx799_0;replace hx799_1:=(HB.out.cell (zBl w _ hx799_1)).trans hx799_1;replace hx799_2:=(HB.out.cell (zBl w _ hx799_2)).trans hx799_2;have HR799_2:=zMk hi799_2;have HC799_2:=zMk hl799_2;clear hi799_2 hl799_2;replace p799:=eq_true p799;replace q799:=eq_true q799;refine start_ (n:=10) (S:=fun w'=>w'.cell? (ad798.add ((x5_1).toNat * 3)) = some (.int .i64 ((rd_T40 l0 x5_1).f0)) ∧ w'.cell? ⟨(ad798.add ((x5_1).toNat * 3)).block,(ad798.add ((x5_1).toNat * 3)).off + 1,none⟩ = some (.int .i64 ((rd_T40 l0 x5_1).f1)) ∧ w'.cell? ⟨(ad798.add ((x5_1).toNat * 3)).block,(ad798.add ((x5_1).toNat * 3)).off + 2,none⟩ = some (.slice A798_2 ((rd_T40 l0 x5_1).f2).length c798_2) ∧ w'.cell? (ad799.add ((x5_1).toNat * 3)) = some (.int .i64 ((rd_T40 l1 x5_1).f0)) ∧ w'.cell? ⟨(ad799.add ((x5_1).toNat * 3)).block,(ad799.add ((x5_1).toNat * 3)).off + 1,none⟩ = some (.int .i64 ((rd_T40 l1 x5_1).f1)) ∧ w'.cell? ⟨(ad799.add ((x5_1).toNat * 3)).block,(ad799.add ((x5_1).toNat * 3)).off + 2,none⟩ = some (.slice A799_2 ((rd_T40 l1 x5_1).f2).length c799_2)) (ds:=[]) #[false,false,false,false,false,false,false,false,false,false] (by kernel_rfl) rfl rfl ⟨((HB.out.cell (zBl w _ hw798_0)).trans hw798_0),((HB.out.cell (zBl w _ hw798_1)).trans hw798_1),((HB.out.cell (zBl w _ hw798_2)).trans hw798_2),((HB.out.cell (zBl w _ hw799_0)).trans hw799_0),((HB.out.cell (zBl w _ hw799_1)).trans hw799_1),((HB.out.cell (zBl w _ hw799_2)).trans hw799_2)⟩ (fun hHeld=>?_);refine with_tabW laws_eqTxS.tab6 laws_eqTxS.bits6 (fun HT_ HW_=>?_);generalize wr.drew = w9 at HB HR798_2 HR799_2 hx798_0 hx798_1 hx798_2 hx799_0 hx799_1 hx799_2 hHeld ⊢;refine pure_ (i:=0) (N:=some 17) (v:=?_) (a':=?_) #[true,false,false,false,false,false,false,false,false,false] rfl rfl (any_of HT_.out (by kernel_rfl)) (fun _ _ _ h=>h) (Or.inl ⟨by rfl,?_⟩) ?_ ?_;rotate_left
        ·intro w';go_simp;with_reducible rfl
        rotate_left
        ·simp only [Act.put,zS1,zS2,zS3,i64_w,i32_w];rfl
        refine pure_ (i:=1) (N:=some 18) (v:=?_) (a':=?_) #[true,true,false,false,false,false,false,false,false,false] rfl rfl (any_of HT_.out (by kernel_rfl)) (fun _ _ _ h=>h) (Or.inl ⟨by rfl,?_⟩) ?_ ?_;rotate_left
        ·intro w';go_simp;with_reducible rfl
        rotate_left
        ·simp only [Act.put,zS1,zS2,zS3,i64_w,i32_w];rfl
        refine pure_ (i:=2) (N:=some 19) (v:=?_) (a':=?_) #[true,true,true,false,false,false,false,false,false,false] rfl rfl (any_of HT_.out (by kernel_rfl)) (fun _ _ _ h=>h) (Or.inl ⟨by rfl,?_⟩) ?_ ?_;rotate_left
        ·intro w';go_simp;with_reducible rfl
        rotate_left
        ·simp only [Act.put,zS1,zS2,zS3,i64_w,i32_w];rfl
        refine pure_ (i:=4) (N:=some 21) (v:=?_) (a':=?_) #[true,true,true,false,true,false,false,false,false,false] rfl rfl (any_of HT_.out (by kernel_rfl)) (fun _ _ _ h=>h) (Or.inl ⟨by rfl,?_⟩) ?_ ?_;rotate_left
        ·intro w';go_simp;with_reducible rfl
        rotate_left
        ·simp only [Act.put,zS1,zS2,zS3,i64_w,i32_w];rfl
        refine pure_ (i:=5) (N:=some 22) (v:=?_) (a':=?_) #[true,true,true,false,true,true,false,false,false,false] rfl rfl (any_of HT_.out (by kernel_rfl)) (fun _ _ _ h=>h) (Or.inl ⟨by rfl,?_⟩) ?_ ?_;rotate_left
        ·intro w';go_simp;with_reducible rfl
        rotate_left
        ·simp only [Act.put,zS1,zS2,zS3,i64_w,i32_w];rfl
        refine pure_ (i:=6) (N:=some 23) (v:=?_) (a':=?_) #[true,true,true,false,true,true,true,false,false,false] rfl rfl (any_of HT_.out (by kernel_rfl)) (fun _ _ _ h=>h) (Or.inl ⟨by rfl,?_⟩) ?_ ?_;rotate_left
        ·intro w';go_simp;with_reducible rfl
        rotate_left
        ·simp only [Act.put,zS1,zS2,zS3,i64_w,i32_w];rfl
        refine take_ (i:=3) (N:=some 20) (v:=?_) (a':=?_) #[true,true,true,true,true,true,true,false,false,false] rfl rfl (take_ofW HT_.out HW_.out (by kernel_rfl)) (fun _ _ _ h=>h) (Or.inl ⟨by rfl,?_⟩) hHeld ?_ ?_;rotate_left
        ·rintro w' ⟨s0,s1,s2,s3,s4,s5⟩;go_simp;with_reducible rfl
        rotate_left
        ·simp only [Act.put,zS1,zS2,zS3,i64_w,i32_w];rfl
        refine take_ (i:=7) (N:=some 24) (v:=?_) (a':=?_) #[true,true,true,true,true,true,true,true,false,false] rfl rfl (take_ofW HT_.out HW_.out (by kernel_rfl)) (fun _ _ _ h=>h) (Or.inl ⟨by rfl,?_⟩) hHeld ?_ ?_;rotate_left
        ·rintro w' ⟨s0,s1,s2,s3,s4,s5⟩;go_simp;with_reducible rfl
        rotate_left
        ·simp only [Act.put,zS1,zS2,zS3,i64_w,i32_w];rfl
        refine one_ (i:=8) (N:=some 25) #[true,true,true,true,true,true,true,true,true,false] rfl rfl (one_of HT_.out (by kernel_rfl)) (by decide) (fun K hK=>?_);refine goes_ Try.func43 (by kernel_rfl) rfl #[.agg #[.int .i64 ((rd_T40 l0 x5_1).f0),.int .i64 ((rd_T40 l0 x5_1).f1),.slice A798_2 ((rd_T40 l0 x5_1).f2).length c798_2],.agg #[.int .i64 ((rd_T40 l1 x5_1).f0),.int .i64 ((rd_T40 l1 x5_1).f1),.slice A799_2 ((rd_T40 l1 x5_1).f2).length c799_2]] (by rfl) rfl rfl (by (try simp only [List.map_toArray,List.map_cons,List.map_nil]);first | done | rfl | (simp only [List.length_drop,List.length_take];rfl)) ?_;with_reducible refine (laws_eqTx.calls k1 ((rd_T40 l0 x5_1).f0) ((rd_T40 l0 x5_1).f1) _ _ ((rd_T40 l0 x5_1).f2) ((rd_T40 l1 x5_1).f0) ((rd_T40 l1 x5_1).f1) _ _ ((rd_T40 l1 x5_1).f2) true _ ?side1 ?side2 ?side3 ?side4 A7.out).mono ?_
        (case side1=>repeat (first | exact (Kd.C_below HR798_2.out HB.out) | (with_reducible refine Kd.C_alloc ?_ _) | (with_reducible refine Kd.C_drewN ?_ _) | (with_reducible refine Kd.C_drew ?_)))
        (case side2=>exact HC798_2.out)
        (case side3=>repeat (first | exact (Kd.C_below HR799_2.out HB.out) | (with_reducible refine Kd.C_alloc ?_ _) | (with_reducible refine Kd.C_drewN ?_ _) | (with_reducible refine Kd.C_drew ?_)))
        (case side4=>exact HC799_2.out)
        rintro e w10 ⟨rfl,hb⟩;refine ⟨_,rfl,?_⟩;have n0_:=zMk (below_step (hs HB) hb);clear HB;have HB:=n0_;clear n0_
        (try clear hb)
        (try clear hb2)
        (try clear hk)
        (try clear hi)
        refine hK.out _ _ ⟨((HB.out.cell (zBl w _ hw798_0)).trans hw798_0),((HB.out.cell (zBl w _ hw798_1)).trans hw798_1),((HB.out.cell (zBl w _ hw798_2)).trans hw798_2),((HB.out.cell (zBl w _ hw799_0)).trans hw799_0),((HB.out.cell (zBl w _ hw799_1)).trans hw799_1),((HB.out.cell (zBl w _ hw799_2)).trans hw799_2)⟩ (fun hHeld=>?_);clear hK K;refine norm_ (a':=?_) ?_ ?_;rotate_left
        ·show Act.put _ (some 25) _ = _;simp only [Act.put,zS1,zS2,zS3,i64_w,i32_w];rfl
        refine pure_ (i:=9) (N:=some 26) (v:=?_) (a':=?_) #[true,true,true,true,true,true,true,true,true,true] rfl rfl (any_of HT_.out (by kernel_rfl)) (fun _ _ _ h=>h) (Or.inl ⟨by rfl,?_⟩) ?_ ?_;rotate_left
        ·intro w';go_simp;with_reducible rfl
        rotate_left
        ·simp only [Act.put,zS1,zS2,zS3,i64_w,i32_w];rfl
        refine done_ (done_of HT_.out (by kernel_rfl)) ?_
        try go_wp2
        go_roundg k1;case measure=>have:=HK1.out;omega
        case rel=>exact ⟨(wrap64 (x5_1 + 1)),(by first | rfl | (simp;done) | (simp [*];done)),H',⟨by have:=HK1.out;omega⟩,⟨hs HB⟩⟩
       replace c8:=Bool.eq_false_iff.mpr c8;subst c8;have H1 : (some false) = some r:=by rw [if_neg (show ¬ (false = true) by decide)] at H;exact H
       clear H;have H:=H1;clear H1;obtain rfl:=Option.some.inj H
       try go_wp2
       have n0_:=zMk (below_drew1 HB.out);clear HB;have HB:=n0_;clear n0_;have p798 : 0 ≤ (x5_1 : Int):=zDe (by first | (with_reducible assumption) | assumption);have q798 : x5_1 < (l0.length : Int):=zDe (by first | (with_reducible assumption) | assumption);obtain ⟨ad798,A798_2,c798_2,e798,hx798_0,hx798_1,hx798_2,hl798_2,hi798_2⟩:=at_T40 HR0.out x5_1 p798 q798;have hw798_2:=hx798_2;have hw798_1:=hx798_1;have hw798_0:=hx798_0;cases e798;replace hx798_0:=(HB.out.cell (zBl w _ hx798_0)).trans hx798_0;replace hx798_1:=(HB.out.cell (zBl w _ hx798_1)).trans hx798_1;replace hx798_2:=(HB.out.cell (zBl w _ hx798_2)).trans hx798_2;have HR798_2:=zMk hi798_2;have HC798_2:=zMk hl798_2;clear hi798_2 hl798_2;replace p798:=eq_true p798;replace q798:=eq_true q798;have p799 : 0 ≤ (x5_1 : Int):=zDe (by first | (with_reducible assumption) | assumption);have q799 : x5_1 < (l1.length : Int):=zDe (by first | (with_reducible assumption) | assumption);obtain ⟨ad799,A799_2,c799_2,e799,hx799_0,hx799_1,hx799_2,hl799_2,hi799_2⟩:=at_T40 HR1.out x5_1 p799 q799;have hw799_2:=hx799_2;have hw799_1:=hx799_1;have hw799_0:=hx799_0;cases e799;replace hx799_0:=(HB.out.cell (zBl w _ hx799_0)).trans hx799_0;replace hx799_1:=(HB.out.cell (zBl w _ hx799_1)).trans hx799_1;replace hx799_2:=(HB.out.cell (zBl w _ hx799_2)).trans hx799_2;have HR799_2:=zMk hi799_2;have HC799_2:=zMk hl799_2;clear hi799_2 hl799_2;replace p799:=eq_true p799;replace q799:=eq_true q799;refine start_ (n:=10) (S:=fun w'=>w'.cell? (ad798.add ((x5_1).toNat * 3)) = some (.int .i64 ((rd_T40 l0 x5_1).f0)) ∧ w'.cell? ⟨(ad798.add ((x5_1).toNat * 3)).block,(ad798.add ((x5_1).toNat * 3)).off + 1,none⟩ = some (.int .i64 ((rd_T40 l0 x5_1).f1)) ∧ w'.cell? ⟨(ad798.add ((x5_1).toNat * 3)).block,(ad798.add ((x5_1).toNat * 3)).off + 2,none⟩ = some (.slice A798_2 ((rd_T40 l0 x5_1).f2).length c798_2) ∧ w'.cell? (ad799.add ((x5_1).toNat * 3)) = some (.int .i64 ((rd_T40 l1 x5_1).f0)) ∧ w'.cell? ⟨(ad799.add ((x5_1).toNat * 3)).block,(ad799.add ((x5_1).toNat * 3)).off + 1,none⟩ = some (.int .i64 ((rd_T40 l1 x5_1).f1)) ∧ w'.cell? ⟨(ad799.add ((x5_1).toNat * 3)).block,(ad799.add ((x5_1).toNat * 3)).off + 2,none⟩ = some (.slice A799_2 ((rd_T40 l1 x5_1).f2).length c799_2)) (ds:=[]) #[false,false,false,false,false,false,false,false,false,false] (by kernel_rfl) rfl rfl ⟨((HB.out.cell (zBl w _ hw798_0)).trans hw798_0),((HB.out.cell (zBl w _ hw798_1)).trans hw798_1),((HB.out.cell (zBl w _ hw798_2)).trans hw798_2),((HB.out.cell (zBl w _ hw799_0)).trans hw799_0),((HB.out.cell (zBl w _ hw799_1)).trans hw799_1),((HB.out.cell (zBl w _ hw799_2)).trans hw799_2)⟩ (fun hHeld=>?_);refine with_tabW laws_eqTxS.tab6 laws_eqTxS.bits6 (fun HT_ HW_=>?_);generalize wr.drew = w11 at HB HR798_2 HR799_2 hx798_0 hx798_1 hx798_2 hx799_0 hx799_1 hx799_2 hHeld ⊢;refine pure_ (i:=0) (N:=some 17) (v:=?_) (a':=?_) #[true,false,false,false,false,false,false,false,false,false] rfl rfl (any_of HT_.out (by kernel_rfl)) (fun _ _ _ h=>h) (Or.inl ⟨by rfl,?_⟩) ?_ ?_;rotate_left
       ·intro w';go_simp;with_reducible rfl
       rotate_left
       ·simp only [Act.put,zS1,zS2,zS3,i64_w,i32_w];rfl
       refine pure_ (i:=1) (N:=some 18) (v:=?_) (a':=?_) #[true,true,false,false,false,false,false,false,false,false] rfl rfl (any_of HT_.out (by kernel_rfl)) (fun _ _ _ h=>h) (Or.inl ⟨by rfl,?_⟩) ?_ ?_;rotate_left
       ·intro w';go_simp;with_reducible rfl
       rotate_left
       ·simp only [Act.put,zS1,zS2,zS3,i64_w,i32_w];rfl
       refine pure_ (i:=2) (N:=some 19) (v:=?_) (a':=?_) #[true,true,true,false,false,false,false,false,false,false] rfl rfl (any_of HT_.out (by kernel_rfl)) (fun _ _ _ h=>h) (Or.inl ⟨by rfl,?_⟩) ?_ ?_;rotate_left
       ·intro w';go_simp;with_reducible rfl
       rotate_left
       ·simp only [Act.put,zS1,zS2,zS3,i64_w,i32_w];rfl
       refine pure_ (i:=4) (N:=some 21) (v:=?_) (a':=?_) #[true,true,true,false,true,false,false,false,false,false] rfl rfl (any_of HT_.out (by kernel_rfl)) (fun _ _ _ h=>h) (Or.inl ⟨by rfl,?_⟩) ?_ ?_;rotate_left
       ·intro w';go_simp;with_reducible rfl
       rotate_left
       ·simp only [Act.put,zS1,zS2,zS3,i64_w,i32_w];rfl
       refine pure_ (i:=5) (N:=some 22) (v:=?_) (a':=?_) #[true,true,true,false,true,true,false,false,false,false] rfl rfl (any_of HT_.out (by kernel_rfl)) (fun _ _ _ h=>h) (Or.inl ⟨by rfl,?_⟩) ?_ ?_;rotate_left
       ·intro w';go_simp;with_reducible rfl
       rotate_left
       ·simp only [Act.put,zS1,zS2,zS3,i64_w,i32_w];rfl
       refine pure_ (i:=6) (N:=some 23) (v:=?_) (a':=?_) #[true,true,true,false,true,true,true,false,false,false] rfl rfl (any_of HT_.out (by kernel_rfl)) (fun _ _ _ h=>h) (Or.inl ⟨by rfl,?_⟩) ?_ ?_;rotate_left
       ·intro w';go_simp;with_reducible rfl
       rotate_left
       ·simp only [Act.put,zS1,zS2,zS3,i64_w,i32_w];rfl
       refine take_ (i:=3) (N:=some 20) (v:=?_) (a':=?_) #[true,true,true,true,true,true,true,false,false,false] rfl rfl (take_ofW HT_.out HW_.out (by kernel_rfl)) (fun _ _ _ h=>h) (Or.inl ⟨by rfl,?_⟩) hHeld ?_ ?_;rotate_left
       ·rintro w' ⟨s0,s1,s2,s3,s4,s5⟩;go_simp;with_reducible rfl
       rotate_left
       ·simp only [Act.put,zS1,zS2,zS3,i64_w,i32_w];rfl
       refine take_ (i:=7) (N:=some 24) (v:=?_) (a':=?_) #[true,true,true,true,true,true,true,true,false,false] rfl rfl (take_ofW HT_.out HW_.out (by kernel_rfl)) (fun _ _ _ h=>h) (Or.inl ⟨by rfl,?_⟩) hHeld ?_ ?_;rotate_left
       ·rintro w' ⟨s0,s1,s2,s3,s4,s5⟩;go_simp;with_reducible rfl
       rotate_left
       ·simp only [Act.put,zS1,zS2,zS3,i64_w,i32_w];rfl
       refine one_ (i:=8) (N:=some 25) #[true,true,true,true,true,true,true,true,true,false] rfl rfl (one_of HT_.out (by kernel_rfl)) (by decide) (fun K hK=>?_);refine goes_ Try.func43 (by kernel_rfl) rfl #[.agg #[.int .i64 ((rd_T40 l0 x5_1).f0),.int .i64 ((rd_T40 l0 x5_1).f1),.slice A798_2 ((rd_T40 l0 x5_1).f2).length c798_2],.agg #[.int .i64 ((rd_T40 l1 x5_1).f0),.int .i64 ((rd_T40 l1 x5_1).f1),.slice A799_2 ((rd_T40 l1 x5_1).f2).length c799_2]] (by rfl) rfl rfl (by (try simp only [List.map_toArray,List.map_cons,List.map_nil]);first | done | rfl | (simp only [List.length_drop,List.length_take];rfl)) ?_;with_reducible refine (laws_eqTx.calls k1 ((rd_T40 l0 x5_1).f0) ((rd_T40 l0 x5_1).f1) _ _ ((rd_T40 l0 x5_1).f2) ((rd_T40 l1 x5_1).f0) ((rd_T40 l1 x5_1).f1) _ _ ((rd_T40 l1 x5_1).f2) false _ ?side1 ?side2 ?side3 ?side4 A7.out).mono ?_
       (case side1=>repeat (first | exact (Kd.C_below HR798_2.out HB.out) | (with_reducible refine Kd.C_alloc ?_ _) | (with_reducible refine Kd.C_drewN ?_ _) | (with_reducible refine Kd.C_drew ?_)))
       (case side2=>exact HC798_2.out)
       (case side3=>repeat (first | exact (Kd.C_below HR799_2.out HB.out) | (with_reducible refine Kd.C_alloc ?_ _) | (with_reducible refine Kd.C_drewN ?_ _) | (with_reducible refine Kd.C_drew ?_)))
       (case side4=>exact HC799_2.out)
       rintro e w12 ⟨rfl,hb⟩;refine ⟨_,rfl,?_⟩;have n0_:=zMk (below_step (hs HB) hb);clear HB;have HB:=n0_;clear n0_
       (try clear hb)
       (try clear hb2)
       (try clear hk)
       (try clear hi)
       refine hK.out _ _ ⟨((HB.out.cell (zBl w _ hw798_0)).trans hw798_0),((HB.out.cell (zBl w _ hw798_1)).trans hw798_1),((HB.out.cell (zBl w _ hw798_2)).trans hw798_2),((HB.out.cell (zBl w _ hw799_0)).trans hw799_0),((HB.out.cell (zBl w _ hw799_1)).trans hw799_1),((HB.out.cell (zBl w _ hw799_2)).trans hw799_2)⟩ (fun hHeld=>?_);clear hK K;refine norm_ (a':=?_) ?_ ?_;rotate_left
       ·show Act.put _ (some 25) _ = _;simp only [Act.put,zS1,zS2,zS3,i64_w,i32_w];rfl
       refine pure_ (i:=9) (N:=some 26) (v:=?_) (a':=?_) #[true,true,true,true,true,true,true,true,true,true] rfl rfl (any_of HT_.out (by kernel_rfl)) (fun _ _ _ h=>h) (Or.inl ⟨by rfl,?_⟩) ?_ ?_;rotate_left
       ·intro w';go_simp;with_reducible rfl
       rotate_left
       ·simp only [Act.put,zS1,zS2,zS3,i64_w,i32_w];rfl
       refine done_ (done_of HT_.out (by kernel_rfl)) ?_
       try go_wp2
       go_ret
       exact ⟨by first | rfl | (simp [errW_none,errW_some] <;> rfl) | (simp [*,errW_none,errW_some] <;> rfl),hs HB⟩
      rw [if_neg c6] at H;exact absurd H (by simp)
     rw [if_neg c5] at H;exact absurd H (by simp)
    rw [if_neg c4] at H;have c4b0 : decide (x5_1 < (l0.length : Int)) = false:=decide_eq_false c4;clear c4;obtain rfl:=Option.some.inj H
    go_wp2
    go_ret
    exact ⟨by first | rfl | (simp [errW_none,errW_some] <;> rfl) | (simp [*,errW_none,errW_some] <;> rfl),hs HB⟩
 rw [if_neg c3] at H;have c3b0 : ((l0.length : Int) == (l1.length : Int)) = false:=beq_eq_false_iff_ne.mpr c3;have c3b1 : ((l0.length : Int) != (l1.length : Int)) = true:=bne_iff_ne.mpr c3;have c3b2 : (l0.length == l1.length) = false:=by first | simpa using c3 | (simp at c3 ⊢;omega)
 obtain rfl:=Option.some.inj H
 go_enter Try.func21,Try.ntmps21
 go_wp2
 go_ret
 exact ⟨by first | rfl | (simp [errW_none,errW_some] <;> rfl) | (simp [*,errW_none,errW_some] <;> rfl),hs HB⟩
def laws_heldTxS.l0 : Nat → List (S40) → Int → Int → Option (Int)
 | 0,_,_,_=>none
 | k + 1,x0,x1,x5=>if x5 < (x0.length : Int) then (if 0 ≤ x5 then (if ((rd_T40 x0 x5).f0) = x1 then (if ((rd_T40 x0 x5).f1) = (wrap64 (x1 + 1)) then ((laws_heldRecS.f k ((rd_T40 x0 x5).f2) (wrap64 ((wrap64 (x1 + 1)) + 1))).bind fun t829=>(if t829 < 0 then (some (-1)) else (laws_heldTxS.l0 k x0 t829 (wrap64 (x5 + 1))))) else (some (-1))) else (some (-1))) else (none)) else (some x1)
def laws_heldTxS.f (k : Nat) (l0 : List (S40)) (a1 : Int) : Option (Int):=laws_heldTxS.l0 k l0 a1 0
theorem laws_heldTxS.mono_l : ∀ k,(∀ y0 y1 y2,LeO (laws_heldTxS.l0 k y0 y1 y2) (laws_heldTxS.l0 (k + 1) y0 y1 y2))
 | 0=>fun _ _ _ r h=>by simp [laws_heldTxS.l0] at h
 | k + 1=>by
  have ih0:=laws_heldTxS.mono_l k;intro y0 y1 y2;unfold laws_heldTxS.l0
  repeat' first
  | (with_reducible exact ih0 _ _ _)
  | (with_reducible exact laws_heldRecS.mono _ _ _)
  | (with_reducible exact LeO.refl _)
  | (with_reducible exact LeO.none _)
  | (with_reducible refine LeO.ite ?_ ?_)
  | (with_reducible refine LeO.bind ?_ (fun _=>?_))
  | exact ih0 _ _ _
  | exact laws_heldRecS.mono _ _ _
  | exact LeO.none _
  | refine LeO.ite ?_ ?_
  | refine LeO.bind ?_ (fun _=>?_)
theorem laws_heldTxS.mono : ∀ a0 a1 k,LeO (laws_heldTxS.f k a0 a1) (laws_heldTxS.f (k + 1) a0 a1):=by
 intro a0 a1 k;have ih0:=laws_heldTxS.mono_l k;unfold laws_heldTxS.f
 repeat' first
   | (with_reducible exact ih0 _ _ _)
   | (with_reducible exact laws_heldRecS.mono _ _ _)
   | (with_reducible exact LeO.refl _)
   | (with_reducible exact LeO.none _)
   | (with_reducible refine LeO.ite ?_ ?_)
   | (with_reducible refine LeO.bind ?_ (fun _=>?_))
   | exact ih0 _ _ _
   | exact laws_heldRecS.mono _ _ _
   | exact LeO.none _
   | refine LeO.ite ?_ ?_
   | refine LeO.bind ?_ (fun _=>?_)
set_option maxHeartbeats 8000000 in
set_option maxRecDepth 100000 in
theorem laws_heldTxS.calls (k : Nat) (A0 : Option Addr) (c0 : Nat) (l0 : List (S40)) (a1 : Int) (r : Int) (w : World) (hr0 : Kd.C k40 w A0 l0.length l0) (hc0 : l0.length ≤ c0) (h : laws_heldTxS.f k l0 a1 = some r) :
  Calls Try.prog 25 #[.slice A0 l0.length c0,.int .i64 a1] w fun e w'=>e = .returned (.int .i64 r) ∧ Drawn0 w w':=by
 have HR0:=zMk hr0;have HC0:=zMk hc0;clear hr0 hc0;have H : (laws_heldTxS.l0 k l0 a1 0) = some r:=h;clear h;have H':=zMk H;clear H
 go_enter Try.func25,Try.ntmps25
 go_wp2
 go_loopg [1,5] k (fun kq v1 v5 w'=>∃ (x1_1 : Int) (x5_1 : Int),v1 = .int .i64 x1_1 ∧ v5 = .int .i64 x5_1 ∧ Aside0 (laws_heldTxS.l0 kq l0 x1_1 x5_1 = some r) ∧ Aside0 (kq ≤ k) ∧ Drawn0 w w');case atStart=>exact ⟨(a1),(0),(by first | rfl | (simp;done) | (simp [*];done)),(by first | rfl | (simp;done) | (simp [*];done)),H',⟨Nat.le_refl _⟩,by repeat (first | exact Drawn0.refl _ | apply Drawn0.step)⟩
 case round =>
  clear H'
  try clear c2
  try clear p2
  obtain ⟨x1_1,x5_1,rfl,rfl,HA,HK1,⟨m1,rfl⟩⟩:=hrel;cases gk with
  | zero=>exact absurd HA.out (by simp [laws_heldTxS.l0])
  | succ k1 =>
   have H:=HA.out;clear HA;simp only [laws_heldTxS.l0] at H
   by_cases c3 : x5_1 < (l0.length : Int)
   ·rw [if_pos c3] at H;have c3b0 : decide (x5_1 < (l0.length : Int)) = true:=decide_eq_true c3;clear c3
    by_cases c4 : 0 ≤ x5_1
    ·rw [if_pos c4] at H;have c4b0 : decide (0 ≤ x5_1) = true:=decide_eq_true c4;clear c4
     by_cases c5 : ((rd_T40 l0 x5_1).f0) = x1_1
     ·rw [if_pos c5] at H;have c5b0 : (((rd_T40 l0 x5_1).f0) == x1_1) = true:=beq_iff_eq.mpr c5;have c5b1 : (((rd_T40 l0 x5_1).f0) != x1_1) = false:=bne_eq_false_iff_eq.mpr c5;clear c5
      by_cases c6 : ((rd_T40 l0 x5_1).f1) = (wrap64 (x1_1 + 1))
      ·rw [if_pos c6] at H;have c6b0 : (((rd_T40 l0 x5_1).f1) == (wrap64 (x1_1 + 1))) = true:=beq_iff_eq.mpr c6;have c6b1 : (((rd_T40 l0 x5_1).f1) != (wrap64 (x1_1 + 1))) = false:=bne_eq_false_iff_eq.mpr c6;clear c6;replace H:=Option.bind_eq_some_iff.mp H;obtain ⟨t829,A70,H⟩:=H;replace H : (if t829 < 0 then (some (-1)) else (laws_heldTxS.l0 k1 l0 t829 (wrap64 (x5_1 + 1)))) = some r:=H;have A7:=zMk A70;clear A70
       by_cases c8 : t829 < 0
       ·rw [if_pos c8] at H;have c8b0 : decide (t829 < 0) = true:=decide_eq_true c8;clear c8;obtain rfl:=Option.some.inj H;have p826 : 0 ≤ (x5_1 : Int):=zDe (by first | (with_reducible assumption) | assumption);have q826 : x5_1 < (l0.length : Int):=zDe (by first | (with_reducible assumption) | assumption);obtain ⟨ad826,A826_2,c826_2,e826,hx826_0,hx826_1,hx826_2,hl826_2,hi826_2⟩:=at_T40 HR0.out x5_1 p826 q826;cases e826;have HR826_2:=zMk hi826_2;have HC826_2:=zMk hl826_2;clear hi826_2 hl826_2;replace p826:=eq_true p826;replace q826:=eq_true q826;have p827 : 0 ≤ (x5_1 : Int):=zDe (by first | (with_reducible assumption) | assumption);have q827 : x5_1 < (l0.length : Int):=zDe (by first | (with_reducible assumption) | assumption);obtain ⟨ad827,A827_2,c827_2,e827,hx827_0,hx827_1,hx827_2,hl827_2,hi827_2⟩:=at_T40 HR0.out x5_1 p827 q827;obtain rfl : ad826 = ad827:=(by injection e827);have HR827_2:=zMk hi827_2;have HC827_2:=zMk hl827_2;clear hi827_2 hl827_2;replace p827:=eq_true p827;replace q827:=eq_true q827;have ea_:=Option.some.inj (hx826_2.symm.trans hx827_2);injection ea_ with ea_ en_ ec_;subst ea_;subst ec_;clear en_;have p828 : 0 ≤ (x5_1 : Int):=zDe (by first | (with_reducible assumption) | assumption);have q828 : x5_1 < (l0.length : Int):=zDe (by first | (with_reducible assumption) | assumption);obtain ⟨ad828,A828_2,c828_2,e828,hx828_0,hx828_1,hx828_2,hl828_2,hi828_2⟩:=at_T40 HR0.out x5_1 p828 q828;obtain rfl : ad826 = ad828:=(by injection e828);have HR828_2:=zMk hi828_2;have HC828_2:=zMk hl828_2;clear hi828_2 hl828_2;replace p828:=eq_true p828;replace q828:=eq_true q828;have ea_:=Option.some.inj (hx826_2.symm.trans hx828_2);injection ea_ with ea_ en_ ec_;subst ea_;subst ec_;clear en_;go_wp2_with (first | ((with_reducible refine gate_callee (f:=47) rfl ?_);refine goesL_ (some 36) rfl rfl Try.func47 (by kernel_rfl) rfl #[.slice A826_2 ((rd_T40 l0 x5_1).f2).length c826_2,.int .i64 (wrap64 ((wrap64 (x1_1 + 1)) + 1))] rfl (by (try simp only [List.map_toArray,List.map_cons,List.map_nil]);first | done | rfl | (simp only [List.length_drop,List.length_take];rfl)) ?_;(with_reducible refine (laws_heldRecS.calls k1 _ _ ((rd_T40 l0 x5_1).f2) (wrap64 ((wrap64 (x1_1 + 1)) + 1)) t829 _ ?side1 ?side2 A7.out).mono ?_);(case side1=>repeat (first | exact HR828_2.out | (with_reducible refine Kd.C_alloc ?_ _) | (with_reducible refine Kd.C_drewN ?_ _) | (with_reducible refine Kd.C_drew ?_)));(case side2=>exact HC828_2.out);rintro e w' ⟨rfl,⟨nd,rfl⟩⟩;refine ⟨_,rfl,?_⟩))
        go_ret
        exact ⟨by first | rfl | (simp;done) | (simp [*];done),by repeat (first | exact Drawn0.refl _ | apply Drawn0.step)⟩
       rw [if_neg c8] at H;have c8b0 : decide (t829 < 0) = false:=decide_eq_false c8;clear c8;have H':=zMk H;clear H;have p826 : 0 ≤ (x5_1 : Int):=zDe (by first | (with_reducible assumption) | assumption);have q826 : x5_1 < (l0.length : Int):=zDe (by first | (with_reducible assumption) | assumption);obtain ⟨ad826,A826_2,c826_2,e826,hx826_0,hx826_1,hx826_2,hl826_2,hi826_2⟩:=at_T40 HR0.out x5_1 p826 q826;cases e826;have HR826_2:=zMk hi826_2;have HC826_2:=zMk hl826_2;clear hi826_2 hl826_2;replace p826:=eq_true p826;replace q826:=eq_true q826;have p827 : 0 ≤ (x5_1 : Int):=zDe (by first | (with_reducible assumption) | assumption);have q827 : x5_1 < (l0.length : Int):=zDe (by first | (with_reducible assumption) | assumption);obtain ⟨ad827,A827_2,c827_2,e827,hx827_0,hx827_1,hx827_2,hl827_2,hi827_2⟩:=at_T40 HR0.out x5_1 p827 q827;obtain rfl : ad826 = ad827:=(by injection e827);have HR827_2:=zMk hi827_2;have HC827_2:=zMk hl827_2;clear hi827_2 hl827_2;replace p827:=eq_true p827;replace q827:=eq_true q827;have ea_:=Option.some.inj (hx826_2.symm.trans hx827_2);injection ea_ with ea_ en_ ec_;subst ea_;subst ec_;clear en_;have p828 : 0 ≤ (x5_1 : Int):=zDe (by first | (with_reducible assumption) | assumption);have q828 : x5_1 < (l0.length : Int):=zDe (by first | (with_reducible assumption) | assumption);obtain ⟨ad828,A828_2,c828_2,e828,hx828_0,hx828_1,hx828_2,hl828_2,hi828_2⟩:=at_T40 HR0.out x5_1 p828 q828;obtain rfl : ad826 = ad828:=(by injection e828);have HR828_2:=zMk hi828_2;have HC828_2:=zMk hl828_2;clear hi828_2 hl828_2;replace p828:=eq_true p828;replace q828:=eq_true q828;have ea_:=Option.some.inj (hx826_2.symm.trans hx828_2);injection ea_ with ea_ en_ ec_;subst ea_;subst ec_;clear en_;go_wp2_with (first | ((with_reducible refine gate_callee (f:=47) rfl ?_);refine goesL_ (some 36) rfl rfl Try.func47 (by kernel_rfl) rfl #[.slice A826_2 ((rd_T40 l0 x5_1).f2).length c826_2,.int .i64 (wrap64 ((wrap64 (x1_1 + 1)) + 1))] rfl (by (try simp only [List.map_toArray,List.map_cons,List.map_nil]);first | done | rfl | (simp only [List.length_drop,List.length_take];rfl)) ?_;(with_reducible refine (laws_heldRecS.calls k1 _ _ ((rd_T40 l0 x5_1).f2) (wrap64 ((wrap64 (x1_1 + 1)) + 1)) t829 _ ?side1 ?side2 A7.out).mono ?_);(case side1=>repeat (first | exact HR828_2.out | (with_reducible refine Kd.C_alloc ?_ _) | (with_reducible refine Kd.C_drewN ?_ _) | (with_reducible refine Kd.C_drew ?_)));(case side2=>exact HC828_2.out);rintro e w' ⟨rfl,⟨nd,rfl⟩⟩;refine ⟨_,rfl,?_⟩));go_roundg k1;case measure=>have:=HK1.out;omega
       case rel=>exact ⟨(t829),(wrap64 (x5_1 + 1)),(by first | rfl | (simp;done) | (simp [*];done)),(by first | rfl | (simp;done) | (simp [*];done)),H',⟨by have:=HK1.out;omega⟩,by repeat (first | exact Drawn0.refl _ | apply Drawn0.step)⟩
      rw [if_neg c6] at H;have c6b0 : (((rd_T40 l0 x5_1).f1) == (wrap64 (x1_1 + 1))) = false:=beq_eq_false_iff_ne.mpr c6;have c6b1 : (((rd_T40 l0 x5_1).f1) != (wrap64 (x1_1 + 1))) = true:=bne_iff_ne.mpr c6;obtain rfl:=Option.some.inj H;have p826 : 0 ≤ (x5_1 : Int):=zDe (by first | (with_reducible assumption) | assumption);have q826 : x5_1 < (l0.length : Int):=zDe (by first | (with_reducible assumption) | assumption);obtain ⟨ad826,A826_2,c826_2,e826,hx826_0,hx826_1,hx826_2,hl826_2,hi826_2⟩:=at_T40 HR0.out x5_1 p826 q826;cases e826;have HR826_2:=zMk hi826_2;have HC826_2:=zMk hl826_2;clear hi826_2 hl826_2;replace p826:=eq_true p826;replace q826:=eq_true q826;have p827 : 0 ≤ (x5_1 : Int):=zDe (by first | (with_reducible assumption) | assumption);have q827 : x5_1 < (l0.length : Int):=zDe (by first | (with_reducible assumption) | assumption);obtain ⟨ad827,A827_2,c827_2,e827,hx827_0,hx827_1,hx827_2,hl827_2,hi827_2⟩:=at_T40 HR0.out x5_1 p827 q827;obtain rfl : ad826 = ad827:=(by injection e827);have HR827_2:=zMk hi827_2;have HC827_2:=zMk hl827_2;clear hi827_2 hl827_2;replace p827:=eq_true p827;replace q827:=eq_true q827;have ea_:=Option.some.inj (hx826_2.symm.trans hx827_2);injection ea_ with ea_ en_ ec_;subst ea_;subst ec_;clear en_
      go_wp2
      go_ret
      exact ⟨by first | rfl | (simp;done) | (simp [*];done),by repeat (first | exact Drawn0.refl _ | apply Drawn0.step)⟩
     rw [if_neg c5] at H;have c5b0 : (((rd_T40 l0 x5_1).f0) == x1_1) = false:=beq_eq_false_iff_ne.mpr c5;have c5b1 : (((rd_T40 l0 x5_1).f0) != x1_1) = true:=bne_iff_ne.mpr c5;obtain rfl:=Option.some.inj H;have p826 : 0 ≤ (x5_1 : Int):=zDe (by first | (with_reducible assumption) | assumption);have q826 : x5_1 < (l0.length : Int):=zDe (by first | (with_reducible assumption) | assumption);obtain ⟨ad826,A826_2,c826_2,e826,hx826_0,hx826_1,hx826_2,hl826_2,hi826_2⟩:=at_T40 HR0.out x5_1 p826 q826;cases e826;have HR826_2:=zMk hi826_2;have HC826_2:=zMk hl826_2;clear hi826_2 hl826_2;replace p826:=eq_true p826;replace q826:=eq_true q826
     go_wp2
     go_ret
     exact ⟨by first | rfl | (simp;done) | (simp [*];done),by repeat (first | exact Drawn0.refl _ | apply Drawn0.step)⟩
    rw [if_neg c4] at H;exact absurd H (by simp)
   rw [if_neg c3] at H;have c3b0 : decide (x5_1 < (l0.length : Int)) = false:=decide_eq_false c3;clear c3;obtain rfl:=Option.some.inj H
   go_wp2
   go_ret
   exact ⟨by first | rfl | (simp;done) | (simp [*];done),by repeat (first | exact Drawn0.refl _ | apply Drawn0.step)⟩
end Go.Proofs.Ytodokejcmbjpbaa.PK

/- Transactions as data: what a law on a row of them begins with. -/
namespace Go.Proofs.Ytodokejcmbjpbaa.Pu
open Go.RowKit Go.Proofs.Ytodokejcmbjpbaa.PK Go.Proofs.YtodokejcmbjpbaaW.PrintWords
theorem rdIT_nat (l : List S40) (i : Nat) : rd_T40 l (i : Int) = l.getD i z40 := rfl
theorem eqTxS_ev (l : List S40) (hn : l.length ≤ 1048576) (hk : ∀ x ∈ l, x.f2.length ≤ 1048576) : Ev (fun k => laws_eqTxS.f k l l) true := by
  have h1 := ev_all (n := l.length) (m := l.length) (L := fun k i => laws_eqTxS.l0 k l l i) (E := fun k i => laws_eqTx.f k (rd_T40 l i).f0 (rd_T40 l i).f1 (rd_T40 l i).f2 (rd_T40 l i).f0 (rd_T40 l i).f1 (rd_T40 l i).f2) (by omega) (Nat.le_refl _) (fun k i => by simp only [laws_eqTxS.l0])
    (fun i hi => by
      rw [rdIT_nat]
      unfold laws_eqTx.f
      simp only [if_true]
      exact ev_bind (eqRecS_ev _ (by have := hk _ (getD_mem' (z := z40) hi); omega)) (by simp only [if_true]; exact Ev.now _)) l.length 0 (by omega)
  refine ev_ext (fun k => ?_) h1
  unfold laws_eqTxS.f
  rw [if_pos rfl]; rfl
theorem mark_txs (l : List S40) (a : Int) (hn : l.length ≤ 1048576) (hk : ∀ x ∈ l, x.f2.length ≤ 1048576) (ha : 0 ≤ a) (hM : a ≤ 1099511627776) :
    ∃ a' l', l'.length = l.length ∧ Ev (fun k => laws_markTxS.f k l a) (a', l') ∧ Ev (fun k => laws_heldTxS.f k l' a) a' ∧ a ≤ a' ∧ a' ≤ a + l.length * 4194306 := by
  obtain ⟨a', l', h1, _, h2, h3, h4, h5⟩ := ev_mark z40 (L := fun k xs a i => laws_markTxS.l0 k xs a i) (Hd := fun k xs a i => laws_heldTxS.l0 k xs a i)
    (fun k x a => (laws_markRecS.f k x.f2 (wrap64 (wrap64 (a + 1) + 1))).bind fun b => some (b.1, (⟨a, wrap64 (a + 1), b.2⟩ : S40))) (fun k x a => if x.f0 = a then (if x.f1 = wrap64 (a + 1) then laws_heldRecS.f k x.f2 (wrap64 (wrap64 (a + 1) + 1)) else some (-1)) else some (-1)) 4194306 (fun x => x.f2.length ≤ 1048576)
    (fun k xs a i hi _ _ => by
      have e1 : ∀ v, rd_T40 (xs.set i v) (i : Int) = v := fun v => getD_set_self hi
      simp only [laws_markTxS.l0]
      rw [if_pos (by omega), if_pos (by omega)]
      simp only [Option.bind_some, Int.toNat_natCast, e1, List.set_set, Option.bind_assoc]
      rfl)
    (fun k xs a i hi => by
      simp only [laws_markTxS.l0]
      rw [if_neg (by omega)])
    (fun k xs a i hi h0 h1 => by
      have er : rd_T40 xs (i : Int) = xs.getD i z40 := rfl
      simp only [laws_heldTxS.l0]
      rw [if_pos (by omega), if_pos (by omega), er]
      generalize xs.getD i z40 = y
      by_cases q0 : y.f0 = a
      rotate_left
      · simp only [if_neg q0, Option.bind_some]
        rw [if_pos (by omega)]
      by_cases q1 : y.f1 = wrap64 (a + 1)
      rotate_left
      · simp only [if_pos q0, if_neg q1, Option.bind_some]
        rw [if_pos (by omega)]
      simp only [if_pos q0, if_pos q1])
    (fun k xs a i hi => by
      simp only [laws_heldTxS.l0]
      rw [if_neg (by omega)])
    (by omega)
    (fun x a hx h0 h1 => by
      obtain ⟨a1, l1, g1, g2, g3, g4, g5⟩ := mark_recs x.f2 (a + 2) (by omega) (by omega) (by omega)
      have e1 : wrap64 (a + 1) = a + 1 := w64 (by omega) (by omega)
      have e2 : wrap64 (a + 1 + 1) = a + 2 := by rw [w64 (by omega) (by omega)]; omega
      refine ⟨a1, ⟨a, a + 1, l1⟩, ?_, ?_, by omega, by omega⟩
      · simp only [e1, e2]
        exact ev_bind g2 (Ev.now _)
      · simp only [e1, e2, if_true]
        exact g3)
    l.length 0 l a (by omega) (by omega) (fun j _ hj => hk _ (getD_mem' hj)) ha (by omega)
  exact ⟨a', l', h1, h2, h3, h4, h5⟩
end Go.Proofs.Ytodokejcmbjpbaa.Pu

/- The transactions since the last base; the program's and the reference's SinceBase tell them. -/
namespace Go.Proofs.Ytodokejcmbjpbaa.Pu
open Go.RowKit Go.Proofs.Ytodokejcmbjpbaa.PK Go.Proofs.YtodokejcmbjpbaaW.PrintWords
def isBaseB (x : S40) : Bool := decide (0 < x.f2.length) && ((x.f2.getD 0 z45).f0 == 1)
def lastB (l : List S40) : Nat → Nat → Nat → Nat
  | 0, _, at_ => at_
  | d + 1, i, at_ => lastB l d (i + 1) (if isBaseB (l.getD i z40) = true then i else at_)
def sinceB (l : List S40) : List S40 := l.drop (lastB l l.length 0 0)
theorem sinceB_le (l : List S40) : (sinceB l).length ≤ l.length := by unfold sinceB; rw [List.length_drop]; omega
theorem sinceB_mem (l : List S40) : ∀ x ∈ sinceB l, x ∈ l := fun x h => List.mem_of_mem_drop h
theorem drop_getT {α : Type} {l : List α} {i : Nat} (z : α) (h : i < l.length) : l.drop i = l.getD i z :: l.drop (i + 1) := by
  rw [List.drop_eq_getElem_cons h, List.getD_eq_getElem?_getD, List.getElem?_eq_getElem h]; rfl
theorem isBase_eq (x : S40) : impl_isBase.f x.f0 x.f1 x.f2 = some (isBaseB x) := by
  unfold impl_isBase.f isBaseB
  by_cases h : 0 < x.f2.length
  · rw [if_pos (by omega), if_pos (by omega), decide_eq_true h, Bool.true_and]; rfl
  · rw [if_neg (by omega), decide_eq_false h, Bool.false_and]
theorem iSince_ev (l : List S40) (hn : l.length ≤ 1048576) (hk : ∀ x ∈ l, x.f2.length ≤ 1048576) : Ev (fun k => impl_SinceBase.f k l) (sinceB l) := by
  have copy : ∀ (y : List S40), (∀ x ∈ y, x ∈ l) → y.length ≤ l.length → ∀ (d i : Nat) (acc : List S40), i + d = y.length → acc.length = i → Ev (fun k => impl_SinceBase.l1 k acc y (y.length : Int) (i : Int)) (acc ++ y.drop i) := by
    intro y hy hyl d
    induction d with
    | zero => intro i acc hi hl; exact ev_some fun k => by simp only [impl_SinceBase.l1]; rw [if_neg (by omega), List.drop_eq_nil_of_le (by omega), List.append_nil]
    | succ d ih =>
      intro i acc hi hl
      have hm := hk _ (hy _ (getD_mem' (z := z40) (show i < y.length by omega)))
      have h := ih (i + 1) (acc ++ [y.getD i z40]) (by omega) (by rw [List.length_append, hl]; rfl)
      rw [List.append_assoc, List.singleton_append] at h
      rw [drop_getT z40 (by omega)]
      refine Ev.step (fun k => ?_) h
      simp only [impl_SinceBase.l1]
      rw [if_pos (by omega), if_pos (by omega), if_pos (by omega), rdIT_nat, if_pos (by simp only [List.length_nil]; omega), if_pos (by omega), wsucc (n := y.length) (by omega) (by omega), List.nil_append]
  have main : ∀ (d i at_ : Nat), i + d = l.length → at_ ≤ l.length → Ev (fun k => impl_SinceBase.l0 k l (at_ : Int) l (l.length : Int) (i : Int)) (l.drop (lastB l d i at_)) := by
    intro d
    induction d with
    | zero =>
      intro i at_ hi ha
      have h := copy (l.drop at_) (fun x hx => List.mem_of_mem_drop hx) (by rw [List.length_drop]; omega) (l.drop at_).length 0 [] (by omega) rfl
      refine Ev.step (fun k => ?_) h
      simp only [impl_SinceBase.l0]
      rw [if_neg (by omega), if_pos (by omega), if_pos (by omega)]
      rfl
    | succ d ih =>
      intro i at_ hi ha
      have h := ih (i + 1) (if isBaseB (l.getD i z40) = true then i else at_) (by omega) (by split <;> omega)
      refine Ev.step (fun k => ?_) h
      simp only [impl_SinceBase.l0]
      rw [if_pos (by omega), if_pos (by omega), if_pos (by omega), rdIT_nat, isBase_eq, wsucc (n := l.length) (by omega) (by omega)]
      simp only [Option.bind_some]
      by_cases hb : isBaseB (l.getD i z40) = true
      · rw [if_pos hb, if_pos hb]
      · rw [if_neg hb, if_neg hb]
  exact main l.length 0 0 (by omega) (by omega)
end Go.Proofs.Ytodokejcmbjpbaa.Pu

/- FnTwoTx: two transactions of drawn records are gathered both, in order, whatever the order of their pages. -/
namespace Go.Proofs.Ytodokejcmbjpbaa.Pure
open Go.RowKit Go.Proofs.Ytodokejcmbjpbaa.PK Go.Proofs.YtodokejcmbjpbaaW.PrintWords Go.Proofs.Ytodokejcmbjpbaa.Pu
theorem sameR_ev (l : List S45) (hn : l.length ≤ 9223372036854775807) : Ev (fun k => laws_sameRecs.f k l l) true := by
  unfold laws_sameRecs.f
  simp only [if_true]
  have main : ∀ (d i : Nat), i + d = l.length → Ev (fun k => laws_sameRecs.l0 k l l (i : Int)) true := by
    intro d
    induction d with
    | zero => intro i hi; exact ev_some fun k => by simp only [laws_sameRecs.l0]; rw [if_neg (by omega)]
    | succ d ih =>
      intro i hi
      refine Ev.step (fun k => ?_) (ih (i + 1) (by omega))
      simp only [laws_sameRecs.l0, beq_self_eq_true, Bool.not_true, Bool.or_false, Bool.false_eq_true, if_false]
      rw [if_pos (by omega), if_pos (by omega), if_pos (by omega), wsucc (n := l.length) (by omega) hn]
  exact main l.length 0 (by omega)
theorem sort54 : sortB [5, 4] = [4, 5] := by
  have h := List.mergeSort_perm [(5 : Int), 4] fun x y => decide (x ≤ y)
  have hs := List.pairwise_mergeSort (le := fun x y : Int => decide (x ≤ y)) (fun a b c h1 h2 => by simp at *; omega) (fun a b => by simp; omega) [5, 4]
  show List.mergeSort _ _ = _
  generalize List.mergeSort [(5 : Int), 4] (fun x y => decide (x ≤ y)) = L at h hs
  have hl := h.length_eq
  match L, hl with
  | [a, b], _ =>
    have ha : a = 5 ∨ a = 4 := by simpa using h.mem_iff.1 (List.mem_cons_self (a := a) (l := [b]))
    have hb : b = 5 ∨ b = 4 := by simpa using h.mem_iff.1 (List.mem_cons_of_mem a (List.mem_cons_self (a := b) (l := [])))
    have h5 : (5 : Int) = a ∨ (5 : Int) = b := by simpa using h.mem_iff.2 (List.mem_cons_self (a := (5 : Int)) (l := [4]))
    have h4 : (4 : Int) = a ∨ (4 : Int) = b := by simpa using h.mem_iff.2 (List.mem_cons_of_mem (5 : Int) (List.mem_cons_self (a := (4 : Int)) (l := [])))
    have hab : a ≤ b := by simpa using hs
    rw [show a = 4 by omega, show b = 5 by omega]
theorem rdP_nat (l : List S33) (i : Nat) : rd_T33 l (i : Int) = l.getD i z33 := rfl
theorem FnTwoTx : laws_FnTwoTx.Pure := by
  intro l hl _ hx
  refine Ev.rounds (g := fun k => laws_FnTwoTx.f k l) ?_
  unfold maxLen at hl
  unfold laws_FnTwoTx.f laws_big.f
  refine ev_bind (Ev.now (decide ((l.length : Int) > 1048576))) ?_
  by_cases hbig : (l.length : Int) > 1048576
  · simp only [decide_eq_true hbig, if_true]; exact Ev.now _
  · simp only [decide_eq_false hbig, Bool.false_eq_true, if_false]
    obtain ⟨A, hA, okA, lA⟩ := many_draw l (by omega)
    obtain ⟨B, hB, okB, lB⟩ := records_draw' l (by omega)
    obtain ⟨ta, a1, a2, a3, a4, a5⟩ := txs_start (rs := A) (fun x hx => ⟨(okA x hx).1, small_size (okA x hx).1 (okA x hx).2.1 (okA x hx).2.2⟩) (by omega)
    obtain ⟨tb, b1, b2, b3, b4, b5⟩ := txs_start (rs := B) (fun x hx => ⟨(okB x hx).1, small_size (okB x hx).1 (okB x hx).2.1 (by have := (okB x hx).2.2; omega)⟩) (by omega)
    have pa := iTx_ev 1 4 A (by omega)
    have pb := iTx_ev 30 5 B (by omega)
    rw [a1, txFin_ok (by omega) (by omega) (by omega) (by omega)] at pa
    rw [b1, txFin_ok (by omega) (by omega) (by omega) (by omega)] at pb
    refine ev_bind hA (ev_bind hB (ev_bind pa (ev_bind pb ?_)))
    have la := pages_len 1 4 ta
    have lb := pages_len 30 5 tb
    have memA := fun q h => page_mem (s := 1) (x := 4) (ts := ta) (q := q) h
    have memB := fun q h => page_mem (s := 30) (x := 5) (ts := tb) (q := q) h
    have sa := sizes_pages 1 4 ta
    have sb := sizes_pages 30 5 tb
    have getA : ∀ i, i < ta.length → pageB 1 4 ta i ∈ pagesB 1 4 ta := fun i hi => by unfold pagesB; exact List.mem_map.2 ⟨i, by simp; omega, rfl⟩
    have getB : ∀ i, i < tb.length → pageB 30 5 tb i ∈ pagesB 30 5 tb := fun i hi => by unfold pagesB; exact List.mem_map.2 ⟨i, by simp; omega, rfl⟩
    generalize pagesB 1 4 ta = PA at la memA sa getA ⊢
    generalize pagesB 30 5 tb = PB at lb memB sb getB ⊢
    -- what is gathered
    have hasA : Has (PB.map fnd ++ PA.map fnd) 1 4 ta := by
      refine ⟨fun i hi => ⟨fnd (pageB 1 4 ta i), List.mem_append.2 (.inr (List.mem_map.2 ⟨_, getA i hi, rfl⟩)), rfl⟩, fun f hf he => ?_⟩
      rcases List.mem_append.1 hf with hf | hf
      · obtain ⟨q, hq, rfl⟩ := List.mem_map.1 hf
        obtain ⟨i, _, rfl⟩ := memB q hq
        exact absurd he (by show ¬ (5 : Int) = 4; decide)
      · obtain ⟨q, hq, rfl⟩ := List.mem_map.1 hf
        obtain ⟨i, hi, rfl⟩ := memA q hq
        exact ⟨i, hi, rfl⟩
    have hasB : Has (PB.map fnd ++ PA.map fnd) 30 5 tb := by
      refine ⟨fun i hi => ⟨fnd (pageB 30 5 tb i), List.mem_append.2 (.inl (List.mem_map.2 ⟨_, getB i hi, rfl⟩)), rfl⟩, fun f hf he => ?_⟩
      rcases List.mem_append.1 hf with hf | hf
      · obtain ⟨q, hq, rfl⟩ := List.mem_map.1 hf
        obtain ⟨i, hi, rfl⟩ := memB q hq
        exact ⟨i, hi, rfl⟩
      · obtain ⟨q, hq, rfl⟩ := List.mem_map.1 hf
        obtain ⟨i, _, rfl⟩ := memA q hq
        exact absurd he (by show ¬ (4 : Int) = 5; decide)
    have tA := tx_pages hasA a3 (by omega) (by omega) (by omega) a2 fun x hx => (okA x hx).1
    have tB := tx_pages hasB b3 (by omega) (by omega) (by omega) b2 fun x hx => (okB x hx).1
    have nums : numsB (PB.map fnd ++ PA.map fnd) = [5, 4] := by
      unfold numsB
      rw [List.foldl_append, num_new (x := 5) (l := PB.map fnd) (s := []) (fun f hf => by
        obtain ⟨q, hq, rfl⟩ := List.mem_map.1 hf
        obtain ⟨i, _, rfl⟩ := memB q hq
        exact ⟨rfl, rfl⟩) (by rw [List.length_map]; omega) (by simp)]
      rw [num_new (x := 4) (l := PA.map fnd) (fun f hf => by
        obtain ⟨q, hq, rfl⟩ := List.mem_map.1 hf
        obtain ⟨i, _, rfl⟩ := memA q hq
        exact ⟨rfl, rfl⟩) (by rw [List.length_map]; omega) (by simp)]
      rfl
    have gath : gatherB (PB.map fnd ++ PA.map fnd) = [⟨4, 1, A⟩, ⟨5, 30, B⟩] := by
      unfold gatherB
      rw [nums, sort54]
      unfold outF
      simp only [List.flatMap_cons, List.flatMap_nil, tA, tB, if_true]
      rfl
    have hg := iGather_ev (PB.map fnd ++ PA.map fnd) (by simp; omega) (by rw [sizes_app, sa, sb]; omega) (fun f hf => by
      rcases List.mem_append.1 hf with hf | hf
      · obtain ⟨q, hq, rfl⟩ := List.mem_map.1 hf
        obtain ⟨i, _, rfl⟩ := memB q hq
        show (tb.length : Int) ≤ _
        omega
      · obtain ⟨q, hq, rfl⟩ := List.mem_map.1 hf
        obtain ⟨i, _, rfl⟩ := memA q hq
        show (ta.length : Int) ≤ _
        omega)
    rw [gath] at hg
    have fin : Ev (fun k => laws_FnTwoTx.l1 k A B PA true true (PB.map fnd ++ PA.map fnd) (PA.length : Int)) true := by
      refine Ev.step (f := fun k => (impl_Gather.f k (PB.map fnd ++ PA.map fnd)).bind fun t581 => if (t581.length : Int) = 2 then (if 0 < (t581.length : Int) then (if ((rd_T40 t581 0).f0) = 4 then (if 1 < (t581.length : Int) then (if ((rd_T40 t581 1).f0) = 5 then ((laws_sameRecs.f k ((rd_T40 t581 0).f2) A).bind fun t587 => (if t587 = true then ((laws_sameRecs.f k ((rd_T40 t581 1).f2) B).bind fun t589 => (if t589 = true then ((impl_SinceBase.f k t581).bind fun t590 => (some (decide ((t590.length : Int) ≤ 2)))) else (some false))) else (some false))) else (some false)) else none) else (some false)) else none) else (some false)) (fun k => by simp only [laws_FnTwoTx.l1]; rw [if_neg (by omega)]; simp only [if_true]) (ev_bind hg ?_)
      show Ev (fun k => (laws_sameRecs.f k A A).bind fun t587 => (if t587 = true then ((laws_sameRecs.f k B B).bind fun t589 => (if t589 = true then ((impl_SinceBase.f k [⟨4, 1, A⟩, ⟨5, 30, B⟩]).bind fun t590 => (some (decide ((t590.length : Int) ≤ 2)))) else (some false))) else (some false))) true
      refine ev_bind (sameR_ev A (by omega)) ?_
      simp only [if_true]
      refine ev_bind (sameR_ev B (by omega)) ?_
      simp only [if_true]
      refine ev_bind (iSince_ev [⟨4, 1, A⟩, ⟨5, 30, B⟩] (by simp) (fun x hx => by
        simp only [List.mem_cons, List.not_mem_nil, or_false] at hx
        rcases hx with rfl | rfl
        · show A.length ≤ _; omega
        · show B.length ≤ _; omega)) (ev_const ?_)
      have h := sinceB_le [(⟨4, 1, A⟩ : S40), ⟨5, 30, B⟩]
      have h2 : (sinceB [(⟨4, 1, A⟩ : S40), ⟨5, 30, B⟩]).length ≤ 2 := h
      rw [decide_eq_true (by omega)]
    have l1 : ∀ (d i : Nat), i + d = PA.length → Ev (fun k => laws_FnTwoTx.l1 k A B PA true true (PB.map fnd ++ (PA.take i).map fnd) (i : Int)) true := by
      intro d
      induction d with
      | zero => intro i hi; rw [show i = PA.length by omega, List.take_length]; exact fin
      | succ d ih =>
        intro i hi
        have hil : i < PA.length := by omega
        have h := ih (i + 1) (by omega)
        rw [List.take_succ_eq_append_getElem hil, List.map_append, ← List.append_assoc] at h
        refine Ev.step (fun k => ?_) h
        simp only [laws_FnTwoTx.l1]
        rw [if_pos (by omega), if_pos (by omega), if_pos (by simp; omega), rdP_nat, wsucc (n := PA.length) hil (by omega), show PA.getD i z33 = PA[i] by rw [List.getD_eq_getElem?_getD, List.getElem?_eq_getElem hil]; rfl]
        rfl
    have l0 : ∀ (d i : Nat), i + d = PB.length → Ev (fun k => laws_FnTwoTx.l0 k A B PA true PB true ((PB.take i).map fnd) (i : Int)) true := by
      intro d
      induction d with
      | zero =>
        intro i hi
        rw [show i = PB.length by omega, List.take_length]
        have h := l1 PA.length 0 (by omega)
        rw [List.take_zero, List.map_nil, List.append_nil] at h
        refine Ev.step (fun k => ?_) h
        simp only [laws_FnTwoTx.l0]
        rw [if_neg (by omega)]; rfl
      | succ d ih =>
        intro i hi
        have hil : i < PB.length := by omega
        have h := ih (i + 1) (by omega)
        rw [List.take_succ_eq_append_getElem hil, List.map_append] at h
        refine Ev.step (fun k => ?_) h
        simp only [laws_FnTwoTx.l0]
        rw [if_pos (by omega), if_pos (by omega), if_pos (by simp; omega), rdP_nat, wsucc (n := PB.length) hil (by omega), show PB.getD i z33 = PB[i] by rw [List.getD_eq_getElem?_getD, List.getElem?_eq_getElem hil]; rfl]
        rfl
    have h := l0 PB.length 0 (by omega)
    rw [List.take_zero] at h
    exact h
end Go.Proofs.Ytodokejcmbjpbaa.Pure

/- Functions of the translation as plain Lean functions, and for each that its call comes to just what its Lean function answers; its conditions stand in each theorem. Written by a program of this session. -/
namespace Go.Proofs.Ytodokejcmbjpbaa.fnTwoTx
open Go.ChangeShapes Go.WideShapes Go.ChangeAt Go.RowKit
open Go.ChangeMaps (open_string shut_string)
theorem own : ownKnob Try.prog.godebug = none := by kernel_rfl
theorem laidOut : laidOutB Try.prog = true := by kernel_rfl
def IsRow (k : IntKind) (w : World) (a : Option Addr) (len cap : Nat) (zs : List Int) : Prop :=
  (a = none ∧ len = 0 ∧ cap = 0 ∧ zs = []) ∨
  ∃ x, a = some x ∧ len ≤ cap ∧ cap ≤ maxLen ∧ zs.length = cap ∧ (∀ i, i < zs.length → w.cell? (x.add i) = some (.int k (zs.getD i 0))) ∧ ∀ n ∈ zs, (Lit.int k n).wf = true
set_option maxRecDepth 100000 in
theorem lifted (os : Os) (started : os.Started) (H : Type) (enc : TypeId × Value → H) :
    ReturnsInHanded {} Try.checked os 4 .any (Rows.fnTwoTxSpec.pre6 enc Try.prog Try.f4 Rows.fnTwoTxRow.domain false) (Rows.fnTwoTxSpec.post enc Try.prog Try.f4 false true false false) := by
  refine returnsInHanded_of_change_sized (C := Try.checked) own started (by kernel_rfl) Try.func4
    (ChangeSpec.witness6 (enc := enc) (C := Try.checked) false ⟨#[], #[.slice none 0 0], []⟩ 8 (by kernel_rfl) (by kernel_rfl) (by kernel_rfl) (by kernel_rfl)) ?_
  intro W base args ds gs before hval0 hW hcnd hsz0 _
  have hsz : (DataW.weightsEach Try.prog (Try.f4.params.toList ++ Rows.fnTwoTxSpec.plain.varTypes Try.prog) (ds ++ gs)).all (· ≤ reachBytes) = true := hsz0
  have hval : ∀ (j : Nat) t v, Try.f4.params[j]? = some t → args[j]? = some v → Value.okWide Try.prog W .any base t v := hval0
  have hW' := hW
  obtain ⟨p, q, hA0, hV, rfl, hfz, hnd⟩ := hW
  have hA : DataW.TrodAll enc Try.prog W 0 (fun _ => true) true Try.f4.params.toList args.toList ds p := hA0
  rw [Try.params4] at hA hval hsz
  obtain ⟨v0, vs0, d0, ds0, p0, q0, hargs, rfl, rfl, h0, r0⟩ := trodAll_cons hA
  obtain ⟨rfl, rfl, rfl⟩ := trodAll_nil r0
  obtain rfl : args = #[v0] := by cases args; simp_all
  obtain ⟨rfl, rfl⟩ := trodVars_none hV
  obtain ⟨a0, len0, cap0, rfl⟩ := okWide_slice Try.underlying22 (hval 0 22 v0 rfl rfl)
  have k0 := h0
  have lt0 : ∀ x ∈ p0, x.block < W.heap.size := by obtain ⟨m, hm⟩ := k0; exact DataW.trod_lt m _ _ _ hm
  obtain ⟨z0, w0⟩ : ∃ zs, IsRow .u8 W a0 len0 cap0 zs := by
    obtain ⟨fuel, hf⟩ := h0
    rcases open_ints Try.underlying22 Try.underlying5 (by kernel_rfl) hf with ⟨hcs, _⟩ | ⟨x, l, c, zs, hcs, _, hl, hm, hz, _, hcell, hwz⟩
    · simp [Value.cells] at hcs
      obtain ⟨rfl, rfl, rfl⟩ := hcs
      exact ⟨[], .inl ⟨rfl, rfl, rfl, rfl⟩⟩
    · simp [Value.cells] at hcs
      obtain ⟨rfl, rfl, rfl⟩ := hcs
      exact ⟨zs, .inr ⟨_, rfl, hl, hm, by simpa using hz, hcell, hwz⟩⟩
  have y0 : len0 * 1 ≤ 140737488351232 := Go.Proofs.YtodokejcmbjpbaaW.PrintWords.sized_ints hsz (j := 0) (t := 22) rfl rfl Try.underlying22 Try.underlying5 (by kernel_rfl) (by kernel_rfl) h0
  clear hA0 hval0 hsz0 hsz
  refine (PK.laws_FnTwoTx.walk Pure.FnTwoTx a0 len0 cap0 z0 W w0 y0).mono fun e W' ⟨he, bel⟩ => ?_
  subst he
  exact ⟨_, rfl, _, _, _, [], _, [], hW', trodAll_mk1 (shut_bool Try.underlying4 _), (trodAll_cons_mk (Below.trod laidOut (by kernel_rfl) (of_decide_eq_true (by kernel_rfl)) k0 bel lt0) trodAll_mk0), rfl, bel.frame _, fun h => by cases h⟩
theorem over : Rows.fnTwoTxRow.holds Try.pinned (OpenSpec.ofChange Rows.fnTwoTxSpec) :=
  OpenClaim.holds_of_wide 4 Try.f4 rfl rfl rfl rfl rfl rfl rfl ⟨rfl, rfl, rfl, rfl, rfl⟩ rfl rfl rfl rfl rfl (by kernel_rfl) Try.func4 (by kernel_rfl)
    (of_decide_eq_true (by kernel_rfl)) (by unfold Func.isWrapper; first | (rw [if_pos (by decide +kernel)]; kernel_rfl) | (rw [if_neg (by decide +kernel)]; exact ⟨rfl, rfl⟩))
    (fun os started H enc _ => lifted os started H enc)
theorem proved : Rows.FnTwoTxSaid := over
#print axioms proved
end Go.Proofs.Ytodokejcmbjpbaa.fnTwoTx
namespace Go.Proofs.Ytodokejcmbjpbaa
/-- The row, under a short name, for the claim. -/
theorem fnTwoTx_holds : Rows.FnTwoTxSaid := fnTwoTx.proved
end Go.Proofs.Ytodokejcmbjpbaa
