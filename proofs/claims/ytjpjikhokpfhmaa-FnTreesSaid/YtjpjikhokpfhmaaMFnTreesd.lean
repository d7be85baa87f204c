/- FnTrees: functions of the translation as Lean functions with what their calls come to, plain lemmas on them, and, at the end, the row. Parts of one proof, merged by a program of this session; each part's own sentence stands at its head. -/
import Derived.Test.YtjpjikhokpfhmaaMFnTreesc
namespace Go.Proofs.Ytjpjikhokpfhmaa.PT
open Go.RowKit Go.Proofs.YtjpjikhokpfhmaaW.PrintWords Go.Proofs.YtjpjikhokpfhmaaW.PrintLast Go.Proofs.YtjpjikhokpfhmaaW.PrintMore
attribute [local go_sem] max2_int min2_int max_two min_two max_three min_three max_four min_four   -- for this text's walks alone
set_option linter.unusedVariables false
set_option linter.unusedSimpArgs false
def spec_AllAt.l0 : Nat → Int → List Int → Int → List (S47) → Option (List Int)
 | 0,_,_,_,_=>none
 | k + 1,x1,x5,x6,x249000=>if x6 < 16 then ((spec_GetAt.f k x249000 x1 x6).bind fun t252=>(if x5.length < 17592186044416 then (spec_AllAt.l0 k x1 (x5 ++ [t252]) (wrap64 (x6 + 1)) x249000) else (none))) else (some x5)
def spec_AllAt.f (k : Nat) (l0_0 : List (S47)) (a1 : Int) : Option (List Int):=spec_AllAt.l0 k a1 (([] : List Int)) 0 l0_0
theorem spec_AllAt.mono_l : ∀ k,(∀ y0 y1 y2 y3,LeO (spec_AllAt.l0 k y0 y1 y2 y3) (spec_AllAt.l0 (k + 1) y0 y1 y2 y3))
 | 0=>fun _ _ _ _ r h=>by simp [spec_AllAt.l0] at h
 | k + 1=>by
  have ih0:=spec_AllAt.mono_l k;intro y0 y1 y2 y3;unfold spec_AllAt.l0
  repeat' first
  | (with_reducible exact ih0 _ _ _ _)
  | (with_reducible exact spec_GetAt.mono _ _ _ _)
  | (with_reducible exact LeO.refl _)
  | (with_reducible exact LeO.none _)
  | (with_reducible refine LeO.ite ?_ ?_)
  | (with_reducible refine LeO.bind ?_ (fun _=>?_))
  | exact ih0 _ _ _ _
  | exact spec_GetAt.mono _ _ _ _
  | exact LeO.none _
  | refine LeO.ite ?_ ?_
  | refine LeO.bind ?_ (fun _=>?_)
theorem spec_AllAt.mono : ∀ a0 a1 k,LeO (spec_AllAt.f k a0 a1) (spec_AllAt.f (k + 1) a0 a1):=by
 intro a0 a1 k;have ih0:=spec_AllAt.mono_l k;unfold spec_AllAt.f
 repeat' first
   | (with_reducible exact ih0 _ _ _ _)
   | (with_reducible exact spec_GetAt.mono _ _ _ _)
   | (with_reducible exact LeO.refl _)
   | (with_reducible exact LeO.none _)
   | (with_reducible refine LeO.ite ?_ ?_)
   | (with_reducible refine LeO.bind ?_ (fun _=>?_))
   | exact ih0 _ _ _ _
   | exact spec_GetAt.mono _ _ _ _
   | exact LeO.none _
   | refine LeO.ite ?_ ?_
   | refine LeO.bind ?_ (fun _=>?_)
set_option maxHeartbeats 8000000 in
set_option maxRecDepth 100000 in
theorem spec_AllAt.calls (k : Nat) (A0_0 : Option Addr) (c0_0 : Nat) (l0_0 : List (S47)) (a1 : Int) (r : List Int) (w : World) (hr0_0 : Kd.C k47 w A0_0 l0_0.length l0_0) (hc0_0 : l0_0.length ≤ c0_0) (h : spec_AllAt.f k l0_0 a1 = some r) :
  Calls Try.prog 15 #[.agg #[.slice A0_0 l0_0.length c0_0],.int .i64 a1] w fun e w'=>∃ v0_ : Value,e = .returned (v0_) ∧ Kd.R (Kd.int .i64) 3 w' w.heap.size (fun _=>True) v0_ r ∧ Below w.heap.size w w':=by
 have hu26:=Try.underlying26;have HR0_0:=Aside0.mk hr0_0;have HC0_0:=Aside0.mk hc0_0;clear hr0_0 hc0_0;have HB:=Aside0.mk (Below.refl w.heap.size w);have H : (spec_AllAt.l0 k a1 (([] : List Int)) 0 l0_0) = some r:=h;clear h;obtain ⟨y249,hy249⟩ : ∃ y_ : List Int,y_ = (([] : List Int)):=⟨_,rfl⟩;replace H : (spec_AllAt.l0 k a1 y249 0 l0_0) = some r:=by first | (rw [hy249];with_reducible exact H) | (have H2_:=(Option.bind_some _ _).symm.trans H;rw [hy249];with_reducible exact H2_) | (have H2_:=(Option.bind_some _ _).symm.trans H;with_reducible exact H2_) | with_reducible exact H | (rw [hy249];exact H) | exact H
 have Ny249:=Aside0.mk hy249;clear hy249;have H':=Aside0.mk H;clear H
 go_enter Try.func15,Try.ntmps15
 go_wp2_with (first | ((with_reducible refine gate_dst (N:=2) rfl ?_);refine box_event ?hg (N:=2) ?hd (cs:=#[.slice A0_0 l0_0.length c0_0]) (t:=26) ?hr ?_;(case hd=>rfl);(case hg=>rfl);(case hr=>first | (go_simp;done) | (go_simp;rfl));intro gb248 hg w3 hbox hb;have n0_:=Aside0.mk (below_step (hs HB) hb);have n1_:=Aside0.mk (hbox);have n2_:=Aside0.mk ((by rw [hg];exact (below_size (hs HB)) : w.heap.size ≤ gb248));have n3_:=Aside0.mk ((by rw [hg];exact (below_size (hs HB)) : w.heap.size ≤ gb248));clear HB;have HB:=n0_;have BK248:=n1_;have GW248:=n2_;have GE248:=n3_;clear n0_ n1_ n2_ n3_;clear hb hbox hg) | ((with_reducible refine gate_dst (N:=7) rfl ?_);refine Kd.R_lit (Kd.int .i64) _ 3 ?hg (N:=7) ?hd (xs:=([] : List Int)) (inner:=[]) (ok:=fun _=>True) (okp:=fun _=>True) ?hr ?hp (fun _ hk=>hk) trivial (Below.refl _ _) (Nat.le_refl _) (by simp) ?_;(case hd=>rfl);(case hg=>rfl);(case hr=>first | (go_simp;done) | (go_simp;rfl));(case hp=>exact (Reps.none _ _));intro v250 w4 ho5 hb hg_ hnew_;clear hg_ hnew_;(first | rw [← Ny249.out] at ho5 | (simp only [Int.reduceToNat] at ho5;rw [← Ny249.out] at ho5));have n0_:=Aside0.mk (Kd.R_lower ho5 (below_size (hs1 HB GE248)));have n1_:=Aside0.mk (blk_below (g:=gb248) (o:=.cells #[.slice A0_0 l0_0.length c0_0] 26 (0,0)) (bs BK248) hb);have n2_:=Aside0.mk (below_step (hs1 HB GE248) hb);clear BK248;clear HB;have HO251:=n0_;have BK248:=n1_;have HB:=n2_;clear n0_ n1_ n2_;clear hb ho5));go_loopg [5,6] k (fun kq v5 v6 w'=>∃ (x5_1 : List Int) (x6_1 : Int),v6 = .int .i64 x6_1 ∧ Aside0 (spec_AllAt.l0 kq a1 x5_1 x6_1 l0_0 = some r) ∧ Aside0 (kq ≤ k) ∧ Aside0 (Kd.R (Kd.int .i64) 3 w' w.heap.size (fun _=>True) v5 x5_1) ∧ Aside0 (w'.heap[gb248]? = some (.cells #[(.slice A0_0 l0_0.length c0_0)] 26 (0,0))) ∧ Aside0 (Below w.heap.size w w'));case atStart=>exact ⟨(y249),(0),(by first | rfl | (simp;done) | (simp [*];done)),H',⟨Nat.le_refl _⟩,⟨rs HO251⟩,⟨bs BK248⟩,⟨hs1 HB GE248⟩⟩
 case round =>
  clear H'
  try clear c1
  try clear p2
  obtain ⟨x5_1,x6_1,rfl,HA,HK1,HO_5,BK248,HB⟩:=hrel;cases gk with
  | zero=>exact absurd HA.out (by simp [spec_AllAt.l0])
  | succ k1 =>
   have H:=HA.out;clear HA;simp only [spec_AllAt.l0] at H
   by_cases c6 : x6_1 < 16
   ·rw [if_pos c6] at H;have c6b0 : decide (x6_1 < 16) = true:=decide_eq_true c6;clear c6;replace H:=Option.bind_eq_some_iff.mp H;obtain ⟨t252,A70,H⟩:=H;replace H : (if x5_1.length < 17592186044416 then (spec_AllAt.l0 k1 a1 (x5_1 ++ [t252]) (wrap64 (x6_1 + 1)) l0_0) else (none)) = some r:=H;have A7:=Aside0.mk A70;clear A70
    by_cases c8 : x5_1.length < 17592186044416
    ·rw [if_pos c8] at H;have LMc8:=Aside0.mk c8;clear c8;obtain ⟨y253,hy253⟩ : ∃ y_ : List Int,y_ = (x5_1 ++ [t252]):=⟨_,rfl⟩;replace H : (spec_AllAt.l0 k1 a1 y253 (wrap64 (x6_1 + 1)) l0_0) = some r:=by first | (rw [hy253];with_reducible exact H) | (have H2_:=(Option.bind_some _ _).symm.trans H;rw [hy253];with_reducible exact H2_) | (have H2_:=(Option.bind_some _ _).symm.trans H;with_reducible exact H2_) | with_reducible exact H | (rw [hy253];exact H) | exact H
     have Ny253:=Aside0.mk hy253;clear hy253;have H':=Aside0.mk H;clear H;have hcz9_0 : wr.cell? ⟨gb248,0,none⟩ = some (.slice A0_0 l0_0.length c0_0):=(blk_cell BK248.out 0).trans rfl;have hfz9_0:=blk_frozen BK248.out 0;go_wp2_with (first | ((with_reducible refine gate_callee (f:=12) rfl ?_);refine goesL_ (some 16) rfl rfl Try.func12 (by kernel_rfl) rfl #[.agg #[.slice A0_0 l0_0.length c0_0],.int .i64 a1,.int .i64 x6_1] rfl (by (try simp only [List.map_toArray,List.map_cons,List.map_nil]);first | done | rfl | (simp only [List.length_drop,List.length_take];rfl)) ?_;(with_reducible refine (spec_GetAt.calls k1 _ _ l0_0 a1 x6_1 t252 _ ?side1 ?side2 A7.out).mono ?_);(case side1=>repeat (first | exact (Kd.C_below HR0_0.out HB.out) | (with_reducible refine Kd.C_alloc ?_ _) | (with_reducible refine Kd.C_drewN ?_ _) | (with_reducible refine Kd.C_drew ?_)));(case side2=>exact HC0_0.out);rintro e w10 ⟨rfl,hb⟩;refine ⟨_,rfl,?_⟩;have n0_:=Aside0.mk (Kd.R_below (rs HO_5) hb);have n1_:=Aside0.mk (blk_below (g:=gb248) (o:=.cells #[.slice A0_0 l0_0.length c0_0] 26 (0,0)) (bs BK248) hb);have n2_:=Aside0.mk (below_step (hs1 HB GE248) hb);clear HO_5;clear BK248;clear HB;have HO_5:=n0_;have BK248:=n1_;have HB:=n2_;clear n0_ n1_ n2_;(try clear hb);(try clear hb2);(try clear hk);(try clear hi)) | ((with_reducible refine gate_builtin (b:=.append) (xs:=#[.tmp 12,.tmp 17]) rfl ?_);at_builtin;refine Kd.R_append (Kd.int .i64) (w0:=w) w.heap.size rfl (.tmp 12) (.tmp 17) 27 3 (.int .i64 0) 8 rfl Try.underlying27 info3 rfl (by decide) (by omega) u5 x5_1 t252 [.int .i64 t252] (fun _=>True) (fun _=>False) rfl rfl ?aP (fun _ hk=>hk.elim) ?aF ?aO ?aB ?aS ?aL ?_;(case aP=>exact rfl);(case aB=>exact (hs1 HB GE248));(case aF=>exact (fun _ _=>trivial));(case aO=>exact (rs HO_5));(case aS=>exact (below_size (hs1 HB GE248)));(case aL=>have:=LMc8.out;omega);intro v254 w11 ho hb hg hat;rw [← Ny253.out] at ho;have n0_:=Aside0.mk (blk_grown (g:=gb248) (o:=.cells #[.slice A0_0 l0_0.length c0_0] 26 (0,0)) (bs BK248) hg (Kd.R_ne HO_5.out BK248.out (by decide)));have n1_:=Aside0.mk (hb);have n2_:=Aside0.mk (ho);clear BK248;clear HB;clear HO_5;have BK248:=n0_;have HB:=n1_;have HO255:=n2_;clear n0_ n1_ n2_;clear ho hb hg hat));go_roundg k1;case measure=>have:=HK1.out;omega
     case rel=>exact ⟨(y253),(wrap64 (x6_1 + 1)),(by first | rfl | (simp;done) | (simp [*];done)),H',⟨by have:=HK1.out;omega⟩,⟨rs HO255⟩,⟨bs BK248⟩,⟨hs1 HB GE248⟩⟩
    rw [if_neg c8] at H;exact absurd H (by simp)
   rw [if_neg c6] at H;have c6b0 : decide (x6_1 < 16) = false:=decide_eq_false c6;clear c6;obtain rfl:=Option.some.inj H
   go_wp2
   go_ret
   exact ⟨_,by first | rfl | (simp [errW_none,errW_some] <;> rfl) | (simp [*,errW_none,errW_some] <;> rfl),rs HO_5,hs1 HB GE248⟩
end Go.Proofs.Ytjpjikhokpfhmaa.PT

namespace Go.Proofs.Ytjpjikhokpfhmaa.PT
open Go.RowKit Go.Proofs.YtjpjikhokpfhmaaW.PrintWords Go.Proofs.YtjpjikhokpfhmaaW.PrintLast Go.Proofs.YtjpjikhokpfhmaaW.PrintMore
attribute [local go_sem] max2_int min2_int max_two min_two max_three min_three max_four min_four   -- for this text's walks alone
set_option linter.unusedVariables false
set_option linter.unusedSimpArgs false
def impl_hasInt.l0 : Nat → Int → List Int → Int → Int → Option (Bool)
 | 0,_,_,_,_=>none
 | k + 1,x1,x7,x8,x9=>if x9 < x8 then (if 0 ≤ x9 then (if x9 < (x7.length : Int) then (if (rd x7 x9) = x1 then (some true) else (impl_hasInt.l0 k x1 x7 x8 (wrap64 (x9 + 1)))) else (none)) else (none)) else (some false)
def impl_hasInt.f (k : Nat) (l0 : List Int) (a1 : Int) : Option (Bool):=impl_hasInt.l0 k a1 l0 (l0.length : Int) 0
theorem impl_hasInt.mono_l : ∀ k,(∀ y0 y1 y2 y3,LeO (impl_hasInt.l0 k y0 y1 y2 y3) (impl_hasInt.l0 (k + 1) y0 y1 y2 y3))
 | 0=>fun _ _ _ _ r h=>by simp [impl_hasInt.l0] at h
 | k + 1=>by
  have ih0:=impl_hasInt.mono_l k;intro y0 y1 y2 y3;unfold impl_hasInt.l0
  repeat' first
  | (with_reducible exact ih0 _ _ _ _)
  | (with_reducible exact LeO.refl _)
  | (with_reducible exact LeO.none _)
  | (with_reducible refine LeO.ite ?_ ?_)
  | (with_reducible refine LeO.bind ?_ (fun _=>?_))
  | exact ih0 _ _ _ _
  | exact LeO.none _
  | refine LeO.ite ?_ ?_
  | refine LeO.bind ?_ (fun _=>?_)
theorem impl_hasInt.mono : ∀ a0 a1 k,LeO (impl_hasInt.f k a0 a1) (impl_hasInt.f (k + 1) a0 a1):=by
 intro a0 a1 k;have ih0:=impl_hasInt.mono_l k;unfold impl_hasInt.f
 repeat' first
   | (with_reducible exact ih0 _ _ _ _)
   | (with_reducible exact LeO.refl _)
   | (with_reducible exact LeO.none _)
   | (with_reducible refine LeO.ite ?_ ?_)
   | (with_reducible refine LeO.bind ?_ (fun _=>?_))
   | exact ih0 _ _ _ _
   | exact LeO.none _
   | refine LeO.ite ?_ ?_
   | refine LeO.bind ?_ (fun _=>?_)
set_option maxHeartbeats 8000000 in
set_option maxRecDepth 100000 in
theorem impl_hasInt.calls (k : Nat) (A0 : Option Addr) (c0 : Nat) (l0 : List Int) (a1 : Int) (r : Bool) (w : World) (hr0 : Kd.C (Kd.int .i64) w A0 l0.length l0) (hc0 : l0.length ≤ c0) (h : impl_hasInt.f k l0 a1 = some r) :
  Calls Try.prog 33 #[.slice A0 l0.length c0,.int .i64 a1] w fun e w'=>e = .returned (.bool r) ∧ Drawn0 w w':=by
 have HR0:=Aside0.mk hr0;have HC0:=Aside0.mk hc0;clear hr0 hc0;have H : (impl_hasInt.l0 k a1 l0 (l0.length : Int) 0) = some r:=h;clear h;have H':=Aside0.mk H;clear H
 go_enter Try.func33,Try.ntmps33
 go_wp2
 go_loopg [9] k (fun kq v9 w'=>∃ (x9_1 : Int),v9 = .int .i64 x9_1 ∧ Aside0 (impl_hasInt.l0 kq a1 l0 (l0.length : Int) x9_1 = some r) ∧ Aside0 (kq ≤ k) ∧ Drawn0 w w');case atStart=>exact ⟨(0),(by first | rfl | (simp;done) | (simp [*];done)),H',⟨Nat.le_refl _⟩,by repeat (first | exact Drawn0.refl _ | apply Drawn0.step)⟩
 case round =>
  clear H'
  try clear p2
  obtain ⟨x9_1,rfl,HA,HK1,⟨m1,rfl⟩⟩:=hrel;cases gk with
  | zero=>exact absurd HA.out (by simp [impl_hasInt.l0])
  | succ k1 =>
   have H:=HA.out;clear HA;simp only [impl_hasInt.l0] at H
   by_cases c3 : x9_1 < (l0.length : Int)
   ·rw [if_pos c3] at H;have c3b0 : decide (x9_1 < (l0.length : Int)) = true:=decide_eq_true c3;clear c3
    by_cases c4 : 0 ≤ x9_1
    ·rw [if_pos c4] at H;have c4b0 : decide (0 ≤ x9_1) = true:=decide_eq_true c4;clear c4
     by_cases c5 : x9_1 < (l0.length : Int)
     ·rw [if_pos c5] at H;have c5b0 : decide (x9_1 < (l0.length : Int)) = true:=decide_eq_true c5;clear c5
      by_cases c6 : (rd l0 x9_1) = a1
      ·rw [if_pos c6] at H;have c6b0 : ((rd l0 x9_1) == a1) = true:=beq_iff_eq.mpr c6;have c6b1 : ((rd l0 x9_1) != a1) = false:=bne_eq_false_iff_eq.mpr c6;clear c6;obtain rfl:=Option.some.inj H;have p256 : 0 ≤ (x9_1 : Int):=of_decide_eq_true (by first | (with_reducible assumption) | assumption);have q256 : x9_1 < (l0.length : Int):=of_decide_eq_true (by first | (with_reducible assumption) | assumption);obtain ⟨ad256,e256,hx256_0⟩:=Kd.at_int HR0.out x9_1 p256 q256;cases e256;replace p256:=eq_true p256;replace q256:=eq_true q256
       go_wp2
       go_ret
       exact ⟨by first | rfl | (simp;done) | (simp [*];done),by repeat (first | exact Drawn0.refl _ | apply Drawn0.step)⟩
      rw [if_neg c6] at H;have c6b0 : ((rd l0 x9_1) == a1) = false:=beq_eq_false_iff_ne.mpr c6;have c6b1 : ((rd l0 x9_1) != a1) = true:=bne_iff_ne.mpr c6;have H':=Aside0.mk H;clear H;have p256 : 0 ≤ (x9_1 : Int):=of_decide_eq_true (by first | (with_reducible assumption) | assumption);have q256 : x9_1 < (l0.length : Int):=of_decide_eq_true (by first | (with_reducible assumption) | assumption);obtain ⟨ad256,e256,hx256_0⟩:=Kd.at_int HR0.out x9_1 p256 q256;cases e256;replace p256:=eq_true p256;replace q256:=eq_true q256
      go_wp2
      go_roundg k1;case measure=>have:=HK1.out;omega
      case rel=>exact ⟨(wrap64 (x9_1 + 1)),(by first | rfl | (simp;done) | (simp [*];done)),H',⟨by have:=HK1.out;omega⟩,by repeat (first | exact Drawn0.refl _ | apply Drawn0.step)⟩
     rw [if_neg c5] at H;exact absurd H (by simp)
    rw [if_neg c4] at H;exact absurd H (by simp)
   rw [if_neg c3] at H;have c3b0 : decide (x9_1 < (l0.length : Int)) = false:=decide_eq_false c3;clear c3;obtain rfl:=Option.some.inj H
   go_wp2
   go_ret
   exact ⟨by first | rfl | (simp;done) | (simp [*];done),by repeat (first | exact Drawn0.refl _ | apply Drawn0.step)⟩
end Go.Proofs.Ytjpjikhokpfhmaa.PT

namespace Go.Proofs.Ytjpjikhokpfhmaa.PT
open Go.RowKit Go.Proofs.YtjpjikhokpfhmaaW.PrintWords Go.Proofs.YtjpjikhokpfhmaaW.PrintLast Go.Proofs.YtjpjikhokpfhmaaW.PrintMore
attribute [local go_sem] max2_int min2_int max_two min_two max_three min_three max_four min_four   -- for this text's walks alone
set_option linter.unusedVariables false
set_option linter.unusedSimpArgs false
def impl_knotsOf.l0 : Nat → List Int → List Int → Int → Int → List (S47) → Option (List Int)
 | 0,_,_,_,_,_=>none
 | k + 1,x5,x19,x20,x21,x258000=>if x21 < x20 then (if 0 ≤ x21 then (if x21 < (x19.length : Int) then ((impl_in.f (rd x19 x21) 0 (wrap64 ((x258000.length : Int) - 1))).bind fun t264=>(if t264 = true then ((impl_hasInt.f k x5 (rd x19 x21)).bind fun t265=>(if t265 = true then (impl_knotsOf.l0 k x5 x19 x20 (wrap64 (x21 + 1)) x258000) else (if x5.length < 17592186044416 then (impl_knotsOf.l0 k (x5 ++ [rd x19 x21]) x19 x20 (wrap64 (x21 + 1)) x258000) else (none)))) else (impl_knotsOf.l0 k x5 x19 x20 (wrap64 (x21 + 1)) x258000))) else (none)) else (none)) else (some x5)
def impl_knotsOf.f (k : Nat) (l0_0 : List (S47)) (a1 : Int) : Option (List Int):=(impl_isRoot.f l0_0 a1).bind fun t258=>(if t258 = true then (if 0 ≤ a1 then (if a1 < (l0_0.length : Int) then (impl_knotsOf.l0 k (([a1] : List Int)) ((rd_T47 l0_0 a1).f1) (((rd_T47 l0_0 a1).f1).length : Int) 0 l0_0) else (none)) else (none)) else (some ([] : List Int)))
theorem impl_knotsOf.mono_l : ∀ k,(∀ y0 y1 y2 y3 y4,LeO (impl_knotsOf.l0 k y0 y1 y2 y3 y4) (impl_knotsOf.l0 (k + 1) y0 y1 y2 y3 y4))
 | 0=>fun _ _ _ _ _ r h=>by simp [impl_knotsOf.l0] at h
 | k + 1=>by
  have ih0:=impl_knotsOf.mono_l k;intro y0 y1 y2 y3 y4;unfold impl_knotsOf.l0
  repeat' first
  | (with_reducible exact ih0 _ _ _ _ _)
  | (with_reducible exact impl_hasInt.mono _ _ _)
  | (with_reducible exact LeO.refl _)
  | (with_reducible exact LeO.none _)
  | (with_reducible refine LeO.ite ?_ ?_)
  | (with_reducible refine LeO.bind ?_ (fun _=>?_))
  | exact ih0 _ _ _ _ _
  | exact impl_hasInt.mono _ _ _
  | exact LeO.none _
  | refine LeO.ite ?_ ?_
  | refine LeO.bind ?_ (fun _=>?_)
theorem impl_knotsOf.mono : ∀ a0 a1 k,LeO (impl_knotsOf.f k a0 a1) (impl_knotsOf.f (k + 1) a0 a1):=by
 intro a0 a1 k;have ih0:=impl_knotsOf.mono_l k;unfold impl_knotsOf.f
 repeat' first
   | (with_reducible exact ih0 _ _ _ _ _)
   | (with_reducible exact impl_hasInt.mono _ _ _)
   | (with_reducible exact LeO.refl _)
   | (with_reducible exact LeO.none _)
   | (with_reducible refine LeO.ite ?_ ?_)
   | (with_reducible refine LeO.bind ?_ (fun _=>?_))
   | exact ih0 _ _ _ _ _
   | exact impl_hasInt.mono _ _ _
   | exact LeO.none _
   | refine LeO.ite ?_ ?_
   | refine LeO.bind ?_ (fun _=>?_)
set_option maxHeartbeats 8000000 in
set_option maxRecDepth 100000 in
theorem impl_knotsOf.calls (k : Nat) (A0_0 : Option Addr) (c0_0 : Nat) (l0_0 : List (S47)) (a1 : Int) (r : List Int) (w : World) (hr0_0 : Kd.C k47 w A0_0 l0_0.length l0_0) (hc0_0 : l0_0.length ≤ c0_0) (h : impl_knotsOf.f k l0_0 a1 = some r) :
  Calls Try.prog 32 #[.agg #[.slice A0_0 l0_0.length c0_0],.int .i64 a1] w fun e w'=>∃ v0_ : Value,e = .returned (v0_) ∧ Kd.R (Kd.int .i64) 3 w' w.heap.size (fun _=>True) v0_ r ∧ Below w.heap.size w w':=by
 have hu26:=Try.underlying26;have HR0_0:=Aside0.mk hr0_0;have HC0_0:=Aside0.mk hc0_0;clear hr0_0 hc0_0;have HB:=Aside0.mk (Below.refl w.heap.size w);have H : ((impl_isRoot.f l0_0 a1).bind fun t258=>(if t258 = true then (if 0 ≤ a1 then (if a1 < (l0_0.length : Int) then (impl_knotsOf.l0 k (([a1] : List Int)) ((rd_T47 l0_0 a1).f1) (((rd_T47 l0_0 a1).f1).length : Int) 0 l0_0) else (none)) else (none)) else (some ([] : List Int)))) = some r:=h;clear h;replace H:=Option.bind_eq_some_iff.mp H;obtain ⟨t258,A30,H⟩:=H;replace H : (if t258 = true then (if 0 ≤ a1 then (if a1 < (l0_0.length : Int) then (impl_knotsOf.l0 k (([a1] : List Int)) ((rd_T47 l0_0 a1).f1) (((rd_T47 l0_0 a1).f1).length : Int) 0 l0_0) else (none)) else (none)) else (some ([] : List Int))) = some r:=H;have A3:=Aside0.mk A30;clear A30
 by_cases c4 : t258 = true
 ·subst c4;have H1 : (if 0 ≤ a1 then (if a1 < (l0_0.length : Int) then (impl_knotsOf.l0 k (([a1] : List Int)) ((rd_T47 l0_0 a1).f1) (((rd_T47 l0_0 a1).f1).length : Int) 0 l0_0) else (none)) else (none)) = some r:=by rw [if_pos rfl] at H;exact H
  clear H;have H:=H1;clear H1;obtain ⟨y259,hy259⟩ : ∃ y_ : List Int,y_ = (([a1] : List Int)):=⟨_,rfl⟩;replace H : (if 0 ≤ a1 then (if a1 < (l0_0.length : Int) then (impl_knotsOf.l0 k y259 ((rd_T47 l0_0 a1).f1) (((rd_T47 l0_0 a1).f1).length : Int) 0 l0_0) else (none)) else (none)) = some r:=by first | (rw [hy259];with_reducible exact H) | (have H2_:=(Option.bind_some _ _).symm.trans H;rw [hy259];with_reducible exact H2_) | (have H2_:=(Option.bind_some _ _).symm.trans H;with_reducible exact H2_) | with_reducible exact H | (rw [hy259];exact H) | exact H
  have Ny259:=Aside0.mk hy259;clear hy259
  by_cases c5 : 0 ≤ a1
  ·rw [if_pos c5] at H;have c5b0 : decide (0 ≤ a1) = true:=decide_eq_true c5;clear c5
   by_cases c6 : a1 < (l0_0.length : Int)
   ·rw [if_pos c6] at H;have c6b0 : decide (a1 < (l0_0.length : Int)) = true:=decide_eq_true c6;clear c6;have H':=Aside0.mk H;clear H
    go_enter Try.func32,Try.ntmps32
    go_wp2_with (first | ((with_reducible refine gate_dst (N:=2) rfl ?_);refine box_event ?hg (N:=2) ?hd (cs:=#[.slice A0_0 l0_0.length c0_0]) (t:=26) ?hr ?_;(case hd=>rfl);(case hg=>rfl);(case hr=>first | (go_simp;done) | (go_simp;rfl));intro gb257 hg w7 hbox hb;have n0_:=Aside0.mk (below_step (hs HB) hb);have n1_:=Aside0.mk (hbox);have n2_:=Aside0.mk ((by rw [hg];exact (below_size (hs HB)) : w.heap.size ≤ gb257));have n3_:=Aside0.mk ((by rw [hg];exact (below_size (hs HB)) : w.heap.size ≤ gb257));clear HB;have HB:=n0_;have BK257:=n1_;have GW257:=n2_;have GE257:=n3_;clear n0_ n1_ n2_ n3_;clear hb hbox hg;have hcz8_0 : w7.cell? ⟨gb257,0,none⟩ = some (.slice A0_0 l0_0.length c0_0):=(blk_cell BK257.out 0).trans rfl;have hfz8_0:=blk_frozen BK257.out 0) | ((with_reducible refine gate_callee (f:=24) rfl ?_);refine goesL_ (some 10) rfl rfl Try.func24 (by kernel_rfl) rfl #[.agg #[.slice A0_0 l0_0.length c0_0],.int .i64 a1] rfl (by (try simp only [List.map_toArray,List.map_cons,List.map_nil]);first | done | rfl | (simp only [List.length_drop,List.length_take];rfl)) ?_;(with_reducible refine (impl_isRoot.calls _ _ l0_0 a1 true _ ?side1 ?side2 A3.out).mono ?_);(case side1=>repeat (first | exact (Kd.C_below HR0_0.out HB.out) | (with_reducible refine Kd.C_alloc ?_ _) | (with_reducible refine Kd.C_drewN ?_ _) | (with_reducible refine Kd.C_drew ?_)));(case side2=>exact HC0_0.out);rintro e w9 ⟨rfl,hb⟩;refine ⟨_,rfl,?_⟩;have n0_:=Aside0.mk (blk_below (g:=gb257) (o:=.cells #[.slice A0_0 l0_0.length c0_0] 26 (0,0)) (bs BK257) hb);have n1_:=Aside0.mk (below_step (hs1 HB GE257) hb);clear BK257;clear HB;have BK257:=n0_;have HB:=n1_;clear n0_ n1_;(try clear hb);(try clear hb2);(try clear hk);(try clear hi)) | ((with_reducible refine gate_dst (N:=13) rfl ?_);refine Kd.R_lit (Kd.int .i64) _ 3 ?hg (N:=13) ?hd (xs:=([a1] : List Int)) (inner:=[.int .i64 a1]) (ok:=fun _=>True) (okp:=fun _=>True) ?hr ?hp (fun _ hk=>hk) trivial (Below.refl _ _) (Nat.le_refl _) (by simp) ?_;(case hd=>rfl);(case hg=>rfl);(case hr=>first | (go_simp;done) | (go_simp;rfl));(case hp=>exact (Reps.one (show Kd.M (Kd.int .i64) _ _ _ a1 [.int .i64 a1] from rfl) (Reps.none _ _)));intro v260 w10 ho11 hb hg_ hnew_;clear hg_ hnew_;(first | rw [← Ny259.out] at ho11 | (simp only [Int.reduceToNat] at ho11;rw [← Ny259.out] at ho11));have n0_:=Aside0.mk (Kd.R_lower ho11 (below_size (hs1 HB GE257)));have n1_:=Aside0.mk (blk_below (g:=gb257) (o:=.cells #[.slice A0_0 l0_0.length c0_0] 26 (0,0)) (bs BK257) hb);have n2_:=Aside0.mk (below_step (hs1 HB GE257) hb);clear BK257;clear HB;have HO261:=n0_;have BK257:=n1_;have HB:=n2_;clear n0_ n1_ n2_;clear hb ho11;have hcz12_0 : w10.cell? ⟨gb257,0,none⟩ = some (.slice A0_0 l0_0.length c0_0):=(blk_cell BK257.out 0).trans rfl;have hfz12_0:=blk_frozen BK257.out 0;have p262 : 0 ≤ (a1 : Int):=of_decide_eq_true (by first | (with_reducible assumption) | assumption);have q262 : a1 < (l0_0.length : Int):=of_decide_eq_true (by first | (with_reducible assumption) | assumption);obtain ⟨ad262,A262_1,c262_1,e262,hx262_0,hx262_1,hl262_1,hi262_1⟩:=at_T47 HR0_0.out a1 p262 q262;cases e262;replace hx262_0:=(HB.out.cell (World.block_lt_of_cell? w _ hx262_0)).trans hx262_0;replace hx262_1:=(HB.out.cell (World.block_lt_of_cell? w _ hx262_1)).trans hx262_1;have HR262_1:=Aside0.mk hi262_1;have HC262_1:=Aside0.mk hl262_1;clear hi262_1 hl262_1;replace p262:=eq_true p262;replace q262:=eq_true q262));go_loopg [5,21] k (fun kq v5 v21 w'=>∃ (x5_1 : List Int) (x21_1 : Int),v21 = .int .i64 x21_1 ∧ Aside0 (impl_knotsOf.l0 kq x5_1 ((rd_T47 l0_0 a1).f1) (((rd_T47 l0_0 a1).f1).length : Int) x21_1 l0_0 = some r) ∧ Aside0 (kq ≤ k) ∧ Aside0 (Kd.R (Kd.int .i64) 3 w' w.heap.size (fun _=>True) v5 x5_1) ∧ Aside0 (w'.heap[gb257]? = some (.cells #[(.slice (some ad262) l0_0.length c0_0)] 26 (0,0))) ∧ Aside0 (Below w.heap.size w w'));case atStart=>exact ⟨(y259),(0),(by first | rfl | (simp;done) | (simp [*];done)),H',⟨Nat.le_refl _⟩,⟨rs HO261⟩,⟨bs BK257⟩,⟨hs1 HB GE257⟩⟩
    case round =>
     clear H'
     try clear c2
     try clear p2
     try clear q2
     try clear hx2
     try clear c3
     try clear c4
     try clear c5
     try clear c5b0
     try clear c6
     try clear c6b0
     try clear hcz12_0
     try clear hcz8_0
     try clear hfz12_0
     try clear hfz8_0
     try clear hx262_0
     try clear hx262_1
     try clear p262
     try clear q262
     obtain ⟨x5_1,x21_1,rfl,HA,HK1,HO_5,BK257,HB⟩:=hrel;cases gk with
     | zero=>exact absurd HA.out (by simp [impl_knotsOf.l0])
     | succ k1 =>
      have H:=HA.out;clear HA;simp only [impl_knotsOf.l0] at H
      by_cases c13 : x21_1 < (((rd_T47 l0_0 a1).f1).length : Int)
      ·rw [if_pos c13] at H;have c13b0 : decide (x21_1 < (((rd_T47 l0_0 a1).f1).length : Int)) = true:=decide_eq_true c13;clear c13
       by_cases c14 : 0 ≤ x21_1
       ·rw [if_pos c14] at H;have c14b0 : decide (0 ≤ x21_1) = true:=decide_eq_true c14;clear c14
        by_cases c15 : x21_1 < (((rd_T47 l0_0 a1).f1).length : Int)
        ·rw [if_pos c15] at H;have c15b0 : decide (x21_1 < (((rd_T47 l0_0 a1).f1).length : Int)) = true:=decide_eq_true c15;clear c15;replace H:=Option.bind_eq_some_iff.mp H;obtain ⟨t264,A160,H⟩:=H;replace H : (if t264 = true then ((impl_hasInt.f k1 x5_1 (rd ((rd_T47 l0_0 a1).f1) x21_1)).bind fun t265=>(if t265 = true then (impl_knotsOf.l0 k1 x5_1 ((rd_T47 l0_0 a1).f1) (((rd_T47 l0_0 a1).f1).length : Int) (wrap64 (x21_1 + 1)) l0_0) else (if x5_1.length < 17592186044416 then (impl_knotsOf.l0 k1 (x5_1 ++ [rd ((rd_T47 l0_0 a1).f1) x21_1]) ((rd_T47 l0_0 a1).f1) (((rd_T47 l0_0 a1).f1).length : Int) (wrap64 (x21_1 + 1)) l0_0) else (none)))) else (impl_knotsOf.l0 k1 x5_1 ((rd_T47 l0_0 a1).f1) (((rd_T47 l0_0 a1).f1).length : Int) (wrap64 (x21_1 + 1)) l0_0)) = some r:=H;have A16:=Aside0.mk A160;clear A160
         by_cases c17 : t264 = true
         ·subst c17;have H1 : ((impl_hasInt.f k1 x5_1 (rd ((rd_T47 l0_0 a1).f1) x21_1)).bind fun t265=>(if t265 = true then (impl_knotsOf.l0 k1 x5_1 ((rd_T47 l0_0 a1).f1) (((rd_T47 l0_0 a1).f1).length : Int) (wrap64 (x21_1 + 1)) l0_0) else (if x5_1.length < 17592186044416 then (impl_knotsOf.l0 k1 (x5_1 ++ [rd ((rd_T47 l0_0 a1).f1) x21_1]) ((rd_T47 l0_0 a1).f1) (((rd_T47 l0_0 a1).f1).length : Int) (wrap64 (x21_1 + 1)) l0_0) else (none)))) = some r:=by rw [if_pos rfl] at H;exact H
          clear H;have H:=H1;clear H1;replace H:=Option.bind_eq_some_iff.mp H;obtain ⟨t265,A180,H⟩:=H;replace H : (if t265 = true then (impl_knotsOf.l0 k1 x5_1 ((rd_T47 l0_0 a1).f1) (((rd_T47 l0_0 a1).f1).length : Int) (wrap64 (x21_1 + 1)) l0_0) else (if x5_1.length < 17592186044416 then (impl_knotsOf.l0 k1 (x5_1 ++ [rd ((rd_T47 l0_0 a1).f1) x21_1]) ((rd_T47 l0_0 a1).f1) (((rd_T47 l0_0 a1).f1).length : Int) (wrap64 (x21_1 + 1)) l0_0) else (none))) = some r:=H;have A18:=Aside0.mk A180;clear A180
          by_cases c19 : t265 = true
          ·subst c19;have H1 : (impl_knotsOf.l0 k1 x5_1 ((rd_T47 l0_0 a1).f1) (((rd_T47 l0_0 a1).f1).length : Int) (wrap64 (x21_1 + 1)) l0_0) = some r:=by rw [if_pos rfl] at H;exact H
           clear H;have H:=H1;clear H1;have H':=Aside0.mk H;clear H;have p263 : 0 ≤ (x21_1 : Int):=of_decide_eq_true (by first | (with_reducible assumption) | assumption);have q263 : x21_1 < (((rd_T47 l0_0 a1).f1).length : Int):=of_decide_eq_true (by first | (with_reducible assumption) | assumption);obtain ⟨ad263,e263,hx263_0⟩:=Kd.at_int HR262_1.out x21_1 p263 q263;cases e263;replace hx263_0:=(HB.out.cell (World.block_lt_of_cell? w _ hx263_0)).trans hx263_0;replace p263:=eq_true p263;replace q263:=eq_true q263;have hcz20_0 : wr.cell? ⟨gb257,0,none⟩ = some (.slice (some ad262) l0_0.length c0_0):=(blk_cell BK257.out 0).trans rfl;have hfz20_0:=blk_frozen BK257.out 0;go_wp2_with (first | ((with_reducible refine gate_callee (f:=25) rfl ?_);refine goesL_ (some 30) rfl rfl Try.func25 (by kernel_rfl) rfl #[.int .i64 (rd ((rd_T47 l0_0 a1).f1) x21_1),.int .i64 0,.int .i64 (wrap64 ((l0_0.length : Int) - 1))] rfl (by (try simp only [List.map_toArray,List.map_cons,List.map_nil]);first | done | rfl | (simp only [List.length_drop,List.length_take];rfl)) ?_;(with_reducible refine (impl_in.calls (rd ((rd_T47 l0_0 a1).f1) x21_1) 0 (wrap64 ((l0_0.length : Int) - 1)) true _ A16.out).mono ?_);rintro e w' ⟨rfl,⟨nd,rfl⟩⟩;refine ⟨_,rfl,?_⟩;obtain ⟨Ao21,co21,eo21⟩:=Kd.R_slice HO_5.out;subst eo21) | (go_at_call 33;(with_reducible refine (impl_hasInt.calls k1 _ _ x5_1 (rd ((rd_T47 l0_0 a1).f1) x21_1) true _ ?side1 ?side2 A18.out).mono ?_);(case side1=>repeat (first | exact (Kd.R_reads' HO_5.out).2.2 | (with_reducible refine Kd.C_alloc ?_ _) | (with_reducible refine Kd.C_drewN ?_ _) | (with_reducible refine Kd.C_drew ?_)));(case side2=>exact (Kd.R_reads' HO_5.out).2.1);rintro e w' ⟨rfl,⟨nd,rfl⟩⟩));go_roundg k1;case measure=>have:=HK1.out;omega
           case rel=>exact ⟨(x5_1),(wrap64 (x21_1 + 1)),(by first | rfl | (simp;done) | (simp [*];done)),H',⟨by have:=HK1.out;omega⟩,⟨rs HO_5⟩,⟨bs BK257⟩,⟨hs1 HB GE257⟩⟩
          replace c19:=Bool.eq_false_iff.mpr c19;subst c19;have H1 : (if x5_1.length < 17592186044416 then (impl_knotsOf.l0 k1 (x5_1 ++ [rd ((rd_T47 l0_0 a1).f1) x21_1]) ((rd_T47 l0_0 a1).f1) (((rd_T47 l0_0 a1).f1).length : Int) (wrap64 (x21_1 + 1)) l0_0) else (none)) = some r:=by rw [if_neg (show ¬ (false = true) by decide)] at H;exact H
          clear H;have H:=H1;clear H1
          by_cases c22 : x5_1.length < 17592186044416
          ·rw [if_pos c22] at H;have LMc22:=Aside0.mk c22;clear c22;obtain ⟨y266,hy266⟩ : ∃ y_ : List Int,y_ = (x5_1 ++ [rd ((rd_T47 l0_0 a1).f1) x21_1]):=⟨_,rfl⟩;replace H : (impl_knotsOf.l0 k1 y266 ((rd_T47 l0_0 a1).f1) (((rd_T47 l0_0 a1).f1).length : Int) (wrap64 (x21_1 + 1)) l0_0) = some r:=by first | (rw [hy266];with_reducible exact H) | (have H2_:=(Option.bind_some _ _).symm.trans H;rw [hy266];with_reducible exact H2_) | (have H2_:=(Option.bind_some _ _).symm.trans H;with_reducible exact H2_) | with_reducible exact H | (rw [hy266];exact H) | exact H
           have Ny266:=Aside0.mk hy266;clear hy266;have H':=Aside0.mk H;clear H;have p263 : 0 ≤ (x21_1 : Int):=of_decide_eq_true (by first | (with_reducible assumption) | assumption);have q263 : x21_1 < (((rd_T47 l0_0 a1).f1).length : Int):=of_decide_eq_true (by first | (with_reducible assumption) | assumption);obtain ⟨ad263,e263,hx263_0⟩:=Kd.at_int HR262_1.out x21_1 p263 q263;cases e263;replace hx263_0:=(HB.out.cell (World.block_lt_of_cell? w _ hx263_0)).trans hx263_0;replace p263:=eq_true p263;replace q263:=eq_true q263;have hcz23_0 : wr.cell? ⟨gb257,0,none⟩ = some (.slice (some ad262) l0_0.length c0_0):=(blk_cell BK257.out 0).trans rfl;have hfz23_0:=blk_frozen BK257.out 0;go_wp2_with (first | ((with_reducible refine gate_callee (f:=25) rfl ?_);refine goesL_ (some 30) rfl rfl Try.func25 (by kernel_rfl) rfl #[.int .i64 (rd ((rd_T47 l0_0 a1).f1) x21_1),.int .i64 0,.int .i64 (wrap64 ((l0_0.length : Int) - 1))] rfl (by (try simp only [List.map_toArray,List.map_cons,List.map_nil]);first | done | rfl | (simp only [List.length_drop,List.length_take];rfl)) ?_;(with_reducible refine (impl_in.calls (rd ((rd_T47 l0_0 a1).f1) x21_1) 0 (wrap64 ((l0_0.length : Int) - 1)) true _ A16.out).mono ?_);rintro e w' ⟨rfl,⟨nd,rfl⟩⟩;refine ⟨_,rfl,?_⟩;obtain ⟨Ao24,co24,eo24⟩:=Kd.R_slice HO_5.out;subst eo24) | (go_at_call 33;(with_reducible refine (impl_hasInt.calls k1 _ _ x5_1 (rd ((rd_T47 l0_0 a1).f1) x21_1) false _ ?side1 ?side2 A18.out).mono ?_);(case side1=>repeat (first | exact (Kd.R_reads' HO_5.out).2.2 | (with_reducible refine Kd.C_alloc ?_ _) | (with_reducible refine Kd.C_drewN ?_ _) | (with_reducible refine Kd.C_drew ?_)));(case side2=>exact (Kd.R_reads' HO_5.out).2.1);rintro e w' ⟨rfl,⟨nd,rfl⟩⟩) | ((with_reducible refine gate_builtin (b:=.append) (xs:=#[.tmp 37,.tmp 39]) rfl ?_);at_builtin;refine Kd.R_append (Kd.int .i64) (w0:=w) w.heap.size rfl (.tmp 37) (.tmp 39) 27 3 (.int .i64 0) 8 rfl Try.underlying27 info3 rfl (by decide) (by omega) (.slice Ao24 x5_1.length co24) x5_1 (rd ((rd_T47 l0_0 a1).f1) x21_1) [.int .i64 (rd ((rd_T47 l0_0 a1).f1) x21_1)] (fun _=>True) (fun _=>False) rfl rfl ?aP (fun _ hk=>hk.elim) ?aF ?aO ?aB ?aS ?aL ?_;(case aP=>exact rfl);(case aB=>exact (hs1 HB GE257));(case aF=>exact (fun _ _=>trivial));(case aO=>exact (rs HO_5));(case aS=>exact (below_size (hs1 HB GE257)));(case aL=>have:=LMc22.out;omega);intro v267 w25 ho hb hg hat;rw [← Ny266.out] at ho;have n0_:=Aside0.mk (blk_grown (g:=gb257) (o:=.cells #[.slice (some ad262) l0_0.length c0_0] 26 (0,0)) (bs BK257) hg (Kd.R_ne HO_5.out BK257.out (by decide)));have n1_:=Aside0.mk (hb);have n2_:=Aside0.mk (ho);clear BK257;clear HB;clear HO_5;have BK257:=n0_;have HB:=n1_;have HO268:=n2_;clear n0_ n1_ n2_;clear ho hb hg hat));go_roundg k1;case measure=>have:=HK1.out;omega
           case rel=>exact ⟨(y266),(wrap64 (x21_1 + 1)),(by first | rfl | (simp;done) | (simp [*];done)),H',⟨by have:=HK1.out;omega⟩,⟨rs HO268⟩,⟨bs BK257⟩,⟨hs1 HB GE257⟩⟩
          rw [if_neg c22] at H;exact absurd H (by simp)
         replace c17:=Bool.eq_false_iff.mpr c17;subst c17;have H1 : (impl_knotsOf.l0 k1 x5_1 ((rd_T47 l0_0 a1).f1) (((rd_T47 l0_0 a1).f1).length : Int) (wrap64 (x21_1 + 1)) l0_0) = some r:=by rw [if_neg (show ¬ (false = true) by decide)] at H;exact H
         clear H;have H:=H1;clear H1;have H':=Aside0.mk H;clear H;have p263 : 0 ≤ (x21_1 : Int):=of_decide_eq_true (by first | (with_reducible assumption) | assumption);have q263 : x21_1 < (((rd_T47 l0_0 a1).f1).length : Int):=of_decide_eq_true (by first | (with_reducible assumption) | assumption);obtain ⟨ad263,e263,hx263_0⟩:=Kd.at_int HR262_1.out x21_1 p263 q263;cases e263;replace hx263_0:=(HB.out.cell (World.block_lt_of_cell? w _ hx263_0)).trans hx263_0;replace p263:=eq_true p263;replace q263:=eq_true q263;have hcz26_0 : wr.cell? ⟨gb257,0,none⟩ = some (.slice (some ad262) l0_0.length c0_0):=(blk_cell BK257.out 0).trans rfl;have hfz26_0:=blk_frozen BK257.out 0;go_wp2_with (first | ((with_reducible refine gate_callee (f:=25) rfl ?_);refine goesL_ (some 30) rfl rfl Try.func25 (by kernel_rfl) rfl #[.int .i64 (rd ((rd_T47 l0_0 a1).f1) x21_1),.int .i64 0,.int .i64 (wrap64 ((l0_0.length : Int) - 1))] rfl (by (try simp only [List.map_toArray,List.map_cons,List.map_nil]);first | done | rfl | (simp only [List.length_drop,List.length_take];rfl)) ?_;(with_reducible refine (impl_in.calls (rd ((rd_T47 l0_0 a1).f1) x21_1) 0 (wrap64 ((l0_0.length : Int) - 1)) false _ A16.out).mono ?_);rintro e w' ⟨rfl,⟨nd,rfl⟩⟩;refine ⟨_,rfl,?_⟩));go_roundg k1;case measure=>have:=HK1.out;omega
         case rel=>exact ⟨(x5_1),(wrap64 (x21_1 + 1)),(by first | rfl | (simp;done) | (simp [*];done)),H',⟨by have:=HK1.out;omega⟩,⟨rs HO_5⟩,⟨bs BK257⟩,⟨hs1 HB GE257⟩⟩
        rw [if_neg c15] at H;exact absurd H (by simp)
       rw [if_neg c14] at H;exact absurd H (by simp)
      rw [if_neg c13] at H;have c13b0 : decide (x21_1 < (((rd_T47 l0_0 a1).f1).length : Int)) = false:=decide_eq_false c13;clear c13;obtain rfl:=Option.some.inj H
      go_wp2
      go_ret
      exact ⟨_,by first | rfl | (simp [errW_none,errW_some] <;> rfl) | (simp [*,errW_none,errW_some] <;> rfl),rs HO_5,hs1 HB GE257⟩
   rw [if_neg c6] at H;exact absurd H (by simp)
  rw [if_neg c5] at H;exact absurd H (by simp)
 replace c4:=Bool.eq_false_iff.mpr c4;subst c4;have H1 : (some ([] : List Int)) = some r:=by rw [if_neg (show ¬ (false = true) by decide)] at H;exact H
 clear H;have H:=H1;clear H1;obtain rfl:=Option.some.inj H
 go_enter Try.func32,Try.ntmps32
 go_wp2_with (first | ((with_reducible refine gate_dst (N:=2) rfl ?_);refine box_event ?hg (N:=2) ?hd (cs:=#[.slice A0_0 l0_0.length c0_0]) (t:=26) ?hr ?_;(case hd=>rfl);(case hg=>rfl);(case hr=>first | (go_simp;done) | (go_simp;rfl));intro gb257 hg w27 hbox hb;have n0_:=Aside0.mk (below_step (hs HB) hb);have n1_:=Aside0.mk (hbox);have n2_:=Aside0.mk ((by rw [hg];exact (below_size (hs HB)) : w.heap.size ≤ gb257));have n3_:=Aside0.mk ((by rw [hg];exact (below_size (hs HB)) : w.heap.size ≤ gb257));clear HB;have HB:=n0_;have BK257:=n1_;have GW257:=n2_;have GE257:=n3_;clear n0_ n1_ n2_ n3_;clear hb hbox hg;have hcz28_0 : w27.cell? ⟨gb257,0,none⟩ = some (.slice A0_0 l0_0.length c0_0):=(blk_cell BK257.out 0).trans rfl;have hfz28_0:=blk_frozen BK257.out 0) | ((with_reducible refine gate_callee (f:=24) rfl ?_);refine goesL_ (some 10) rfl rfl Try.func24 (by kernel_rfl) rfl #[.agg #[.slice A0_0 l0_0.length c0_0],.int .i64 a1] rfl (by (try simp only [List.map_toArray,List.map_cons,List.map_nil]);first | done | rfl | (simp only [List.length_drop,List.length_take];rfl)) ?_;(with_reducible refine (impl_isRoot.calls _ _ l0_0 a1 false _ ?side1 ?side2 A3.out).mono ?_);(case side1=>repeat (first | exact (Kd.C_below HR0_0.out HB.out) | (with_reducible refine Kd.C_alloc ?_ _) | (with_reducible refine Kd.C_drewN ?_ _) | (with_reducible refine Kd.C_drew ?_)));(case side2=>exact HC0_0.out);rintro e w29 ⟨rfl,hb⟩;refine ⟨_,rfl,?_⟩;have n0_:=Aside0.mk (blk_below (g:=gb257) (o:=.cells #[.slice A0_0 l0_0.length c0_0] 26 (0,0)) (bs BK257) hb);have n1_:=Aside0.mk (below_step (hs1 HB GE257) hb);clear BK257;clear HB;have BK257:=n0_;have HB:=n1_;clear n0_ n1_;(try clear hb);(try clear hb2);(try clear hk);(try clear hi)))
 go_ret
 exact ⟨_,by first | rfl | (simp [errW_none,errW_some] <;> rfl) | (simp [*,errW_none,errW_some] <;> rfl),by first | exact Kd.R_nil _ _ _ _ _ | exact Kd.N_nil _ _ _ _ _ | exact Kd.V_nil _ _ _ _ _ | exact Kd.Q_nil _ _ _ _ _ | exact Kd.S_nil _ _ _ _ _,hs1 HB GE257⟩
end Go.Proofs.Ytjpjikhokpfhmaa.PT

namespace Go.Proofs.Ytjpjikhokpfhmaa.PT
open Go.RowKit Go.Proofs.YtjpjikhokpfhmaaW.PrintWords Go.Proofs.YtjpjikhokpfhmaaW.PrintLast Go.Proofs.YtjpjikhokpfhmaaW.PrintMore
attribute [local go_sem] max2_int min2_int max_two min_two max_three min_three max_four min_four   -- for this text's walks alone
set_option linter.unusedVariables false
set_option linter.unusedSimpArgs false
def impl_SharedBy.l0 : Nat → Int → List Int → List Int → Int → Int → Option (Int)
 | 0,_,_,_,_,_=>none
 | k + 1,x7,x8,x16,x17,x18=>if x18 < x17 then (if 0 ≤ x18 then (if x18 < (x16.length : Int) then ((impl_hasInt.f k x8 (rd x16 x18)).bind fun t277=>(if t277 = true then (impl_SharedBy.l0 k (wrap64 (x7 + 1)) x8 x16 x17 (wrap64 (x18 + 1))) else (impl_SharedBy.l0 k x7 x8 x16 x17 (wrap64 (x18 + 1))))) else (none)) else (none)) else (some x7)
def impl_SharedBy.f (k : Nat) (l0_0 : List (S47)) (a1 : Int) (a2 : Int) : Option (Int):=(impl_knotsOf.f k l0_0 a2).bind fun t270=>((impl_knotsOf.f k l0_0 a1).bind fun t273=>(impl_SharedBy.l0 k 0 t270 t273 (t273.length : Int) 0))
theorem impl_SharedBy.mono_l : ∀ k,(∀ y0 y1 y2 y3 y4,LeO (impl_SharedBy.l0 k y0 y1 y2 y3 y4) (impl_SharedBy.l0 (k + 1) y0 y1 y2 y3 y4))
 | 0=>fun _ _ _ _ _ r h=>by simp [impl_SharedBy.l0] at h
 | k + 1=>by
  have ih0:=impl_SharedBy.mono_l k;intro y0 y1 y2 y3 y4;unfold impl_SharedBy.l0
  repeat' first
  | (with_reducible exact ih0 _ _ _ _ _)
  | (with_reducible exact impl_hasInt.mono _ _ _)
  | (with_reducible exact impl_knotsOf.mono _ _ _)
  | (with_reducible exact LeO.refl _)
  | (with_reducible exact LeO.none _)
  | (with_reducible refine LeO.ite ?_ ?_)
  | (with_reducible refine LeO.bind ?_ (fun _=>?_))
  | exact ih0 _ _ _ _ _
  | exact impl_hasInt.mono _ _ _
  | exact impl_knotsOf.mono _ _ _
  | exact LeO.none _
  | refine LeO.ite ?_ ?_
  | refine LeO.bind ?_ (fun _=>?_)
theorem impl_SharedBy.mono : ∀ a0 a1 a2 k,LeO (impl_SharedBy.f k a0 a1 a2) (impl_SharedBy.f (k + 1) a0 a1 a2):=by
 intro a0 a1 a2 k;have ih0:=impl_SharedBy.mono_l k;unfold impl_SharedBy.f
 repeat' first
   | (with_reducible exact ih0 _ _ _ _ _)
   | (with_reducible exact impl_hasInt.mono _ _ _)
   | (with_reducible exact impl_knotsOf.mono _ _ _)
   | (with_reducible exact LeO.refl _)
   | (with_reducible exact LeO.none _)
   | (with_reducible refine LeO.ite ?_ ?_)
   | (with_reducible refine LeO.bind ?_ (fun _=>?_))
   | exact ih0 _ _ _ _ _
   | exact impl_hasInt.mono _ _ _
   | exact impl_knotsOf.mono _ _ _
   | exact LeO.none _
   | refine LeO.ite ?_ ?_
   | refine LeO.bind ?_ (fun _=>?_)
set_option maxHeartbeats 8000000 in
set_option maxRecDepth 100000 in
theorem impl_SharedBy.calls (k : Nat) (A0_0 : Option Addr) (c0_0 : Nat) (l0_0 : List (S47)) (a1 : Int) (a2 : Int) (r : Int) (w : World) (hr0_0 : Kd.C k47 w A0_0 l0_0.length l0_0) (hc0_0 : l0_0.length ≤ c0_0) (h : impl_SharedBy.f k l0_0 a1 a2 = some r) :
  Calls Try.prog 16 #[.agg #[.slice A0_0 l0_0.length c0_0],.int .i64 a1,.int .i64 a2] w fun e w'=>e = .returned (.int .i64 r) ∧ Below w.heap.size w w':=by
 have hu26:=Try.underlying26;have HR0_0:=Aside0.mk hr0_0;have HC0_0:=Aside0.mk hc0_0;clear hr0_0 hc0_0;have HB:=Aside0.mk (Below.refl w.heap.size w);have H : ((impl_knotsOf.f k l0_0 a2).bind fun t270=>((impl_knotsOf.f k l0_0 a1).bind fun t273=>(impl_SharedBy.l0 k 0 t270 t273 (t273.length : Int) 0))) = some r:=h;clear h;replace H:=Option.bind_eq_some_iff.mp H;obtain ⟨t270,A40,H⟩:=H;replace H : ((impl_knotsOf.f k l0_0 a1).bind fun t273=>(impl_SharedBy.l0 k 0 t270 t273 (t273.length : Int) 0)) = some r:=H;have A4:=Aside0.mk A40;clear A40;replace H:=Option.bind_eq_some_iff.mp H;obtain ⟨t273,A50,H⟩:=H;replace H : (impl_SharedBy.l0 k 0 t270 t273 (t273.length : Int) 0) = some r:=H;have A5:=Aside0.mk A50;clear A50;have H':=Aside0.mk H;clear H
 go_enter Try.func16,Try.ntmps16
 go_wp2_with (first | ((with_reducible refine gate_dst (N:=3) rfl ?_);refine box_event ?hg (N:=3) ?hd (cs:=#[.slice A0_0 l0_0.length c0_0]) (t:=26) ?hr ?_;(case hd=>rfl);(case hg=>rfl);(case hr=>first | (go_simp;done) | (go_simp;rfl));intro gb269 hg w6 hbox hb;have n0_:=Aside0.mk (below_step (hs HB) hb);have n1_:=Aside0.mk (hbox);have n2_:=Aside0.mk ((by rw [hg];exact (below_size (hs HB)) : w.heap.size ≤ gb269));have n3_:=Aside0.mk ((by rw [hg];exact (below_size (hs HB)) : w.heap.size ≤ gb269));clear HB;have HB:=n0_;have BK269:=n1_;have GW269:=n2_;have GE269:=n3_;clear n0_ n1_ n2_ n3_;clear hb hbox hg;have hcz7_0 : w6.cell? ⟨gb269,0,none⟩ = some (.slice A0_0 l0_0.length c0_0):=(blk_cell BK269.out 0).trans rfl;have hfz7_0:=blk_frozen BK269.out 0) | ((with_reducible refine gate_callee (f:=32) rfl ?_);refine goesL_ (some 13) rfl rfl Try.func32 (by kernel_rfl) rfl #[.agg #[.slice A0_0 l0_0.length c0_0],.int .i64 a2] rfl (by (try simp only [List.map_toArray,List.map_cons,List.map_nil]);first | done | rfl | (simp only [List.length_drop,List.length_take];rfl)) ?_;(with_reducible refine (impl_knotsOf.calls k _ _ l0_0 a2 t270 _ ?side1 ?side2 A4.out).mono ?_);(case side1=>repeat (first | exact (Kd.C_below HR0_0.out HB.out) | (with_reducible refine Kd.C_alloc ?_ _) | (with_reducible refine Kd.C_drewN ?_ _) | (with_reducible refine Kd.C_drew ?_)));(case side2=>exact HC0_0.out);rintro e w8 ⟨v271,rfl,ho0,hb⟩;refine ⟨_,rfl,?_⟩;have n0_:=Aside0.mk (Kd.R_lower ho0 (below_size (hs1 HB GE269)));have n1_:=Aside0.mk (blk_below (g:=gb269) (o:=.cells #[.slice A0_0 l0_0.length c0_0] 26 (0,0)) (bs BK269) hb);have n2_:=Aside0.mk (below_step (hs1 HB GE269) hb);clear BK269;clear HB;have HO272:=n0_;have BK269:=n1_;have HB:=n2_;clear n0_ n1_ n2_;(try clear hb);(try clear hb2);(try clear hk);(try clear hi);(try clear ho0);have hcz9_0 : w8.cell? ⟨gb269,0,none⟩ = some (.slice A0_0 l0_0.length c0_0):=(blk_cell BK269.out 0).trans rfl;have hfz9_0:=blk_frozen BK269.out 0) | ((with_reducible refine gate_callee (f:=32) rfl ?_);refine goesL_ (some 16) rfl rfl Try.func32 (by kernel_rfl) rfl #[.agg #[.slice A0_0 l0_0.length c0_0],.int .i64 a1] rfl (by (try simp only [List.map_toArray,List.map_cons,List.map_nil]);first | done | rfl | (simp only [List.length_drop,List.length_take];rfl)) ?_;(with_reducible refine (impl_knotsOf.calls k _ _ l0_0 a1 t273 _ ?side1 ?side2 A5.out).mono ?_);(case side1=>repeat (first | exact (Kd.C_below HR0_0.out HB.out) | (with_reducible refine Kd.C_alloc ?_ _) | (with_reducible refine Kd.C_drewN ?_ _) | (with_reducible refine Kd.C_drew ?_)));(case side2=>exact HC0_0.out);rintro e w10 ⟨v274,rfl,ho0,hb⟩;refine ⟨_,rfl,?_⟩;have n0_:=Aside0.mk (Kd.R_elder' (rs HO272) (Kd.R_base ho0) hb);have n1_:=Aside0.mk (Kd.R_lower (Kd.R_new' ho0 (Kd.R_lt (rs HO272))) (below_size (hs1 HB GE269)));have n2_:=Aside0.mk (blk_below (g:=gb269) (o:=.cells #[.slice A0_0 l0_0.length c0_0] 26 (0,0)) (bs BK269) hb);have n3_:=Aside0.mk (below_step (hs1 HB GE269) hb);clear HO272;clear BK269;clear HB;have HO272:=n0_;have HO275:=n1_;have BK269:=n2_;have HB:=n3_;clear n0_ n1_ n2_ n3_;(try clear hb);(try clear hb2);(try clear hk);(try clear hi);(try clear ho0);obtain ⟨Ao11,co11,eo11⟩:=Kd.R_slice HO275.out;subst eo11));go_loopg [7,18] k (fun kq v7 v18 w'=>∃ (x7_1 : Int) (x18_1 : Int),v7 = .int .i64 x7_1 ∧ v18 = .int .i64 x18_1 ∧ Aside0 (impl_SharedBy.l0 kq x7_1 t270 t273 (t273.length : Int) x18_1 = some r) ∧ Aside0 (kq ≤ k) ∧ Aside0 (Kd.R (Kd.int .i64) 3 w' w.heap.size (fun k_=>some k_ ≠ ((.slice Ao11 t273.length co11) : Value).ownBlock) v271 t270) ∧ Aside0 (Kd.R (Kd.int .i64) 3 w' w.heap.size (fun k_=>some k_ ≠ (v271 : Value).ownBlock) (.slice Ao11 t273.length co11) t273) ∧ Aside0 (w'.heap[gb269]? = some (.cells #[(.slice A0_0 l0_0.length c0_0)] 26 (0,0))) ∧ Aside0 (Below w.heap.size w w'));case atStart=>exact ⟨(0),(0),(by first | rfl | (simp;done) | (simp [*];done)),(by first | rfl | (simp;done) | (simp [*];done)),H',⟨Nat.le_refl _⟩,⟨by (with_reducible repeat (first | apply Kd.R_alloc | apply Kd.R_drewN | apply Kd.R_drew));exact Kd.R_mono HO272.out (fun _ hk=>hk.2)⟩,⟨by (with_reducible repeat (first | apply Kd.R_alloc | apply Kd.R_drewN | apply Kd.R_drew));exact Kd.R_mono HO275.out (fun _ hk=>hk.2)⟩,⟨bs BK269⟩,⟨hs1 HB GE269⟩⟩
 case round =>
  clear H'
  try clear c1
  try clear p2
  try clear c3
  try clear hcz7_0
  try clear hcz9_0
  try clear hfz7_0
  try clear hfz9_0
  obtain ⟨x7_1,x18_1,rfl,rfl,HA,HK1,HO_8,HO_16,BK269,HB⟩:=hrel;cases gk with
  | zero=>exact absurd HA.out (by simp [impl_SharedBy.l0])
  | succ k1 =>
   have H:=HA.out;clear HA;simp only [impl_SharedBy.l0] at H
   by_cases c12 : x18_1 < (t273.length : Int)
   ·rw [if_pos c12] at H;have c12b0 : decide (x18_1 < (t273.length : Int)) = true:=decide_eq_true c12;clear c12
    by_cases c13 : 0 ≤ x18_1
    ·rw [if_pos c13] at H;have c13b0 : decide (0 ≤ x18_1) = true:=decide_eq_true c13;clear c13
     by_cases c14 : x18_1 < (t273.length : Int)
     ·rw [if_pos c14] at H;have c14b0 : decide (x18_1 < (t273.length : Int)) = true:=decide_eq_true c14;clear c14;replace H:=Option.bind_eq_some_iff.mp H;obtain ⟨t277,A150,H⟩:=H;replace H : (if t277 = true then (impl_SharedBy.l0 k1 (wrap64 (x7_1 + 1)) t270 t273 (t273.length : Int) (wrap64 (x18_1 + 1))) else (impl_SharedBy.l0 k1 x7_1 t270 t273 (t273.length : Int) (wrap64 (x18_1 + 1)))) = some r:=H;have A15:=Aside0.mk A150;clear A150
      by_cases c16 : t277 = true
      ·subst c16;have H1 : (impl_SharedBy.l0 k1 (wrap64 (x7_1 + 1)) t270 t273 (t273.length : Int) (wrap64 (x18_1 + 1))) = some r:=by rw [if_pos rfl] at H;exact H
       clear H;have H:=H1;clear H1;have H':=Aside0.mk H;clear H;have p276 : 0 ≤ (x18_1 : Int):=of_decide_eq_true (by first | (with_reducible assumption) | assumption);have q276 : x18_1 < (t273.length : Int):=of_decide_eq_true (by first | (with_reducible assumption) | assumption);obtain ⟨ad276,e276,hx276_0⟩:=Kd.at_int (Kd.R_reads' HO_16.out).2.2 x18_1 p276 q276;cases e276;replace p276:=eq_true p276;replace q276:=eq_true q276;obtain ⟨Ao17,co17,eo17⟩:=Kd.R_slice HO_8.out;subst eo17;go_wp2_with (first | ((with_reducible refine gate_callee (f:=33) rfl ?_);refine goesL_ (some 24) rfl rfl Try.func33 (by kernel_rfl) rfl #[.slice Ao17 t270.length co17,.int .i64 (rd t273 x18_1)] rfl (by (try simp only [List.map_toArray,List.map_cons,List.map_nil]);first | done | rfl | (simp only [List.length_drop,List.length_take];rfl)) ?_;(with_reducible refine (impl_hasInt.calls k1 _ _ t270 (rd t273 x18_1) true _ ?side1 ?side2 A15.out).mono ?_);(case side1=>repeat (first | exact (Kd.R_reads' HO_8.out).2.2 | (with_reducible refine Kd.C_alloc ?_ _) | (with_reducible refine Kd.C_drewN ?_ _) | (with_reducible refine Kd.C_drew ?_)));(case side2=>exact (Kd.R_reads' HO_8.out).2.1);rintro e w' ⟨rfl,⟨nd,rfl⟩⟩;refine ⟨_,rfl,?_⟩));go_roundg k1;case measure=>have:=HK1.out;omega
       case rel=>exact ⟨(wrap64 (x7_1 + 1)),(wrap64 (x18_1 + 1)),(by first | rfl | (simp;done) | (simp [*];done)),(by first | rfl | (simp;done) | (simp [*];done)),H',⟨by have:=HK1.out;omega⟩,⟨rs HO_8⟩,⟨rs HO_16⟩,⟨bs BK269⟩,⟨hs1 HB GE269⟩⟩
      replace c16:=Bool.eq_false_iff.mpr c16;subst c16;have H1 : (impl_SharedBy.l0 k1 x7_1 t270 t273 (t273.length : Int) (wrap64 (x18_1 + 1))) = some r:=by rw [if_neg (show ¬ (false = true) by decide)] at H;exact H
      clear H;have H:=H1;clear H1;have H':=Aside0.mk H;clear H;have p276 : 0 ≤ (x18_1 : Int):=of_decide_eq_true (by first | (with_reducible assumption) | assumption);have q276 : x18_1 < (t273.length : Int):=of_decide_eq_true (by first | (with_reducible assumption) | assumption);obtain ⟨ad276,e276,hx276_0⟩:=Kd.at_int (Kd.R_reads' HO_16.out).2.2 x18_1 p276 q276;cases e276;replace p276:=eq_true p276;replace q276:=eq_true q276;obtain ⟨Ao18,co18,eo18⟩:=Kd.R_slice HO_8.out;subst eo18;go_wp2_with (first | ((with_reducible refine gate_callee (f:=33) rfl ?_);refine goesL_ (some 24) rfl rfl Try.func33 (by kernel_rfl) rfl #[.slice Ao18 t270.length co18,.int .i64 (rd t273 x18_1)] rfl (by (try simp only [List.map_toArray,List.map_cons,List.map_nil]);first | done | rfl | (simp only [List.length_drop,List.length_take];rfl)) ?_;(with_reducible refine (impl_hasInt.calls k1 _ _ t270 (rd t273 x18_1) false _ ?side1 ?side2 A15.out).mono ?_);(case side1=>repeat (first | exact (Kd.R_reads' HO_8.out).2.2 | (with_reducible refine Kd.C_alloc ?_ _) | (with_reducible refine Kd.C_drewN ?_ _) | (with_reducible refine Kd.C_drew ?_)));(case side2=>exact (Kd.R_reads' HO_8.out).2.1);rintro e w' ⟨rfl,⟨nd,rfl⟩⟩;refine ⟨_,rfl,?_⟩));go_roundg k1;case measure=>have:=HK1.out;omega
      case rel=>exact ⟨(x7_1),(wrap64 (x18_1 + 1)),(by first | rfl | (simp;done) | (simp [*];done)),(by first | rfl | (simp;done) | (simp [*];done)),H',⟨by have:=HK1.out;omega⟩,⟨rs HO_8⟩,⟨rs HO_16⟩,⟨bs BK269⟩,⟨hs1 HB GE269⟩⟩
     rw [if_neg c14] at H;exact absurd H (by simp)
    rw [if_neg c13] at H;exact absurd H (by simp)
   rw [if_neg c12] at H;have c12b0 : decide (x18_1 < (t273.length : Int)) = false:=decide_eq_false c12;clear c12;obtain rfl:=Option.some.inj H
   go_wp2
   go_ret
   exact ⟨by first | rfl | (simp [errW_none,errW_some] <;> rfl) | (simp [*,errW_none,errW_some] <;> rfl),hs1 HB GE269⟩
end Go.Proofs.Ytjpjikhokpfhmaa.PT

namespace Go.Proofs.Ytjpjikhokpfhmaa.PT
open Go.RowKit Go.Proofs.YtjpjikhokpfhmaaW.PrintWords Go.Proofs.YtjpjikhokpfhmaaW.PrintLast Go.Proofs.YtjpjikhokpfhmaaW.PrintMore
attribute [local go_sem] max2_int min2_int max_two min_two max_three min_three max_four min_four   -- for this text's walks alone
set_option linter.unusedVariables false
set_option linter.unusedSimpArgs false
def spec_l11Has.l0 : Nat → Int → List Bool → Int → List (S47) → Option (List Bool)
 | 0,_,_,_,_=>none
 | k + 1,x1,x5,x6,x279000=>if x6 < 4 then (if 0 ≤ x1 then (if x1 < (x279000.length : Int) then (if 0 ≤ x6 then (if x6 < (((rd_T47 x279000 x1).f1).length : Int) then (if (rd ((rd_T47 x279000 x1).f1) x6) ≥ 0 then (if 0 ≤ (rd ((rd_T47 x279000 x1).f1) x6) then (if (rd ((rd_T47 x279000 x1).f1) x6) < (x5.length : Int) then (spec_l11Has.l0 k x1 (x5.set ((rd ((rd_T47 x279000 x1).f1) x6) : Int).toNat true) (wrap64 (x6 + 1)) x279000) else (none)) else (none)) else (spec_l11Has.l0 k x1 x5 (wrap64 (x6 + 1)) x279000)) else (none)) else (none)) else (none)) else (none)) else (some x5)
def spec_l11Has.f (k : Nat) (l0_0 : List (S47)) (a1 : Int) : Option (List Bool):=if 0 ≤ (l0_0.length : Int) then (if ((l0_0.length : Int) : Int).toNat ≤ 281474976710656 then ((some (List.replicate ((l0_0.length : Int) : Int).toNat false : List Bool)).bind fun y279=>(if a1 < 0 then (some y279) else (if 0 ≤ a1 then (if a1 < (y279.length : Int) then (spec_l11Has.l0 k a1 (y279.set (a1 : Int).toNat true) 0 l0_0) else (none)) else (none)))) else (none)) else (none)
theorem spec_l11Has.mono_l : ∀ k,(∀ y0 y1 y2 y3,LeO (spec_l11Has.l0 k y0 y1 y2 y3) (spec_l11Has.l0 (k + 1) y0 y1 y2 y3))
 | 0=>fun _ _ _ _ r h=>by simp [spec_l11Has.l0] at h
 | k + 1=>by
  have ih0:=spec_l11Has.mono_l k;intro y0 y1 y2 y3;unfold spec_l11Has.l0
  repeat' first
  | (with_reducible exact ih0 _ _ _ _)
  | (with_reducible exact LeO.refl _)
  | (with_reducible exact LeO.none _)
  | (with_reducible refine LeO.ite ?_ ?_)
  | (with_reducible refine LeO.bind ?_ (fun _=>?_))
  | exact ih0 _ _ _ _
  | exact LeO.none _
  | refine LeO.ite ?_ ?_
  | refine LeO.bind ?_ (fun _=>?_)
theorem spec_l11Has.mono : ∀ a0 a1 k,LeO (spec_l11Has.f k a0 a1) (spec_l11Has.f (k + 1) a0 a1):=by
 intro a0 a1 k;have ih0:=spec_l11Has.mono_l k;unfold spec_l11Has.f
 repeat' first
   | (with_reducible exact ih0 _ _ _ _)
   | (with_reducible exact LeO.refl _)
   | (with_reducible exact LeO.none _)
   | (with_reducible refine LeO.ite ?_ ?_)
   | (with_reducible refine LeO.bind ?_ (fun _=>?_))
   | exact ih0 _ _ _ _
   | exact LeO.none _
   | refine LeO.ite ?_ ?_
   | refine LeO.bind ?_ (fun _=>?_)
set_option maxHeartbeats 8000000 in
set_option maxRecDepth 100000 in
theorem spec_l11Has.calls (k : Nat) (A0_0 : Option Addr) (c0_0 : Nat) (l0_0 : List (S47)) (a1 : Int) (r : List Bool) (w : World) (hr0_0 : Kd.C k47 w A0_0 l0_0.length l0_0) (hc0_0 : l0_0.length ≤ c0_0) (h : spec_l11Has.f k l0_0 a1 = some r) :
  Calls Try.prog 34 #[.agg #[.slice A0_0 l0_0.length c0_0],.int .i64 a1] w fun e w'=>∃ v0_ : Value,e = .returned (v0_) ∧ Kd.R Kd.bool 4 w' w.heap.size (fun _=>True) v0_ r ∧ Below w.heap.size w w':=by
 have hu26:=Try.underlying26;have HR0_0:=Aside0.mk hr0_0;have HC0_0:=Aside0.mk hc0_0;clear hr0_0 hc0_0;have HB:=Aside0.mk (Below.refl w.heap.size w);have H : (if 0 ≤ (l0_0.length : Int) then (if ((l0_0.length : Int) : Int).toNat ≤ 281474976710656 then ((some (List.replicate ((l0_0.length : Int) : Int).toNat false : List Bool)).bind fun y279=>(if a1 < 0 then (some y279) else (if 0 ≤ a1 then (if a1 < (y279.length : Int) then (spec_l11Has.l0 k a1 (y279.set (a1 : Int).toNat true) 0 l0_0) else (none)) else (none)))) else (none)) else (none)) = some r:=h;clear h
 by_cases c3 : 0 ≤ (l0_0.length : Int)
 ·rw [if_pos c3] at H;have c3b0:=eq_true c3;have c3b1 : decide (0 ≤ (l0_0.length : Int)) = true:=decide_eq_true c3;clear c3
  by_cases c4 : ((l0_0.length : Int) : Int).toNat ≤ 281474976710656
  ·rw [if_pos c4] at H;have c4b0:=eq_true c4;have c4b1 : decide (((l0_0.length : Int) : Int).toNat ≤ 281474976710656) = true:=decide_eq_true c4;clear c4;obtain ⟨y279,hy279⟩ : ∃ y_ : List Bool,y_ = (List.replicate ((l0_0.length : Int) : Int).toNat false):=⟨_,rfl⟩;replace H : (if a1 < 0 then (some y279) else (if 0 ≤ a1 then (if a1 < (y279.length : Int) then (spec_l11Has.l0 k a1 (y279.set (a1 : Int).toNat true) 0 l0_0) else (none)) else (none))) = some r:=by first | (rw [hy279];with_reducible exact H) | (have H2_:=(Option.bind_some _ _).symm.trans H;rw [hy279];with_reducible exact H2_) | (have H2_:=(Option.bind_some _ _).symm.trans H;with_reducible exact H2_) | with_reducible exact H | (rw [hy279];exact H) | exact H
   have Ny279:=Aside0.mk hy279;clear hy279
   by_cases c5 : a1 < 0
   ·rw [if_pos c5] at H;have c5b0 : decide (a1 < 0) = true:=decide_eq_true c5;clear c5;obtain rfl:=Option.some.inj H
    go_enter Try.func34,Try.ntmps34
    go_wp2_with (first | ((with_reducible refine gate_dst (N:=2) rfl ?_);refine box_event ?hg (N:=2) ?hd (cs:=#[.slice A0_0 l0_0.length c0_0]) (t:=26) ?hr ?_;(case hd=>rfl);(case hg=>rfl);(case hr=>first | (go_simp;done) | (go_simp;rfl));intro gb278 hg w6 hbox hb;have n0_:=Aside0.mk (below_step (hs HB) hb);have n1_:=Aside0.mk (hbox);have n2_:=Aside0.mk ((by rw [hg];exact (below_size (hs HB)) : w.heap.size ≤ gb278));have n3_:=Aside0.mk ((by rw [hg];exact (below_size (hs HB)) : w.heap.size ≤ gb278));clear HB;have HB:=n0_;have BK278:=n1_;have GW278:=n2_;have GE278:=n3_;clear n0_ n1_ n2_ n3_;clear hb hbox hg;have hcz7_0 : w6.cell? ⟨gb278,0,none⟩ = some (.slice A0_0 l0_0.length c0_0):=(blk_cell BK278.out 0).trans rfl;have hfz7_0:=blk_frozen BK278.out 0) | ((with_reducible refine gate_dst (N:=10) rfl ?_);refine Kd.R_make Kd.bool _ 4 rfl (N:=10) rfl 50 _ _ rfl (l0_0.length : Int) rfl rfl Try.underlying50 (.bool false) 1 info4 rfl (by decide) (by omega) false (ok:=fun _=>True) (okp:=fun _=>True) rfl (fun _ hk=>hk) trivial (of_decide_eq_true (by first | (with_reducible assumption) | assumption)) (Nat.le_trans (Nat.mul_le_mul_right _ (of_decide_eq_true (by first | (with_reducible assumption) | assumption) : (l0_0.length : Int).toNat ≤ 281474976710656)) (by omega)) (Below.refl _ _) (Nat.le_refl _) ?_;intro v280 w8 ho9 hb hg_ hnew_;clear hg_ hnew_;(first | rw [← Ny279.out] at ho9 | (simp only [Int.reduceToNat] at ho9;rw [← Ny279.out] at ho9));have n0_:=Aside0.mk (Kd.R_lower ho9 (below_size (hs1 HB GE278)));have n1_:=Aside0.mk (blk_below (g:=gb278) (o:=.cells #[.slice A0_0 l0_0.length c0_0] 26 (0,0)) (bs BK278) hb);have n2_:=Aside0.mk (below_step (hs1 HB GE278) hb);clear BK278;clear HB;have HO281:=n0_;have BK278:=n1_;have HB:=n2_;clear n0_ n1_ n2_;clear hb ho9))
    go_ret
    exact ⟨_,by first | rfl | (simp [errW_none,errW_some] <;> rfl) | (simp [*,errW_none,errW_some] <;> rfl),rs HO281,hs1 HB GE278⟩
   rw [if_neg c5] at H;have c5b0 : decide (a1 < 0) = false:=decide_eq_false c5;clear c5
   by_cases c10 : 0 ≤ a1
   ·rw [if_pos c10] at H;have c10b0 : decide (0 ≤ a1) = true:=decide_eq_true c10;clear c10
    by_cases c11 : a1 < (y279.length : Int)
    ·rw [if_pos c11] at H;have c11b0 : decide (a1 < (y279.length : Int)) = true:=decide_eq_true c11;clear c11;obtain ⟨y282,hy282⟩ : ∃ y_ : List Bool,y_ = (y279.set (a1 : Int).toNat true):=⟨_,rfl⟩;replace H : (spec_l11Has.l0 k a1 y282 0 l0_0) = some r:=by first | (rw [hy282];with_reducible exact H) | (have H2_:=(Option.bind_some _ _).symm.trans H;rw [hy282];with_reducible exact H2_) | (have H2_:=(Option.bind_some _ _).symm.trans H;with_reducible exact H2_) | with_reducible exact H | (rw [hy282];exact H) | exact H
     have Ny282:=Aside0.mk hy282;clear hy282;have H':=Aside0.mk H;clear H
     go_enter Try.func34,Try.ntmps34
     go_wp2_with (first | ((with_reducible refine gate_dst (N:=2) rfl ?_);refine box_event ?hg (N:=2) ?hd (cs:=#[.slice A0_0 l0_0.length c0_0]) (t:=26) ?hr ?_;(case hd=>rfl);(case hg=>rfl);(case hr=>first | (go_simp;done) | (go_simp;rfl));intro gb278 hg w13 hbox hb;have n0_:=Aside0.mk (below_step (hs HB) hb);have n1_:=Aside0.mk (hbox);have n2_:=Aside0.mk ((by rw [hg];exact (below_size (hs HB)) : w.heap.size ≤ gb278));have n3_:=Aside0.mk ((by rw [hg];exact (below_size (hs HB)) : w.heap.size ≤ gb278));clear HB;have HB:=n0_;have BK278:=n1_;have GW278:=n2_;have GE278:=n3_;clear n0_ n1_ n2_ n3_;clear hb hbox hg;have hcz14_0 : w13.cell? ⟨gb278,0,none⟩ = some (.slice A0_0 l0_0.length c0_0):=(blk_cell BK278.out 0).trans rfl;have hfz14_0:=blk_frozen BK278.out 0) | ((with_reducible refine gate_dst (N:=10) rfl ?_);refine Kd.R_make Kd.bool _ 4 rfl (N:=10) rfl 50 _ _ rfl (l0_0.length : Int) rfl rfl Try.underlying50 (.bool false) 1 info4 rfl (by decide) (by omega) false (ok:=fun _=>True) (okp:=fun _=>True) rfl (fun _ hk=>hk) trivial (of_decide_eq_true (by first | (with_reducible assumption) | assumption)) (Nat.le_trans (Nat.mul_le_mul_right _ (of_decide_eq_true (by first | (with_reducible assumption) | assumption) : (l0_0.length : Int).toNat ≤ 281474976710656)) (by omega)) (Below.refl _ _) (Nat.le_refl _) ?_;intro v280 w15 ho16 hb hg_ hnew_;clear hg_ hnew_;(first | rw [← Ny279.out] at ho16 | (simp only [Int.reduceToNat] at ho16;rw [← Ny279.out] at ho16));have n0_:=Aside0.mk (Kd.R_lower ho16 (below_size (hs1 HB GE278)));have n1_:=Aside0.mk (blk_below (g:=gb278) (o:=.cells #[.slice A0_0 l0_0.length c0_0] 26 (0,0)) (bs BK278) hb);have n2_:=Aside0.mk (below_step (hs1 HB GE278) hb);clear BK278;clear HB;have HO281:=n0_;have BK278:=n1_;have HB:=n2_;clear n0_ n1_ n2_;clear hb ho16;have p12 : 0 ≤ (a1 : Int):=of_decide_eq_true (by first | (with_reducible assumption) | assumption);have q12 : (a1 : Int) < ((y279.length : Int) : Int):=of_decide_eq_true (by first | (with_reducible assumption) | assumption);obtain ⟨go12,co12,eo12,gb12,gl12,cl12,HG12⟩:=Kd.R_form HO281.out (by omega);(first | cases eo12 | (injection eo12 with ea_ en_ ec_;(first | subst ea_ | (injection ea_ with ea_;subst ea_));subst ec_;clear en_));have GB12:=Aside0.mk gb12;have GG12:=Aside0.mk HG12;clear gb12 gl12 HG12;obtain ⟨hx12_0,hf12_0⟩:=Kd.R_celln false HO281.out (a1 : Int) p12 q12;replace p12:=eq_true p12;replace q12:=eq_true q12;obtain ⟨hy17_,hz17_⟩:=Kd.R_celln false HO281.out (a1 : Int) (of_decide_eq_true (by first | (with_reducible assumption) | assumption)) (of_decide_eq_true (by first | (with_reducible assumption) | assumption));have HP17:=Kd.R_putg HO281.out (a1 : Int) true) | ((with_reducible refine gate_store (t:=4) (p:=16) rfl ?_);refine store_event (t:=4) (p:=16) (v:=?vo_w18) (w1:=(w15.setCell ⟨go12,(a1 : Int).toNat,none⟩ (.bool true))) ?hg ?ho ?hn ?hr ?_;(case ho=>rfl);(case hg=>rfl);(case hn=>rfl);(case hr=>first | (go_simp;done) | (go_simp;rfl));intro w18 hw;have hg : w15.grownBy w18 (some go12):=(by rw [hw];exact HP17.2);have hp_ : Kd.R Kd.bool 4 w18 w.heap.size (fun _=>True) (.slice (some ⟨go12,0,none⟩) y279.length co12) y282:=(by rw [hw,Ny282.out];exact HP17.1);clear HP17;have n0_:=Aside0.mk (blk_grown (g:=gb278) (o:=.cells #[.slice A0_0 l0_0.length c0_0] 26 (0,0)) (bs BK278) hg (Kd.R_ne HO281.out BK278.out (by decide)));have n1_:=Aside0.mk (hp_);have n2_:=Aside0.mk ((by rw [hw];exact below_set (HB.out) GB12.out : Below w.heap.size w w18));clear BK278;clear HO281;clear HB;have BK278:=n0_;have HO281:=n1_;have HB:=n2_;clear n0_ n1_ n2_;clear hg hw hp_));go_loopg [6] k (fun kq v6 w'=>∃ (x5_1 : List Bool) (x6_1 : Int),v6 = .int .i64 x6_1 ∧ Aside0 (spec_l11Has.l0 kq a1 x5_1 x6_1 l0_0 = some r) ∧ Aside0 (kq ≤ k) ∧ Aside0 (Kd.R Kd.bool 4 w' w.heap.size (fun _=>True) (.slice (some ⟨go12,0,none⟩) y279.length co12) x5_1) ∧ Aside0 (w'.heap[gb278]? = some (.cells #[(.slice A0_0 l0_0.length c0_0)] 26 (0,0))) ∧ Aside0 (Below w.heap.size w w'));case atStart=>exact ⟨(y282),(0),(by first | rfl | (simp;done) | (simp [*];done)),H',⟨Nat.le_refl _⟩,⟨rs HO281⟩,⟨bs BK278⟩,⟨hs1 HB GE278⟩⟩
     case round =>
      clear H'
      try clear c1
      try clear p1
      try clear q1
      try clear hx1
      try clear p2
      try clear c3
      try clear c3b0
      try clear c3b1
      try clear c4
      try clear c4b0
      try clear c4b1
      try clear c5
      try clear c5b0
      try clear c10
      try clear c10b0
      try clear c11
      try clear c11b0
      try clear p12
      try clear q12
      try clear hx12
      try clear hf12
      try clear hcz14_0
      try clear hcz7_0
      try clear hfz14_0
      try clear hfz7_0
      try clear hx12_0
      try clear p12
      try clear q12
      obtain ⟨x5_1,x6_1,rfl,HA,HK1,HO_5,BK278,HB⟩:=hrel;have hl5_1:=(Kd.R_reads' HO_5.out).1;rw [hl5_1] at HO_5
      (try simp only [hl5_1])
      (try simp only [hl5_1] at BK278)
      cases gk with
      | zero=>exact absurd HA.out (by simp [spec_l11Has.l0])
      | succ k1 =>
       have H:=HA.out;clear HA;simp only [spec_l11Has.l0] at H
       by_cases c19 : x6_1 < 4
       ·rw [if_pos c19] at H;have c19b0 : decide (x6_1 < 4) = true:=decide_eq_true c19;clear c19
        by_cases c20 : 0 ≤ a1
        ·rw [if_pos c20] at H;have c20b0 : decide (0 ≤ a1) = true:=decide_eq_true c20;clear c20
         by_cases c21 : a1 < (l0_0.length : Int)
         ·rw [if_pos c21] at H;have c21b0 : decide (a1 < (l0_0.length : Int)) = true:=decide_eq_true c21;clear c21
          by_cases c22 : 0 ≤ x6_1
          ·rw [if_pos c22] at H;have c22b0 : decide (0 ≤ x6_1) = true:=decide_eq_true c22;clear c22
           by_cases c23 : x6_1 < (((rd_T47 l0_0 a1).f1).length : Int)
           ·rw [if_pos c23] at H;have c23b0 : decide (x6_1 < (((rd_T47 l0_0 a1).f1).length : Int)) = true:=decide_eq_true c23;clear c23
            by_cases c24 : (rd ((rd_T47 l0_0 a1).f1) x6_1) ≥ 0
            ·rw [if_pos c24] at H;have c24b0 : decide (0 ≤ (rd ((rd_T47 l0_0 a1).f1) x6_1)) = true:=decide_eq_true c24;clear c24
             by_cases c25 : 0 ≤ (rd ((rd_T47 l0_0 a1).f1) x6_1)
             ·rw [if_pos c25] at H;have c25b0 : decide (0 ≤ (rd ((rd_T47 l0_0 a1).f1) x6_1)) = true:=decide_eq_true c25;clear c25
              by_cases c26 : (rd ((rd_T47 l0_0 a1).f1) x6_1) < (x5_1.length : Int)
              ·rw [if_pos c26] at H;have c26b0 : decide ((rd ((rd_T47 l0_0 a1).f1) x6_1) < (x5_1.length : Int)) = true:=decide_eq_true c26;clear c26;obtain ⟨y287,hy287⟩ : ∃ y_ : List Bool,y_ = (x5_1.set ((rd ((rd_T47 l0_0 a1).f1) x6_1) : Int).toNat true):=⟨_,rfl⟩;replace H : (spec_l11Has.l0 k1 a1 y287 (wrap64 (x6_1 + 1)) l0_0) = some r:=by first | (rw [hy287];with_reducible exact H) | (have H2_:=(Option.bind_some _ _).symm.trans H;rw [hy287];with_reducible exact H2_) | (have H2_:=(Option.bind_some _ _).symm.trans H;with_reducible exact H2_) | with_reducible exact H | (rw [hy287];exact H) | exact H
               have Ny287:=Aside0.mk hy287;clear hy287;have H':=Aside0.mk H;clear H;have hcz28_0 : wr.cell? ⟨gb278,0,none⟩ = some (.slice A0_0 l0_0.length c0_0):=(blk_cell BK278.out 0).trans rfl;have hfz28_0:=blk_frozen BK278.out 0;have p283 : 0 ≤ (a1 : Int):=of_decide_eq_true (by first | (with_reducible assumption) | assumption);have q283 : a1 < (l0_0.length : Int):=of_decide_eq_true (by first | (with_reducible assumption) | assumption);obtain ⟨ad283,A283_1,c283_1,e283,hx283_0,hx283_1,hl283_1,hi283_1⟩:=at_T47 HR0_0.out a1 p283 q283;cases e283;replace hx283_0:=(HB.out.cell (World.block_lt_of_cell? w _ hx283_0)).trans hx283_0;replace hx283_1:=(HB.out.cell (World.block_lt_of_cell? w _ hx283_1)).trans hx283_1;have HR283_1:=Aside0.mk hi283_1;have HC283_1:=Aside0.mk hl283_1;clear hi283_1 hl283_1;replace p283:=eq_true p283;replace q283:=eq_true q283;have p284 : 0 ≤ (x6_1 : Int):=of_decide_eq_true (by first | (with_reducible assumption) | assumption);have q284 : x6_1 < (((rd_T47 l0_0 a1).f1).length : Int):=of_decide_eq_true (by first | (with_reducible assumption) | assumption);obtain ⟨ad284,e284,hx284_0⟩:=Kd.at_int HR283_1.out x6_1 p284 q284;cases e284;replace hx284_0:=(HB.out.cell (World.block_lt_of_cell? w _ hx284_0)).trans hx284_0;replace p284:=eq_true p284;replace q284:=eq_true q284;have p285 : 0 ≤ (a1 : Int):=of_decide_eq_true (by first | (with_reducible assumption) | assumption);have q285 : a1 < (l0_0.length : Int):=of_decide_eq_true (by first | (with_reducible assumption) | assumption);obtain ⟨ad285,A285_1,c285_1,e285,hx285_0,hx285_1,hl285_1,hi285_1⟩:=at_T47 HR0_0.out a1 p285 q285;obtain rfl : ad283 = ad285:=(by injection e285);replace hx285_0:=(HB.out.cell (World.block_lt_of_cell? w _ hx285_0)).trans hx285_0;replace hx285_1:=(HB.out.cell (World.block_lt_of_cell? w _ hx285_1)).trans hx285_1;have HR285_1:=Aside0.mk hi285_1;have HC285_1:=Aside0.mk hl285_1;clear hi285_1 hl285_1;replace p285:=eq_true p285;replace q285:=eq_true q285;have ea_:=Option.some.inj (hx283_1.symm.trans hx285_1);injection ea_ with ea_ en_ ec_;subst ea_;subst ec_;clear en_;have p286 : 0 ≤ (x6_1 : Int):=of_decide_eq_true (by first | (with_reducible assumption) | assumption);have q286 : x6_1 < (((rd_T47 l0_0 a1).f1).length : Int):=of_decide_eq_true (by first | (with_reducible assumption) | assumption);obtain ⟨ad286,e286,hx286_0⟩:=Kd.at_int HR285_1.out x6_1 p286 q286;cases e286;replace hx286_0:=(HB.out.cell (World.block_lt_of_cell? w _ hx286_0)).trans hx286_0;replace p286:=eq_true p286;replace q286:=eq_true q286;have p27 : 0 ≤ ((rd ((rd_T47 l0_0 a1).f1) x6_1) : Int):=of_decide_eq_true (by first | (with_reducible assumption) | assumption);have q27 : ((rd ((rd_T47 l0_0 a1).f1) x6_1) : Int) < ((x5_1.length : Int) : Int):=of_decide_eq_true (by first | (with_reducible assumption) | assumption);obtain ⟨hx27_0,hf27_0⟩:=Kd.R_celln false HO_5.out ((rd ((rd_T47 l0_0 a1).f1) x6_1) : Int) p27 q27;replace p27:=eq_true p27;replace q27:=eq_true q27;have HP29:=Kd.R_putg HO_5.out ((rd ((rd_T47 l0_0 a1).f1) x6_1) : Int) true;go_wp2_with (first | ((with_reducible refine gate_store (t:=4) (p:=41) rfl ?_);refine store_event (t:=4) (p:=41) (v:=?vo_w30) (w1:=(wr.setCell ⟨go12,((rd ((rd_T47 l0_0 a1).f1) x6_1) : Int).toNat,none⟩ (.bool true))) ?hg ?ho ?hn ?hr ?_;(case ho=>rfl);(case hg=>rfl);(case hn=>rfl);(case hr=>first | (go_simp;done) | (go_simp;rfl));intro w30 hw;have hg : wr.grownBy w30 (some go12):=(by rw [hw];exact HP29.2);have hp_ : Kd.R Kd.bool 4 w30 w.heap.size (fun _=>True) (.slice (some ⟨go12,0,none⟩) x5_1.length co12) y287:=(by rw [hw,Ny287.out];exact HP29.1);clear HP29;have n0_:=Aside0.mk (hp_);have n1_:=Aside0.mk (blk_grown (g:=gb278) (o:=.cells #[.slice (some ad283) l0_0.length c0_0] 26 (0,0)) (bs BK278) hg (Kd.R_ne HO_5.out BK278.out (by decide)));have n2_:=Aside0.mk ((by rw [hw];exact below_set (HB.out) GB12.out : Below w.heap.size w w30));clear HO_5;clear BK278;clear HB;have HO_5:=n0_;have BK278:=n1_;have HB:=n2_;clear n0_ n1_ n2_;clear hg hw hp_))
               (try simp only [← hl5_1])
               go_roundg k1;case measure=>have:=HK1.out;omega
               case rel=>exact ⟨(y287),(wrap64 (x6_1 + 1)),(by first | rfl | (simp;done) | (simp [*];done)),H',⟨by have:=HK1.out;omega⟩,⟨by (try simp only [hl5_1]);(with_reducible repeat (first | apply Kd.R_alloc | apply Kd.R_drewN | apply Kd.R_drew));exact HO_5.out⟩,⟨by (try simp only [hl5_1]);(with_reducible repeat (first | refine blk_drewN ?_ _ | refine blk_drew ?_ | refine blk_alloc ?_ _));exact BK278.out⟩,⟨hs1 HB GE278⟩⟩
              rw [if_neg c26] at H;exact absurd H (by simp)
             rw [if_neg c25] at H;exact absurd H (by simp)
            rw [if_neg c24] at H;have c24b0 : decide (0 ≤ (rd ((rd_T47 l0_0 a1).f1) x6_1)) = false:=decide_eq_false c24;clear c24;have H':=Aside0.mk H;clear H;have hcz31_0 : wr.cell? ⟨gb278,0,none⟩ = some (.slice A0_0 l0_0.length c0_0):=(blk_cell BK278.out 0).trans rfl;have hfz31_0:=blk_frozen BK278.out 0;have p283 : 0 ≤ (a1 : Int):=of_decide_eq_true (by first | (with_reducible assumption) | assumption);have q283 : a1 < (l0_0.length : Int):=of_decide_eq_true (by first | (with_reducible assumption) | assumption);obtain ⟨ad283,A283_1,c283_1,e283,hx283_0,hx283_1,hl283_1,hi283_1⟩:=at_T47 HR0_0.out a1 p283 q283;cases e283;replace hx283_0:=(HB.out.cell (World.block_lt_of_cell? w _ hx283_0)).trans hx283_0;replace hx283_1:=(HB.out.cell (World.block_lt_of_cell? w _ hx283_1)).trans hx283_1;have HR283_1:=Aside0.mk hi283_1;have HC283_1:=Aside0.mk hl283_1;clear hi283_1 hl283_1;replace p283:=eq_true p283;replace q283:=eq_true q283;have p284 : 0 ≤ (x6_1 : Int):=of_decide_eq_true (by first | (with_reducible assumption) | assumption);have q284 : x6_1 < (((rd_T47 l0_0 a1).f1).length : Int):=of_decide_eq_true (by first | (with_reducible assumption) | assumption);obtain ⟨ad284,e284,hx284_0⟩:=Kd.at_int HR283_1.out x6_1 p284 q284;cases e284;replace hx284_0:=(HB.out.cell (World.block_lt_of_cell? w _ hx284_0)).trans hx284_0;replace p284:=eq_true p284;replace q284:=eq_true q284
            go_wp2
            (try simp only [← hl5_1])
            go_roundg k1;case measure=>have:=HK1.out;omega
            case rel=>exact ⟨(x5_1),(wrap64 (x6_1 + 1)),(by first | rfl | (simp;done) | (simp [*];done)),H',⟨by have:=HK1.out;omega⟩,⟨by (try simp only [hl5_1]);(with_reducible repeat (first | apply Kd.R_alloc | apply Kd.R_drewN | apply Kd.R_drew));exact HO_5.out⟩,⟨by (try simp only [hl5_1]);(with_reducible repeat (first | refine blk_drewN ?_ _ | refine blk_drew ?_ | refine blk_alloc ?_ _));exact BK278.out⟩,⟨hs1 HB GE278⟩⟩
           rw [if_neg c23] at H;exact absurd H (by simp)
          rw [if_neg c22] at H;exact absurd H (by simp)
         rw [if_neg c21] at H;exact absurd H (by simp)
        rw [if_neg c20] at H;exact absurd H (by simp)
       rw [if_neg c19] at H;have c19b0 : decide (x6_1 < 4) = false:=decide_eq_false c19;clear c19;obtain rfl:=Option.some.inj H
       go_wp2
       go_ret
       exact ⟨_,by first | rfl | (simp [errW_none,errW_some] <;> rfl) | (simp [*,errW_none,errW_some] <;> rfl),rs HO_5,hs1 HB GE278⟩
    rw [if_neg c11] at H;exact absurd H (by simp)
   rw [if_neg c10] at H;exact absurd H (by simp)
  rw [if_neg c4] at H;exact absurd H (by simp)
 rw [if_neg c3] at H;exact absurd H (by simp)
end Go.Proofs.Ytjpjikhokpfhmaa.PT

namespace Go.Proofs.Ytjpjikhokpfhmaa.PT
open Go.RowKit Go.Proofs.YtjpjikhokpfhmaaW.PrintWords Go.Proofs.YtjpjikhokpfhmaaW.PrintLast Go.Proofs.YtjpjikhokpfhmaaW.PrintMore
attribute [local go_sem] max2_int min2_int max_two min_two max_three min_three max_four min_four   -- for this text's walks alone
set_option linter.unusedVariables false
set_option linter.unusedSimpArgs false
mutual
def spec_SharedBy.j0 : Nat → Int → Int → Bool → List (S47) → Option (Int)
 | 0,_,_,_,_=>none
 | k + 1,x1,x2,x25,x289000=>if x25 = true then (some 0) else ((spec_l11Has.f k x289000 x1).bind fun t292=>((spec_l11Has.f k x289000 x2).bind fun t295=>(spec_SharedBy.l0 k t292 t295 0 0)))
def spec_SharedBy.l0 : Nat → List Bool → List Bool → Int → Int → Option (Int)
 | 0,_,_,_,_=>none
 | k + 1,x7,x8,x9,x10=>if x10 < (x7.length : Int) then (if 0 ≤ x10 then (if rdOf false x7 x10 = true then (if x10 < (x8.length : Int) then (if rdOf false x8 x10 = true then (spec_SharedBy.l0 k x7 x8 (wrap64 (x9 + 1)) (wrap64 (x10 + 1))) else (spec_SharedBy.l0 k x7 x8 x9 (wrap64 (x10 + 1)))) else (none)) else (spec_SharedBy.l0 k x7 x8 x9 (wrap64 (x10 + 1)))) else (none)) else (some x9)
end
def spec_SharedBy.f (k : Nat) (l0_0 : List (S47)) (a1 : Int) (a2 : Int) : Option (Int):=(spec_ArenaOk.f k l0_0).bind fun t289=>(if t289 = true then ((spec_l11Root.f l0_0 a1).bind fun t290=>(if t290 = true then ((spec_l11Root.f l0_0 a2).bind fun t291=>(spec_SharedBy.j0 k a1 a2 (!t291) l0_0)) else (spec_SharedBy.j0 k a1 a2 true l0_0))) else (spec_SharedBy.j0 k a1 a2 true l0_0))
theorem spec_SharedBy.mono_l : ∀ k,(∀ y0 y1 y2 y3,LeO (spec_SharedBy.j0 k y0 y1 y2 y3) (spec_SharedBy.j0 (k + 1) y0 y1 y2 y3)) ∧ (∀ y0 y1 y2 y3,LeO (spec_SharedBy.l0 k y0 y1 y2 y3) (spec_SharedBy.l0 (k + 1) y0 y1 y2 y3))
 | 0=>⟨fun _ _ _ _ r h=>by simp [spec_SharedBy.j0] at h,fun _ _ _ _ r h=>by simp [spec_SharedBy.l0] at h⟩
 | k + 1=>by
  obtain ⟨ih0,ih1⟩:=spec_SharedBy.mono_l k;refine ⟨?_,?_⟩
  ·intro y0 y1 y2 y3;unfold spec_SharedBy.j0
   repeat' first
   | (with_reducible exact ih0 _ _ _ _)
   | (with_reducible exact ih1 _ _ _ _)
   | (with_reducible exact spec_ArenaOk.mono _ _)
   | (with_reducible exact spec_l11Has.mono _ _ _)
   | (with_reducible exact LeO.refl _)
   | (with_reducible exact LeO.none _)
   | (with_reducible refine LeO.ite ?_ ?_)
   | (with_reducible refine LeO.bind ?_ (fun _=>?_))
   | exact ih0 _ _ _ _
   | exact ih1 _ _ _ _
   | exact spec_ArenaOk.mono _ _
   | exact spec_l11Has.mono _ _ _
   | exact LeO.none _
   | refine LeO.ite ?_ ?_
   | refine LeO.bind ?_ (fun _=>?_)
  intro y0 y1 y2 y3;unfold spec_SharedBy.l0
  repeat' first
  | (with_reducible exact ih0 _ _ _ _)
  | (with_reducible exact ih1 _ _ _ _)
  | (with_reducible exact spec_ArenaOk.mono _ _)
  | (with_reducible exact spec_l11Has.mono _ _ _)
  | (with_reducible exact LeO.refl _)
  | (with_reducible exact LeO.none _)
  | (with_reducible refine LeO.ite ?_ ?_)
  | (with_reducible refine LeO.bind ?_ (fun _=>?_))
  | exact ih0 _ _ _ _
  | exact ih1 _ _ _ _
  | exact spec_ArenaOk.mono _ _
  | exact spec_l11Has.mono _ _ _
  | exact LeO.none _
  | refine LeO.ite ?_ ?_
  | refine LeO.bind ?_ (fun _=>?_)
theorem spec_SharedBy.mono : ∀ a0 a1 a2 k,LeO (spec_SharedBy.f k a0 a1 a2) (spec_SharedBy.f (k + 1) a0 a1 a2):=by
 intro a0 a1 a2 k;obtain ⟨ih0,ih1⟩:=spec_SharedBy.mono_l k;unfold spec_SharedBy.f
 repeat' first
   | (with_reducible exact ih0 _ _ _ _)
   | (with_reducible exact ih1 _ _ _ _)
   | (with_reducible exact spec_ArenaOk.mono _ _)
   | (with_reducible exact spec_l11Has.mono _ _ _)
   | (with_reducible exact LeO.refl _)
   | (with_reducible exact LeO.none _)
   | (with_reducible refine LeO.ite ?_ ?_)
   | (with_reducible refine LeO.bind ?_ (fun _=>?_))
   | exact ih0 _ _ _ _
   | exact ih1 _ _ _ _
   | exact spec_ArenaOk.mono _ _
   | exact spec_l11Has.mono _ _ _
   | exact LeO.none _
   | refine LeO.ite ?_ ?_
   | refine LeO.bind ?_ (fun _=>?_)
set_option maxHeartbeats 8000000 in
set_option maxRecDepth 100000 in
theorem spec_SharedBy.calls (k : Nat) (A0_0 : Option Addr) (c0_0 : Nat) (l0_0 : List (S47)) (a1 : Int) (a2 : Int) (r : Int) (w : World) (hr0_0 : Kd.C k47 w A0_0 l0_0.length l0_0) (hc0_0 : l0_0.length ≤ c0_0) (h : spec_SharedBy.f k l0_0 a1 a2 = some r) :
  Calls Try.prog 17 #[.agg #[.slice A0_0 l0_0.length c0_0],.int .i64 a1,.int .i64 a2] w fun e w'=>e = .returned (.int .i64 r) ∧ Below w.heap.size w w':=by
 have hu26:=Try.underlying26;have HR0_0:=Aside0.mk hr0_0;have HC0_0:=Aside0.mk hc0_0;clear hr0_0 hc0_0;have HB:=Aside0.mk (Below.refl w.heap.size w);have H : ((spec_ArenaOk.f k l0_0).bind fun t289=>(if t289 = true then ((spec_l11Root.f l0_0 a1).bind fun t290=>(if t290 = true then ((spec_l11Root.f l0_0 a2).bind fun t291=>(spec_SharedBy.j0 k a1 a2 (!t291) l0_0)) else (spec_SharedBy.j0 k a1 a2 true l0_0))) else (spec_SharedBy.j0 k a1 a2 true l0_0))) = some r:=h;clear h;have HC4:=Aside0.mk H;clear H
 go_enter Try.func17,Try.ntmps17
 go_upto_region 1 with (first | ((with_reducible refine gate_dst (N:=3) rfl ?_);refine box_event ?hg (N:=3) ?hd (cs:=#[.slice A0_0 l0_0.length c0_0]) (t:=26) ?hr ?_;(case hd=>rfl);(case hg=>rfl);(case hr=>first | (go_simp;done) | (go_simp;rfl));intro gb288 hg w5 hbox hb;have n0_:=Aside0.mk (below_step (hs HB) hb);have n1_:=Aside0.mk (hbox);have n2_:=Aside0.mk ((by rw [hg];exact (below_size (hs HB)) : w.heap.size ≤ gb288));have n3_:=Aside0.mk ((by rw [hg];exact (below_size (hs HB)) : w.heap.size ≤ gb288));clear HB;have HB:=n0_;have BK288:=n1_;have GW288:=n2_;have GE288:=n3_;clear n0_ n1_ n2_ n3_;clear hb hbox hg))
 (try simp only [Act.put,List.setIfInBounds_toArray,List.set_cons_zero,List.set_cons_succ])
 go_cut [25] (fun v25 wc=>∃ (kq : Nat) (x25_3 : Bool),v25 = .bool x25_3 ∧ Aside0 (spec_SharedBy.j0 kq a1 a2 x25_3 l0_0 = some r) ∧ Aside0 (kq ≤ k) ∧ Aside0 (wc.heap[gb288]? = some (.cells #[(.slice A0_0 l0_0.length c0_0)] 26 (0,0))) ∧ Aside0 (Below w.heap.size w wc))
 case first =>
  have H:=HC4.out;clear HC4;replace H:=Option.bind_eq_some_iff.mp H;obtain ⟨t289,A60,H⟩:=H;replace H : (if t289 = true then ((spec_l11Root.f l0_0 a1).bind fun t290=>(if t290 = true then ((spec_l11Root.f l0_0 a2).bind fun t291=>(spec_SharedBy.j0 k a1 a2 (!t291) l0_0)) else (spec_SharedBy.j0 k a1 a2 true l0_0))) else (spec_SharedBy.j0 k a1 a2 true l0_0)) = some r:=H;have A6:=Aside0.mk A60;clear A60
  by_cases c7 : t289 = true
  ·subst c7;have H1 : ((spec_l11Root.f l0_0 a1).bind fun t290=>(if t290 = true then ((spec_l11Root.f l0_0 a2).bind fun t291=>(spec_SharedBy.j0 k a1 a2 (!t291) l0_0)) else (spec_SharedBy.j0 k a1 a2 true l0_0))) = some r:=by rw [if_pos rfl] at H;exact H
   clear H;have H:=H1;clear H1;replace H:=Option.bind_eq_some_iff.mp H;obtain ⟨t290,A80,H⟩:=H;replace H : (if t290 = true then ((spec_l11Root.f l0_0 a2).bind fun t291=>(spec_SharedBy.j0 k a1 a2 (!t291) l0_0)) else (spec_SharedBy.j0 k a1 a2 true l0_0)) = some r:=H;have A8:=Aside0.mk A80;clear A80
   by_cases c9 : t290 = true
   ·subst c9;have H1 : ((spec_l11Root.f l0_0 a2).bind fun t291=>(spec_SharedBy.j0 k a1 a2 (!t291) l0_0)) = some r:=by rw [if_pos rfl] at H;exact H
    clear H;have H:=H1;clear H1;replace H:=Option.bind_eq_some_iff.mp H;obtain ⟨t291,A100,H⟩:=H;replace H : (spec_SharedBy.j0 k a1 a2 (!t291) l0_0) = some r:=H;have A10:=Aside0.mk A100;clear A100;have H':=Aside0.mk H;clear H;have hcz11_0 : w5.cell? ⟨gb288,0,none⟩ = some (.slice A0_0 l0_0.length c0_0):=(blk_cell BK288.out 0).trans rfl;have hfz11_0:=blk_frozen BK288.out 0;go_wp2_with (first | ((with_reducible refine gate_callee (f:=28) rfl ?_);refine goesL_ (some 12) rfl rfl Try.func28 (by kernel_rfl) rfl #[.agg #[.slice A0_0 l0_0.length c0_0]] rfl (by (try simp only [List.map_toArray,List.map_cons,List.map_nil]);first | done | rfl | (simp only [List.length_drop,List.length_take];rfl)) ?_;(with_reducible refine (spec_ArenaOk.calls k _ _ l0_0 true _ ?side1 ?side2 A6.out).mono ?_);(case side1=>repeat (first | exact (Kd.C_below HR0_0.out HB.out) | (with_reducible refine Kd.C_alloc ?_ _) | (with_reducible refine Kd.C_drewN ?_ _) | (with_reducible refine Kd.C_drew ?_)));(case side2=>exact HC0_0.out);rintro e w12 ⟨rfl,hb⟩;refine ⟨_,rfl,?_⟩;have n0_:=Aside0.mk (blk_below (g:=gb288) (o:=.cells #[.slice A0_0 l0_0.length c0_0] 26 (0,0)) (bs BK288) hb);have n1_:=Aside0.mk (below_step (hs1 HB GE288) hb);clear BK288;clear HB;have BK288:=n0_;have HB:=n1_;clear n0_ n1_;(try clear hb);(try clear hb2);(try clear hk);(try clear hi);have hcz13_0 : w12.cell? ⟨gb288,0,none⟩ = some (.slice A0_0 l0_0.length c0_0):=(blk_cell BK288.out 0).trans rfl;have hfz13_0:=blk_frozen BK288.out 0) | (go_at_call 29;(with_reducible refine (spec_l11Root.calls _ _ l0_0 a1 true _ ?side1 ?side2 A8.out).mono ?_);(case side1=>repeat (first | exact (Kd.C_below HR0_0.out HB.out) | (with_reducible refine Kd.C_alloc ?_ _) | (with_reducible refine Kd.C_drewN ?_ _) | (with_reducible refine Kd.C_drew ?_)));(case side2=>exact HC0_0.out);rintro e w14 ⟨rfl,hb⟩;have n0_:=Aside0.mk (blk_below (g:=gb288) (o:=.cells #[.slice A0_0 l0_0.length c0_0] 26 (0,0)) (bs BK288) hb);have n1_:=Aside0.mk (below_step (hs1 HB GE288) hb);clear BK288;clear HB;have BK288:=n0_;have HB:=n1_;clear n0_ n1_;(try clear hb);(try clear hb2);(try clear hk);(try clear hi);have hcz15_0 : w14.cell? ⟨gb288,0,none⟩ = some (.slice A0_0 l0_0.length c0_0):=(blk_cell BK288.out 0).trans rfl;have hfz15_0:=blk_frozen BK288.out 0) | (go_at_call 29;(with_reducible refine (spec_l11Root.calls _ _ l0_0 a2 t291 _ ?side1 ?side2 A10.out).mono ?_);(case side1=>repeat (first | exact (Kd.C_below HR0_0.out HB.out) | (with_reducible refine Kd.C_alloc ?_ _) | (with_reducible refine Kd.C_drewN ?_ _) | (with_reducible refine Kd.C_drew ?_)));(case side2=>exact HC0_0.out);rintro e w16 ⟨rfl,hb⟩;have n0_:=Aside0.mk (blk_below (g:=gb288) (o:=.cells #[.slice A0_0 l0_0.length c0_0] 26 (0,0)) (bs BK288) hb);have n1_:=Aside0.mk (below_step (hs1 HB GE288) hb);clear BK288;clear HB;have BK288:=n0_;have HB:=n1_;clear n0_ n1_;(try clear hb);(try clear hb2);(try clear hk);(try clear hi)))
    go_meet
    case rel=>exact ⟨_,(!t291),(by first | rfl | (simp;done) | (simp [*];done)),H',⟨by first | omega | exact Nat.le_refl _⟩,⟨bs BK288⟩,⟨hs1 HB GE288⟩⟩
   replace c9:=Bool.eq_false_iff.mpr c9;subst c9;have H1 : (spec_SharedBy.j0 k a1 a2 true l0_0) = some r:=by rw [if_neg (show ¬ (false = true) by decide)] at H;exact H
   clear H;have H:=H1;clear H1;have H':=Aside0.mk H;clear H;have hcz17_0 : w5.cell? ⟨gb288,0,none⟩ = some (.slice A0_0 l0_0.length c0_0):=(blk_cell BK288.out 0).trans rfl;have hfz17_0:=blk_frozen BK288.out 0;go_wp2_with (first | ((with_reducible refine gate_callee (f:=28) rfl ?_);refine goesL_ (some 12) rfl rfl Try.func28 (by kernel_rfl) rfl #[.agg #[.slice A0_0 l0_0.length c0_0]] rfl (by (try simp only [List.map_toArray,List.map_cons,List.map_nil]);first | done | rfl | (simp only [List.length_drop,List.length_take];rfl)) ?_;(with_reducible refine (spec_ArenaOk.calls k _ _ l0_0 true _ ?side1 ?side2 A6.out).mono ?_);(case side1=>repeat (first | exact (Kd.C_below HR0_0.out HB.out) | (with_reducible refine Kd.C_alloc ?_ _) | (with_reducible refine Kd.C_drewN ?_ _) | (with_reducible refine Kd.C_drew ?_)));(case side2=>exact HC0_0.out);rintro e w18 ⟨rfl,hb⟩;refine ⟨_,rfl,?_⟩;have n0_:=Aside0.mk (blk_below (g:=gb288) (o:=.cells #[.slice A0_0 l0_0.length c0_0] 26 (0,0)) (bs BK288) hb);have n1_:=Aside0.mk (below_step (hs1 HB GE288) hb);clear BK288;clear HB;have BK288:=n0_;have HB:=n1_;clear n0_ n1_;(try clear hb);(try clear hb2);(try clear hk);(try clear hi);have hcz19_0 : w18.cell? ⟨gb288,0,none⟩ = some (.slice A0_0 l0_0.length c0_0):=(blk_cell BK288.out 0).trans rfl;have hfz19_0:=blk_frozen BK288.out 0) | (go_at_call 29;(with_reducible refine (spec_l11Root.calls _ _ l0_0 a1 false _ ?side1 ?side2 A8.out).mono ?_);(case side1=>repeat (first | exact (Kd.C_below HR0_0.out HB.out) | (with_reducible refine Kd.C_alloc ?_ _) | (with_reducible refine Kd.C_drewN ?_ _) | (with_reducible refine Kd.C_drew ?_)));(case side2=>exact HC0_0.out);rintro e w20 ⟨rfl,hb⟩;have n0_:=Aside0.mk (blk_below (g:=gb288) (o:=.cells #[.slice A0_0 l0_0.length c0_0] 26 (0,0)) (bs BK288) hb);have n1_:=Aside0.mk (below_step (hs1 HB GE288) hb);clear BK288;clear HB;have BK288:=n0_;have HB:=n1_;clear n0_ n1_;(try clear hb);(try clear hb2);(try clear hk);(try clear hi)))
   go_meet
   case rel=>exact ⟨_,(true),(by first | rfl | (simp;done) | (simp [*];done)),H',⟨by first | omega | exact Nat.le_refl _⟩,⟨bs BK288⟩,⟨hs1 HB GE288⟩⟩
  replace c7:=Bool.eq_false_iff.mpr c7;subst c7;have H1 : (spec_SharedBy.j0 k a1 a2 true l0_0) = some r:=by rw [if_neg (show ¬ (false = true) by decide)] at H;exact H
  clear H;have H:=H1;clear H1;have H':=Aside0.mk H;clear H;have hcz21_0 : w5.cell? ⟨gb288,0,none⟩ = some (.slice A0_0 l0_0.length c0_0):=(blk_cell BK288.out 0).trans rfl;have hfz21_0:=blk_frozen BK288.out 0;go_wp2_with (first | ((with_reducible refine gate_callee (f:=28) rfl ?_);refine goesL_ (some 12) rfl rfl Try.func28 (by kernel_rfl) rfl #[.agg #[.slice A0_0 l0_0.length c0_0]] rfl (by (try simp only [List.map_toArray,List.map_cons,List.map_nil]);first | done | rfl | (simp only [List.length_drop,List.length_take];rfl)) ?_;(with_reducible refine (spec_ArenaOk.calls k _ _ l0_0 false _ ?side1 ?side2 A6.out).mono ?_);(case side1=>repeat (first | exact (Kd.C_below HR0_0.out HB.out) | (with_reducible refine Kd.C_alloc ?_ _) | (with_reducible refine Kd.C_drewN ?_ _) | (with_reducible refine Kd.C_drew ?_)));(case side2=>exact HC0_0.out);rintro e w22 ⟨rfl,hb⟩;refine ⟨_,rfl,?_⟩;have n0_:=Aside0.mk (blk_below (g:=gb288) (o:=.cells #[.slice A0_0 l0_0.length c0_0] 26 (0,0)) (bs BK288) hb);have n1_:=Aside0.mk (below_step (hs1 HB GE288) hb);clear BK288;clear HB;have BK288:=n0_;have HB:=n1_;clear n0_ n1_;(try clear hb);(try clear hb2);(try clear hk);(try clear hi)))
  go_meet
  case rel=>exact ⟨_,(true),(by first | rfl | (simp;done) | (simp [*];done)),H',⟨by first | omega | exact Nat.le_refl _⟩,⟨bs BK288⟩,⟨hs1 HB GE288⟩⟩
 case rest =>
  clear HC4
  try clear c1
  try clear c2
  try clear p2
  try clear c7
  try clear c9
  try clear c17
  try clear hcz11_0
  try clear hcz13_0
  try clear hcz15_0
  try clear hcz17_0
  try clear hcz19_0
  try clear hcz21_0
  try clear hfz11_0
  try clear hfz13_0
  try clear hfz15_0
  try clear hfz17_0
  try clear hfz19_0
  try clear hfz21_0
  obtain ⟨kq,x25_3,rfl,HA,HJ3,BK288,HB⟩:=hcut;cases kq with
  | zero=>exact absurd HA.out (by simp [spec_SharedBy.j0])
  | succ kj3 =>
   have H:=HA.out;clear HA;simp only [spec_SharedBy.j0] at H
   by_cases c23 : x25_3 = true
   ·subst c23;have H1 : (some 0) = some r:=by rw [if_pos rfl] at H;exact H
    clear H;have H:=H1;clear H1;obtain rfl:=Option.some.inj H
    go_wp2
    go_ret
    exact ⟨by first | rfl | (simp [errW_none,errW_some] <;> rfl) | (simp [*,errW_none,errW_some] <;> rfl),hs1 HB GE288⟩
   replace c23:=Bool.eq_false_iff.mpr c23;subst c23;have H1 : ((spec_l11Has.f kj3 l0_0 a1).bind fun t292=>((spec_l11Has.f kj3 l0_0 a2).bind fun t295=>(spec_SharedBy.l0 kj3 t292 t295 0 0))) = some r:=by rw [if_neg (show ¬ (false = true) by decide)] at H;exact H
   clear H;have H:=H1;clear H1;replace H:=Option.bind_eq_some_iff.mp H;obtain ⟨t292,A240,H⟩:=H;replace H : ((spec_l11Has.f kj3 l0_0 a2).bind fun t295=>(spec_SharedBy.l0 kj3 t292 t295 0 0)) = some r:=H;have A24:=Aside0.mk A240;clear A240;replace H:=Option.bind_eq_some_iff.mp H;obtain ⟨t295,A250,H⟩:=H;replace H : (spec_SharedBy.l0 kj3 t292 t295 0 0) = some r:=H;have A25:=Aside0.mk A250;clear A250;have H':=Aside0.mk H;clear H;have hcz26_0 : wc.cell? ⟨gb288,0,none⟩ = some (.slice A0_0 l0_0.length c0_0):=(blk_cell BK288.out 0).trans rfl;have hfz26_0:=blk_frozen BK288.out 0;go_wp2_with (first | ((with_reducible refine gate_callee (f:=34) rfl ?_);refine goesL_ (some 28) rfl rfl Try.func34 (by kernel_rfl) rfl #[.agg #[.slice A0_0 l0_0.length c0_0],.int .i64 a1] rfl (by (try simp only [List.map_toArray,List.map_cons,List.map_nil]);first | done | rfl | (simp only [List.length_drop,List.length_take];rfl)) ?_;(with_reducible refine (spec_l11Has.calls kj3 _ _ l0_0 a1 t292 _ ?side1 ?side2 A24.out).mono ?_);(case side1=>repeat (first | exact (Kd.C_below HR0_0.out HB.out) | (with_reducible refine Kd.C_alloc ?_ _) | (with_reducible refine Kd.C_drewN ?_ _) | (with_reducible refine Kd.C_drew ?_)));(case side2=>exact HC0_0.out);rintro e w27 ⟨v293,rfl,ho0,hb⟩;refine ⟨_,rfl,?_⟩;have n0_:=Aside0.mk (Kd.R_lower ho0 (below_size (hs1 HB GE288)));have n1_:=Aside0.mk (blk_below (g:=gb288) (o:=.cells #[.slice A0_0 l0_0.length c0_0] 26 (0,0)) (bs BK288) hb);have n2_:=Aside0.mk (below_step (hs1 HB GE288) hb);clear BK288;clear HB;have HO294:=n0_;have BK288:=n1_;have HB:=n2_;clear n0_ n1_ n2_;(try clear hb);(try clear hb2);(try clear hk);(try clear hi);(try clear ho0);have hcz28_0 : w27.cell? ⟨gb288,0,none⟩ = some (.slice A0_0 l0_0.length c0_0):=(blk_cell BK288.out 0).trans rfl;have hfz28_0:=blk_frozen BK288.out 0) | ((with_reducible refine gate_callee (f:=34) rfl ?_);refine goesL_ (some 31) rfl rfl Try.func34 (by kernel_rfl) rfl #[.agg #[.slice A0_0 l0_0.length c0_0],.int .i64 a2] rfl (by (try simp only [List.map_toArray,List.map_cons,List.map_nil]);first | done | rfl | (simp only [List.length_drop,List.length_take];rfl)) ?_;(with_reducible refine (spec_l11Has.calls kj3 _ _ l0_0 a2 t295 _ ?side1 ?side2 A25.out).mono ?_);(case side1=>repeat (first | exact (Kd.C_below HR0_0.out HB.out) | (with_reducible refine Kd.C_alloc ?_ _) | (with_reducible refine Kd.C_drewN ?_ _) | (with_reducible refine Kd.C_drew ?_)));(case side2=>exact HC0_0.out);rintro e w29 ⟨v296,rfl,ho0,hb⟩;refine ⟨_,rfl,?_⟩;have n0_:=Aside0.mk (Kd.R_elder' (rs HO294) (Kd.R_base ho0) hb);have n1_:=Aside0.mk (Kd.R_lower (Kd.R_new' ho0 (Kd.R_lt (rs HO294))) (below_size (hs1 HB GE288)));have n2_:=Aside0.mk (blk_below (g:=gb288) (o:=.cells #[.slice A0_0 l0_0.length c0_0] 26 (0,0)) (bs BK288) hb);have n3_:=Aside0.mk (below_step (hs1 HB GE288) hb);clear HO294;clear BK288;clear HB;have HO294:=n0_;have HO297:=n1_;have BK288:=n2_;have HB:=n3_;clear n0_ n1_ n2_ n3_;(try clear hb);(try clear hb2);(try clear hk);(try clear hi);(try clear ho0)));go_loopg [9,10] kj3 (fun kq v9 v10 w'=>∃ (x9_2 : Int) (x10_2 : Int),v9 = .int .i64 x9_2 ∧ v10 = .int .i64 x10_2 ∧ Aside0 (spec_SharedBy.l0 kq t292 t295 x9_2 x10_2 = some r) ∧ Aside0 (kq ≤ kj3) ∧ Aside0 (Kd.R Kd.bool 4 w' w.heap.size (fun k_=>some k_ ≠ (v296 : Value).ownBlock) v293 t292) ∧ Aside0 (Kd.R Kd.bool 4 w' w.heap.size (fun k_=>some k_ ≠ (v293 : Value).ownBlock) v296 t295) ∧ Aside0 (w'.heap[gb288]? = some (.cells #[(.slice A0_0 l0_0.length c0_0)] 26 (0,0))) ∧ Aside0 (Below w.heap.size w w'));case atStart=>exact ⟨(0),(0),(by first | rfl | (simp;done) | (simp [*];done)),(by first | rfl | (simp;done) | (simp [*];done)),H',⟨Nat.le_refl _⟩,⟨by (with_reducible repeat (first | apply Kd.R_alloc | apply Kd.R_drewN | apply Kd.R_drew));exact Kd.R_mono HO294.out (fun _ hk=>hk.2)⟩,⟨by (with_reducible repeat (first | apply Kd.R_alloc | apply Kd.R_drewN | apply Kd.R_drew));exact Kd.R_mono HO297.out (fun _ hk=>hk.2)⟩,⟨bs BK288⟩,⟨hs1 HB GE288⟩⟩
   case round =>
    clear H'
    try clear c1
    try clear c2
    try clear p2
    try clear c3
    try clear c7
    try clear c9
    try clear c17
    try clear c23
    try clear c28
    try clear hcz11_0
    try clear hcz13_0
    try clear hcz15_0
    try clear hcz17_0
    try clear hcz19_0
    try clear hcz21_0
    try clear hcz26_0
    try clear hcz28_0
    try clear hfz11_0
    try clear hfz13_0
    try clear hfz15_0
    try clear hfz17_0
    try clear hfz19_0
    try clear hfz21_0
    try clear hfz26_0
    try clear hfz28_0
    try clear p2
    obtain ⟨x9_2,x10_2,rfl,rfl,HA,HK2,HO_7,HO_8,BK288,HB⟩:=hrel;cases gk with
    | zero=>exact absurd HA.out (by simp [spec_SharedBy.l0])
    | succ k2 =>
     have H:=HA.out;clear HA;simp only [spec_SharedBy.l0] at H
     by_cases c30 : x10_2 < (t292.length : Int)
     ·rw [if_pos c30] at H;have c30b0 : decide (x10_2 < (t292.length : Int)) = true:=decide_eq_true c30;clear c30
      by_cases c31 : 0 ≤ x10_2
      ·rw [if_pos c31] at H;have c31b0 : decide (0 ≤ x10_2) = true:=decide_eq_true c31;clear c31;obtain ⟨bq32,hbq32⟩ : ∃ b_ : Bool,b_ = (rdOf false t292 x10_2):=⟨_,rfl⟩;replace H : (if bq32 = true then (if x10_2 < (t295.length : Int) then (if rdOf false t295 x10_2 = true then (spec_SharedBy.l0 k2 t292 t295 (wrap64 (x9_2 + 1)) (wrap64 (x10_2 + 1))) else (spec_SharedBy.l0 k2 t292 t295 x9_2 (wrap64 (x10_2 + 1)))) else (none)) else (spec_SharedBy.l0 k2 t292 t295 x9_2 (wrap64 (x10_2 + 1)))) = some r:=by rw [← hbq32] at H;exact H
       have Nbq32:=Aside0.mk hbq32;clear hbq32
       by_cases c33 : bq32 = true
       ·subst c33;have H1 : (if x10_2 < (t295.length : Int) then (if rdOf false t295 x10_2 = true then (spec_SharedBy.l0 k2 t292 t295 (wrap64 (x9_2 + 1)) (wrap64 (x10_2 + 1))) else (spec_SharedBy.l0 k2 t292 t295 x9_2 (wrap64 (x10_2 + 1)))) else (none)) = some r:=by rw [if_pos rfl] at H;exact H
        clear H;have H:=H1;clear H1
        by_cases c34 : x10_2 < (t295.length : Int)
        ·rw [if_pos c34] at H;have c34b0 : decide (x10_2 < (t295.length : Int)) = true:=decide_eq_true c34;clear c34;obtain ⟨bq35,hbq35⟩ : ∃ b_ : Bool,b_ = (rdOf false t295 x10_2):=⟨_,rfl⟩;replace H : (if bq35 = true then (spec_SharedBy.l0 k2 t292 t295 (wrap64 (x9_2 + 1)) (wrap64 (x10_2 + 1))) else (spec_SharedBy.l0 k2 t292 t295 x9_2 (wrap64 (x10_2 + 1)))) = some r:=by rw [← hbq35] at H;exact H
         have Nbq35:=Aside0.mk hbq35;clear hbq35
         by_cases c36 : bq35 = true
         ·subst c36;have H1 : (spec_SharedBy.l0 k2 t292 t295 (wrap64 (x9_2 + 1)) (wrap64 (x10_2 + 1))) = some r:=by rw [if_pos rfl] at H;exact H
          clear H;have H:=H1;clear H1;have H':=Aside0.mk H;clear H;obtain ⟨Ao37,co37,eo37⟩:=Kd.R_slice HO_7.out;subst eo37;have p298 : 0 ≤ (x10_2 : Int):=of_decide_eq_true (by first | (with_reducible assumption) | assumption);have q298 : x10_2 < (t292.length : Int):=of_decide_eq_true (by first | (with_reducible assumption) | assumption);obtain ⟨ad298,e298,hx298_0⟩:=Kd.at_bool (Kd.R_reads' HO_7.out).2.2 x10_2 p298 q298
          (try rw [← Nbq32.out] at hx298_0)
          (try rw [← Nbq35.out] at hx298_0)
          cases e298;replace p298:=eq_true p298;replace q298:=eq_true q298;obtain ⟨Ao38,co38,eo38⟩:=Kd.R_slice HO_8.out;subst eo38;have p299 : 0 ≤ (x10_2 : Int):=of_decide_eq_true (by first | (with_reducible assumption) | assumption);have q299 : x10_2 < (t295.length : Int):=of_decide_eq_true (by first | (with_reducible assumption) | assumption);obtain ⟨ad299,e299,hx299_0⟩:=Kd.at_bool (Kd.R_reads' HO_8.out).2.2 x10_2 p299 q299
          (try rw [← Nbq32.out] at hx299_0)
          (try rw [← Nbq35.out] at hx299_0)
          cases e299;replace p299:=eq_true p299;replace q299:=eq_true q299
          go_wp2
          go_roundg k2;case measure=>have:=HJ3.out;have:=HK2.out;omega
          case rel=>exact ⟨(wrap64 (x9_2 + 1)),(wrap64 (x10_2 + 1)),(by first | rfl | (simp;done) | (simp [*];done)),(by first | rfl | (simp;done) | (simp [*];done)),H',⟨by have:=HJ3.out;have:=HK2.out;omega⟩,⟨rs HO_7⟩,⟨rs HO_8⟩,⟨bs BK288⟩,⟨hs1 HB GE288⟩⟩
         replace c36:=Bool.eq_false_iff.mpr c36;subst c36;have H1 : (spec_SharedBy.l0 k2 t292 t295 x9_2 (wrap64 (x10_2 + 1))) = some r:=by rw [if_neg (show ¬ (false = true) by decide)] at H;exact H
         clear H;have H:=H1;clear H1;have H':=Aside0.mk H;clear H;obtain ⟨Ao39,co39,eo39⟩:=Kd.R_slice HO_7.out;subst eo39;have p298 : 0 ≤ (x10_2 : Int):=of_decide_eq_true (by first | (with_reducible assumption) | assumption);have q298 : x10_2 < (t292.length : Int):=of_decide_eq_true (by first | (with_reducible assumption) | assumption);obtain ⟨ad298,e298,hx298_0⟩:=Kd.at_bool (Kd.R_reads' HO_7.out).2.2 x10_2 p298 q298
         (try rw [← Nbq32.out] at hx298_0)
         (try rw [← Nbq35.out] at hx298_0)
         cases e298;replace p298:=eq_true p298;replace q298:=eq_true q298;obtain ⟨Ao40,co40,eo40⟩:=Kd.R_slice HO_8.out;subst eo40;have p299 : 0 ≤ (x10_2 : Int):=of_decide_eq_true (by first | (with_reducible assumption) | assumption);have q299 : x10_2 < (t295.length : Int):=of_decide_eq_true (by first | (with_reducible assumption) | assumption);obtain ⟨ad299,e299,hx299_0⟩:=Kd.at_bool (Kd.R_reads' HO_8.out).2.2 x10_2 p299 q299
         (try rw [← Nbq32.out] at hx299_0)
         (try rw [← Nbq35.out] at hx299_0)
         cases e299;replace p299:=eq_true p299;replace q299:=eq_true q299
         go_wp2
         go_roundg k2;case measure=>have:=HJ3.out;have:=HK2.out;omega
         case rel=>exact ⟨(x9_2),(wrap64 (x10_2 + 1)),(by first | rfl | (simp;done) | (simp [*];done)),(by first | rfl | (simp;done) | (simp [*];done)),H',⟨by have:=HJ3.out;have:=HK2.out;omega⟩,⟨rs HO_7⟩,⟨rs HO_8⟩,⟨bs BK288⟩,⟨hs1 HB GE288⟩⟩
        rw [if_neg c34] at H;exact absurd H (by simp)
       replace c33:=Bool.eq_false_iff.mpr c33;subst c33;have H1 : (spec_SharedBy.l0 k2 t292 t295 x9_2 (wrap64 (x10_2 + 1))) = some r:=by rw [if_neg (show ¬ (false = true) by decide)] at H;exact H
       clear H;have H:=H1;clear H1;have H':=Aside0.mk H;clear H;obtain ⟨Ao41,co41,eo41⟩:=Kd.R_slice HO_7.out;subst eo41;have p298 : 0 ≤ (x10_2 : Int):=of_decide_eq_true (by first | (with_reducible assumption) | assumption);have q298 : x10_2 < (t292.length : Int):=of_decide_eq_true (by first | (with_reducible assumption) | assumption);obtain ⟨ad298,e298,hx298_0⟩:=Kd.at_bool (Kd.R_reads' HO_7.out).2.2 x10_2 p298 q298
       (try rw [← Nbq32.out] at hx298_0)
       cases e298;replace p298:=eq_true p298;replace q298:=eq_true q298
       go_wp2
       go_roundg k2;case measure=>have:=HJ3.out;have:=HK2.out;omega
       case rel=>exact ⟨(x9_2),(wrap64 (x10_2 + 1)),(by first | rfl | (simp;done) | (simp [*];done)),(by first | rfl | (simp;done) | (simp [*];done)),H',⟨by have:=HJ3.out;have:=HK2.out;omega⟩,⟨rs HO_7⟩,⟨rs HO_8⟩,⟨bs BK288⟩,⟨hs1 HB GE288⟩⟩
      rw [if_neg c31] at H;exact absurd H (by simp)
     rw [if_neg c30] at H;have c30b0 : decide (x10_2 < (t292.length : Int)) = false:=decide_eq_false c30;clear c30;obtain rfl:=Option.some.inj H;obtain ⟨Ao42,co42,eo42⟩:=Kd.R_slice HO_7.out;subst eo42
     go_wp2
     go_ret
     exact ⟨by first | rfl | (simp [errW_none,errW_some] <;> rfl) | (simp [*,errW_none,errW_some] <;> rfl),hs1 HB GE288⟩
end Go.Proofs.Ytjpjikhokpfhmaa.PT

namespace Go.Proofs.Ytjpjikhokpfhmaa.PT
open Go.RowKit Go.Proofs.YtjpjikhokpfhmaaW.PrintWords Go.Proofs.YtjpjikhokpfhmaaW.PrintLast Go.Proofs.YtjpjikhokpfhmaaW.PrintMore
attribute [local go_sem] max2_int min2_int max_two min_two max_three min_three max_four min_four   -- for this text's walks alone
set_option linter.unusedVariables false
set_option linter.unusedSimpArgs false
def impl_copyInts.f (l0 : List Int) : Option (List Int):=if ([] : List Int).length + l0.length < 17592186044416 then (some (([] : List Int) ++ l0)) else (none)
set_option maxHeartbeats 8000000 in
set_option maxRecDepth 100000 in
theorem impl_copyInts.calls (A0 : Option Addr) (c0 : Nat) (l0 : List Int) (r : List Int) (w : World) (hr0 : Kd.C (Kd.int .i64) w A0 l0.length l0) (hc0 : l0.length ≤ c0) (h : impl_copyInts.f l0 = some r) :
  Calls Try.prog 26 #[.slice A0 l0.length c0] w fun e w'=>∃ v0_ : Value,e = .returned (v0_) ∧ Kd.R (Kd.int .i64) 3 w' w.heap.size (fun _=>True) v0_ r ∧ Below w.heap.size w w':=by
 have HR0:=Aside0.mk hr0;have HC0:=Aside0.mk hc0;clear hr0 hc0;have HB:=Aside0.mk (Below.refl w.heap.size w);have H : (if ([] : List Int).length + l0.length < 17592186044416 then (some (([] : List Int) ++ l0)) else (none)) = some r:=h;clear h
 by_cases c2 : ([] : List Int).length + l0.length < 17592186044416
 ·rw [if_pos c2] at H;have LMc2:=Aside0.mk c2;clear c2;obtain ⟨y204,hy204⟩ : ∃ y_ : List Int,y_ = (([] : List Int) ++ l0):=⟨_,rfl⟩;replace H : (some y204) = some r:=by first | (rw [hy204];with_reducible exact H) | (have H2_:=(Option.bind_some _ _).symm.trans H;rw [hy204];with_reducible exact H2_) | (have H2_:=(Option.bind_some _ _).symm.trans H;with_reducible exact H2_) | with_reducible exact H | (rw [hy204];exact H) | exact H
  have Ny204:=Aside0.mk hy204;clear hy204;obtain rfl:=Option.some.inj H
  go_enter Try.func26,Try.ntmps26
  go_wp2_with (first | ((with_reducible refine gate_builtin (b:=.append) (xs:=#[(.const (.slice none 0 0)),.tmp 3]) rfl ?_);at_builtin;refine Kd.R_append_rows (Kd.int .i64) (w0:=w) w.heap.size rfl (.const (.slice none 0 0)) (.tmp 3) 27 3 (.int .i64 0) 8 rfl Try.underlying27 info3 rfl (by decide) (by omega) (.slice none 0 0) ([] : List Int) l0 _ _ _ (fun _=>True) (fun _=>False) rfl rfl ?aO ?aR (fun _ _ h=>h) (fun _ h=>h.elim) ?aF ?aB ?aS ?aL ?_;(case aR=>repeat (first | exact HR0.out | (with_reducible refine Kd.C_alloc ?_ _) | (with_reducible refine Kd.C_drewN ?_ _) | (with_reducible refine Kd.C_drew ?_)));(case aB=>exact (hs HB));(case aF=>exact (fun _ _=>trivial));(case aO=>exact ((Kd.R_nil _ _ _ _ (fun _=>True))));(case aS=>exact (below_size (hs HB)));(case aL=>have:=LMc2.out;omega);intro v205 w3 ho hb hg hat;rw [← Ny204.out] at ho;have n0_:=Aside0.mk (hb);have n1_:=Aside0.mk (ho);clear HB;have HB:=n0_;have HO206:=n1_;clear n0_ n1_;clear ho hb hg hat))
  go_ret
  exact ⟨_,by first | rfl | (simp [errW_none,errW_some] <;> rfl) | (simp [*,errW_none,errW_some] <;> rfl),rs HO206,hs HB⟩
 rw [if_neg c2] at H;exact absurd H (by simp)
end Go.Proofs.Ytjpjikhokpfhmaa.PT

namespace Go.Proofs.Ytjpjikhokpfhmaa.PT
open Go.RowKit Go.Proofs.YtjpjikhokpfhmaaW.PrintWords Go.Proofs.YtjpjikhokpfhmaaW.PrintLast Go.Proofs.YtjpjikhokpfhmaaW.PrintMore
attribute [local go_sem] max2_int min2_int max_two min_two max_three min_three max_four min_four   -- for this text's walks alone
set_option linter.unusedVariables false
set_option linter.unusedSimpArgs false
def impl_copyArena.l0 : Nat → List (S47) → Int → Int → List (S47) → Option ((List (S47)))
 | 0,_,_,_,_=>none
 | k + 1,x7,x8,x9,x210000=>if x9 < x8 then (if 0 ≤ x9 then (if x9 < (x7.length : Int) then ((impl_copyInts.f ((rd_T47 x7 x9).f1)).bind fun t212=>(if x210000.length < 4398046511104 then (impl_copyArena.l0 k x7 x8 (wrap64 (x9 + 1)) (x210000 ++ [(⟨(rd_T47 x7 x9).f0,t212⟩ : S47)])) else (none))) else (none)) else (none)) else (some x210000)
def impl_copyArena.f (k : Nat) (l0_0 : List (S47)) : Option ((List (S47))):=impl_copyArena.l0 k l0_0 (l0_0.length : Int) 0 ([] : List (S47))
theorem impl_copyArena.mono_l : ∀ k,(∀ y0 y1 y2 y3,LeO (impl_copyArena.l0 k y0 y1 y2 y3) (impl_copyArena.l0 (k + 1) y0 y1 y2 y3))
 | 0=>fun _ _ _ _ r h=>by simp [impl_copyArena.l0] at h
 | k + 1=>by
  have ih0:=impl_copyArena.mono_l k;intro y0 y1 y2 y3;unfold impl_copyArena.l0
  repeat' first
  | (with_reducible exact ih0 _ _ _ _)
  | (with_reducible exact LeO.refl _)
  | (with_reducible exact LeO.none _)
  | (with_reducible refine LeO.ite ?_ ?_)
  | (with_reducible refine LeO.bind ?_ (fun _=>?_))
  | exact ih0 _ _ _ _
  | exact LeO.none _
  | refine LeO.ite ?_ ?_
  | refine LeO.bind ?_ (fun _=>?_)
theorem impl_copyArena.mono : ∀ a0 k,LeO (impl_copyArena.f k a0) (impl_copyArena.f (k + 1) a0):=by
 intro a0 k;have ih0:=impl_copyArena.mono_l k;unfold impl_copyArena.f
 repeat' first
   | (with_reducible exact ih0 _ _ _ _)
   | (with_reducible exact LeO.refl _)
   | (with_reducible exact LeO.none _)
   | (with_reducible refine LeO.ite ?_ ?_)
   | (with_reducible refine LeO.bind ?_ (fun _=>?_))
   | exact ih0 _ _ _ _
   | exact LeO.none _
   | refine LeO.ite ?_ ?_
   | refine LeO.bind ?_ (fun _=>?_)
set_option maxHeartbeats 8000000 in
set_option maxRecDepth 100000 in
theorem impl_copyArena.calls (k : Nat) (A0_0 : Option Addr) (c0_0 : Nat) (l0_0 : List (S47)) (r : List (S47)) (w : World) (hr0_0 : Kd.C k47 w A0_0 l0_0.length l0_0) (hc0_0 : l0_0.length ≤ c0_0) (h : impl_copyArena.f k l0_0 = some r) :
  Calls Try.prog 23 #[.agg #[.slice A0_0 l0_0.length c0_0]] w fun e w'=>∃ v0_ : Value,e = .returned (.agg #[v0_]) ∧ Kd.S k47 47 w' w.heap.size (fun _=>True) v0_ r ∧ Below w.heap.size w w':=by
 have hu26:=Try.underlying26;have hu47:=Try.underlying47;have HR0_0:=Aside0.mk hr0_0;have HC0_0:=Aside0.mk hc0_0;clear hr0_0 hc0_0;have HB:=Aside0.mk (Below.refl w.heap.size w);have H : (impl_copyArena.l0 k l0_0 (l0_0.length : Int) 0 ([] : List (S47))) = some r:=h;clear h;have H':=Aside0.mk H;clear H
 go_enter Try.func23,Try.ntmps23
 go_wp2_with (first | ((with_reducible refine gate_dst (N:=1) rfl ?_);refine box_event ?hg (N:=1) ?hd (cs:=#[.slice A0_0 l0_0.length c0_0]) (t:=26) ?hr ?_;(case hd=>rfl);(case hg=>rfl);(case hr=>first | (go_simp;done) | (go_simp;rfl));intro gb207 hg w2 hbox hb;have n0_:=Aside0.mk (below_step (hs HB) hb);have n1_:=Aside0.mk (hbox);have n2_:=Aside0.mk ((by rw [hg];exact (below_size (hs HB)) : w.heap.size ≤ gb207));have n3_:=Aside0.mk ((by rw [hg];exact (below_size (hs HB)) : w.heap.size ≤ gb207));clear HB;have HB:=n0_;have BK207:=n1_;have GW207:=n2_;have GE207:=n3_;clear n0_ n1_ n2_ n3_;clear hb hbox hg) | ((with_reducible refine gate_dst (N:=2) rfl ?_);refine box_event ?hg (N:=2) ?hd (cs:=#[.slice none 0 0]) (t:=26) ?hr ?_;(case hd=>rfl);(case hg=>rfl);(case hr=>first | (go_simp;done) | (go_simp;rfl));intro gb208 hg w3 hbox hb;have n0_:=Aside0.mk (blk_below (g:=gb207) (o:=.cells #[.slice A0_0 l0_0.length c0_0] 26 (0,0)) (bs BK207) hb);have n1_:=Aside0.mk (below_step (hs1 HB GE207) hb);have n2_:=Aside0.mk (hbox);have n3_:=Aside0.mk ((by rw [hg];exact (below_size (hs1 HB GE207)) : w.heap.size ≤ gb208));have n4_:=Aside0.mk ((by rw [hg];exact (below_size (hs1 HB GE207)) : w.heap.size ≤ gb208));have n5_:=Aside0.mk ((by rw [hg];exact Nat.ne_of_lt (blk_lt (g:=gb207) (o:=.cells #[.slice A0_0 l0_0.length c0_0] 26 (0,0)) (bs BK207)) : gb207 ≠ gb208));have n6_:=Aside0.mk ((by rw [hg];exact Nat.ne_of_gt (blk_lt (g:=gb207) (o:=.cells #[.slice A0_0 l0_0.length c0_0] 26 (0,0)) (bs BK207)) : gb208 ≠ gb207));clear BK207;clear HB;have BK207:=n0_;have HB:=n1_;have BK208:=n2_;have GW208:=n3_;have GE208:=n4_;have NB207_208:=n5_;have NB208_207:=n6_;clear n0_ n1_ n2_ n3_ n4_ n5_ n6_;clear hb hbox hg) | ((with_reducible refine gate_dst (N:=3) rfl ?_);refine box_event ?hg (N:=3) ?hd (cs:=#[.slice none 0 0]) (t:=26) ?hr ?_;(case hd=>rfl);(case hg=>rfl);(case hr=>first | (go_simp;done) | (go_simp;rfl));intro gb209 hg w4 hbox hb;have n0_:=Aside0.mk (blk_below (g:=gb207) (o:=.cells #[.slice A0_0 l0_0.length c0_0] 26 (0,0)) (bs BK207) hb);have n1_:=Aside0.mk (blk_below (g:=gb208) (o:=.cells #[.slice none 0 0] 26 (0,0)) (bs BK208) hb);have n2_:=Aside0.mk (below_step (hs2 HB GE207 GE208) hb);have n3_:=Aside0.mk (hbox);have n4_:=Aside0.mk ((by rw [hg];exact (below_size (hs2 HB GE207 GE208)) : w.heap.size ≤ gb209));have n5_:=Aside0.mk ((by rw [hg];exact (below_size (hs2 HB GE207 GE208)) : w.heap.size ≤ gb209));have n6_:=Aside0.mk ((by rw [hg];exact Nat.ne_of_lt (blk_lt (g:=gb207) (o:=.cells #[.slice A0_0 l0_0.length c0_0] 26 (0,0)) (bs BK207)) : gb207 ≠ gb209));have n7_:=Aside0.mk ((by rw [hg];exact Nat.ne_of_gt (blk_lt (g:=gb207) (o:=.cells #[.slice A0_0 l0_0.length c0_0] 26 (0,0)) (bs BK207)) : gb209 ≠ gb207));have n8_:=Aside0.mk ((by rw [hg];exact Nat.ne_of_lt (blk_lt (g:=gb208) (o:=.cells #[.slice none 0 0] 26 (0,0)) (bs BK208)) : gb208 ≠ gb209));have n9_:=Aside0.mk ((by rw [hg];exact Nat.ne_of_gt (blk_lt (g:=gb208) (o:=.cells #[.slice none 0 0] 26 (0,0)) (bs BK208)) : gb209 ≠ gb208));clear BK207;clear BK208;clear HB;have BK207:=n0_;have BK208:=n1_;have HB:=n2_;have BK209:=n3_;have GW209:=n4_;have GE209:=n5_;have NB207_209:=n6_;have NB209_207:=n7_;have NB208_209:=n8_;have NB209_208:=n9_;clear n0_ n1_ n2_ n3_ n4_ n5_ n6_ n7_ n8_ n9_;clear hb hbox hg;have hnb5:=NB207_208.out;have hnc5:=NB208_207.out;have hnb6:=NB207_209.out;have hnc6:=NB209_207.out;have hcz7_0 : w4.cell? ⟨gb207,0,none⟩ = some (.slice A0_0 l0_0.length c0_0):=(blk_cell BK207.out 0).trans rfl;have hfz7_0:=blk_frozen BK207.out 0));go_loopg [9] k (fun kq v9 w'=>∃ (x9_1 : Int) (x210000_1 : List (S47)) (u210000 : Value),v9 = .int .i64 x9_1 ∧ Aside0 (impl_copyArena.l0 kq l0_0 (l0_0.length : Int) x9_1 x210000_1 = some r) ∧ Aside0 (kq ≤ k) ∧ Aside0 (Kd.S k47 47 w' w.heap.size (fun _=>True) u210000 x210000_1) ∧ Aside0 (w'.heap[gb207]? = some (.cells #[(.slice A0_0 l0_0.length c0_0)] 26 (0,0))) ∧ Aside0 (w'.heap[gb208]? = some (.cells #[(.slice none 0 0)] 26 (0,0))) ∧ Aside0 (w'.heap[gb209]? = some (.cells #[u210000] 26 (0,0))) ∧ Aside0 (Below w.heap.size w w'));case atStart=>exact ⟨(0),(([] : List (S47))),(.slice none 0 0),(by first | rfl | (simp;done) | (simp [*];done)),H',⟨Nat.le_refl _⟩,⟨by first | exact Kd.S_nil _ _ _ _ _ | exact Kd.N_nil _ _ _ _ _ | exact Kd.V_nil _ _ _ _ _ | exact Kd.Q_nil _ _ _ _ _ | exact Kd.R_nil _ _ _ _ _⟩,⟨bs BK207⟩,⟨bs BK208⟩,⟨bs BK209⟩,⟨hs3 HB GE207 GE208 GE209⟩⟩
 case round =>
  clear H'
  try clear c2
  try clear p2
  try clear c5
  try clear c6
  try clear hcz7_0
  try clear hfz7_0
  obtain ⟨x9_1,x210000_1,u210000,rfl,HA,HK1,HO_210000,BK207,BK208,BK209,HB⟩:=hrel;cases gk with
  | zero=>exact absurd HA.out (by simp [impl_copyArena.l0])
  | succ k1 =>
   have H:=HA.out;clear HA;simp only [impl_copyArena.l0] at H
   by_cases c8 : x9_1 < (l0_0.length : Int)
   ·rw [if_pos c8] at H;have c8b0 : decide (x9_1 < (l0_0.length : Int)) = true:=decide_eq_true c8;clear c8
    by_cases c9 : 0 ≤ x9_1
    ·rw [if_pos c9] at H;have c9b0 : decide (0 ≤ x9_1) = true:=decide_eq_true c9;clear c9
     by_cases c10 : x9_1 < (l0_0.length : Int)
     ·rw [if_pos c10] at H;have c10b0 : decide (x9_1 < (l0_0.length : Int)) = true:=decide_eq_true c10;clear c10;replace H:=Option.bind_eq_some_iff.mp H;obtain ⟨t212,A110,H⟩:=H;replace H : (if x210000_1.length < 4398046511104 then (impl_copyArena.l0 k1 l0_0 (l0_0.length : Int) (wrap64 (x9_1 + 1)) (x210000_1 ++ [(⟨(rd_T47 l0_0 x9_1).f0,t212⟩ : S47)])) else (none)) = some r:=H;have A11:=Aside0.mk A110;clear A110
      by_cases c12 : x210000_1.length < 4398046511104
      ·rw [if_pos c12] at H;have LMc12:=Aside0.mk c12;clear c12;obtain ⟨y215,hy215⟩ : ∃ y_ : List (S47),y_ = (x210000_1 ++ [(⟨(rd_T47 l0_0 x9_1).f0,t212⟩ : S47)]):=⟨_,rfl⟩;replace H : (impl_copyArena.l0 k1 l0_0 (l0_0.length : Int) (wrap64 (x9_1 + 1)) y215) = some r:=by first | (rw [hy215];with_reducible exact H) | (have H2_:=(Option.bind_some _ _).symm.trans H;rw [hy215];with_reducible exact H2_) | (have H2_:=(Option.bind_some _ _).symm.trans H;with_reducible exact H2_) | with_reducible exact H | (rw [hy215];exact H) | exact H
       have Ny215:=Aside0.mk hy215;clear hy215;have H':=Aside0.mk H;clear H;have p210 : 0 ≤ (x9_1 : Int):=of_decide_eq_true (by first | (with_reducible assumption) | assumption);have q210 : x9_1 < (l0_0.length : Int):=of_decide_eq_true (by first | (with_reducible assumption) | assumption);obtain ⟨ad210,A210_1,c210_1,e210,hx210_0,hx210_1,hl210_1,hi210_1⟩:=at_T47 HR0_0.out x9_1 p210 q210;cases e210;replace hx210_0:=(HB.out.cell (World.block_lt_of_cell? w _ hx210_0)).trans hx210_0;replace hx210_1:=(HB.out.cell (World.block_lt_of_cell? w _ hx210_1)).trans hx210_1;have HR210_1:=Aside0.mk hi210_1;have HC210_1:=Aside0.mk hl210_1;clear hi210_1 hl210_1;replace p210:=eq_true p210;replace q210:=eq_true q210;go_wp2_with (first | ((with_reducible refine gate_dst (N:=5) rfl ?_);refine box_event ?hg (N:=5) ?hd (cs:=#[.bool false,.slice none 0 0]) (t:=47) ?hr ?_;(case hd=>rfl);(case hg=>rfl);(case hr=>first | (go_simp;done) | (go_simp;rfl));intro gb211 hg w13 hbox hb;have n0_:=Aside0.mk (Kd.S_below (Kd.S_elderB (ss HO_210000) gb211 (Nat.le_of_eq hg.symm)) hb);have n1_:=Aside0.mk (blk_below (g:=gb207) (o:=.cells #[.slice (some ad210) l0_0.length c0_0] 26 (0,0)) (bs BK207) hb);have n2_:=Aside0.mk (blk_below (g:=gb208) (o:=.cells #[.slice none 0 0] 26 (0,0)) (bs BK208) hb);have n3_:=Aside0.mk (blk_below (g:=gb209) (o:=.cells #[u210000] 26 (0,0)) (bs BK209) hb);have n4_:=Aside0.mk (below_step (hs3 HB GE207 GE208 GE209) hb);have n5_:=Aside0.mk (hbox);have n6_:=Aside0.mk ((by rw [hg];exact (below_size (hs3 HB GE207 GE208 GE209)) : w.heap.size ≤ gb211));have n7_:=Aside0.mk ((by rw [hg];exact (below_size (hs3 HB GE207 GE208 GE209)) : w.heap.size ≤ gb211));have n8_:=Aside0.mk ((by rw [hg];exact Nat.ne_of_lt (blk_lt (g:=gb207) (o:=.cells #[.slice (some ad210) l0_0.length c0_0] 26 (0,0)) (bs BK207)) : gb207 ≠ gb211));have n9_:=Aside0.mk ((by rw [hg];exact Nat.ne_of_gt (blk_lt (g:=gb207) (o:=.cells #[.slice (some ad210) l0_0.length c0_0] 26 (0,0)) (bs BK207)) : gb211 ≠ gb207));have n10_:=Aside0.mk ((by rw [hg];exact Nat.ne_of_lt (blk_lt (g:=gb208) (o:=.cells #[.slice none 0 0] 26 (0,0)) (bs BK208)) : gb208 ≠ gb211));have n11_:=Aside0.mk ((by rw [hg];exact Nat.ne_of_gt (blk_lt (g:=gb208) (o:=.cells #[.slice none 0 0] 26 (0,0)) (bs BK208)) : gb211 ≠ gb208));have n12_:=Aside0.mk ((by rw [hg];exact Nat.ne_of_lt (blk_lt (g:=gb209) (o:=.cells #[u210000] 26 (0,0)) (bs BK209)) : gb209 ≠ gb211));have n13_:=Aside0.mk ((by rw [hg];exact Nat.ne_of_gt (blk_lt (g:=gb209) (o:=.cells #[u210000] 26 (0,0)) (bs BK209)) : gb211 ≠ gb209));clear HO_210000;clear BK207;clear BK208;clear BK209;clear HB;have HO_210000:=n0_;have BK207:=n1_;have BK208:=n2_;have BK209:=n3_;have HB:=n4_;have BK211:=n5_;have GW211:=n6_;have GE211:=n7_;have NB207_211:=n8_;have NB211_207:=n9_;have NB208_211:=n10_;have NB211_208:=n11_;have NB209_211:=n12_;have NB211_209:=n13_;clear n0_ n1_ n2_ n3_ n4_ n5_ n6_ n7_ n8_ n9_ n10_ n11_ n12_ n13_;clear hb hbox hg;have hnb14:=NB211_207.out;have hnc14:=NB207_211.out;have hnb15:=NB211_208.out;have hnc15:=NB208_211.out;have hnb16:=NB211_209.out;have hnc16:=NB209_211.out;have hcz17_0 : w13.cell? ⟨gb211,0,none⟩ = some (.bool false):=(blk_cell BK211.out 0).trans rfl;have hcz17_1 : w13.cell? ⟨gb211,1,none⟩ = some (.slice none 0 0):=(blk_cell BK211.out 1).trans rfl;have hfz17_0:=blk_frozen BK211.out 0;have hfz17_1:=blk_frozen BK211.out 1) | ((with_reducible refine gate_callee (f:=26) rfl ?_);refine goesL_ (some 15) rfl rfl Try.func26 (by kernel_rfl) rfl #[.slice A210_1 ((rd_T47 l0_0 x9_1).f1).length c210_1] rfl (by (try simp only [List.map_toArray,List.map_cons,List.map_nil]);first | done | rfl | (simp only [List.length_drop,List.length_take];rfl)) ?_;(with_reducible refine (impl_copyInts.calls _ _ ((rd_T47 l0_0 x9_1).f1) t212 _ ?side1 ?side2 A11.out).mono ?_);(case side1=>exact Kd.C_below HR210_1.out (hs4 HB GE207 GE208 GE209 GE211));(case side2=>exact HC210_1.out);rintro e w18 ⟨v213,rfl,ho0,hb⟩;refine ⟨_,rfl,?_⟩;have n0_:=Aside0.mk (Kd.S_elder' (by (with_reducible repeat (first | apply Kd.S_alloc | apply Kd.S_drewN | apply Kd.S_drew));exact (Kd.S_mono (Kd.S_far (p:=⟨gb211,1,none⟩) (Kd.S_far (p:=⟨gb211,0,none⟩) (Kd.S_mono HO_210000.out (fun k_ hk=>(⟨hk,hk.2⟩ : _ ∧ k_ ≠ gb211))) (fun _ hk=>hk.2) (.bool ((rd_T47 l0_0 x9_1).f0))) (fun _ hk=>hk.2) (.slice A210_1 ((rd_T47 l0_0 x9_1).f1).length c210_1)) (fun _ h_=>h_.1))) (Kd.R_base ho0) hb);have n1_:=Aside0.mk (Kd.R_lower ho0 (below_size (hs4 HB GE207 GE208 GE209 GE211)));have n2_:=Aside0.mk (blk_below (g:=gb207) (o:=.cells #[.slice (some ad210) l0_0.length c0_0] 26 (0,0)) (by (with_reducible repeat (first | refine blk_drewN ?_ _ | refine blk_drew ?_ | refine blk_alloc ?_ _));refine blk_far ?_ NB207_211.out _;(with_reducible repeat (first | refine blk_drewN ?_ _ | refine blk_drew ?_ | refine blk_alloc ?_ _));refine blk_far ?_ NB207_211.out _;(with_reducible repeat (first | refine blk_drewN ?_ _ | refine blk_drew ?_ | refine blk_alloc ?_ _));exact BK207.out) hb);have n3_:=Aside0.mk (blk_below (g:=gb208) (o:=.cells #[.slice none 0 0] 26 (0,0)) (by (with_reducible repeat (first | refine blk_drewN ?_ _ | refine blk_drew ?_ | refine blk_alloc ?_ _));refine blk_far ?_ NB208_211.out _;(with_reducible repeat (first | refine blk_drewN ?_ _ | refine blk_drew ?_ | refine blk_alloc ?_ _));refine blk_far ?_ NB208_211.out _;(with_reducible repeat (first | refine blk_drewN ?_ _ | refine blk_drew ?_ | refine blk_alloc ?_ _));exact BK208.out) hb);have n4_:=Aside0.mk (blk_below (g:=gb209) (o:=.cells #[u210000] 26 (0,0)) (by (with_reducible repeat (first | refine blk_drewN ?_ _ | refine blk_drew ?_ | refine blk_alloc ?_ _));refine blk_far ?_ NB209_211.out _;(with_reducible repeat (first | refine blk_drewN ?_ _ | refine blk_drew ?_ | refine blk_alloc ?_ _));refine blk_far ?_ NB209_211.out _;(with_reducible repeat (first | refine blk_drewN ?_ _ | refine blk_drew ?_ | refine blk_alloc ?_ _));exact BK209.out) hb);have n5_:=Aside0.mk (blk_below (g:=gb211) (o:=.cells #[.bool ((rd_T47 l0_0 x9_1).f0),.slice A210_1 ((rd_T47 l0_0 x9_1).f1).length c210_1] 47 (0,0)) (by (with_reducible repeat (first | refine blk_drewN ?_ _ | refine blk_drew ?_ | refine blk_alloc ?_ _));refine blk_put (cs:=#[.bool ((rd_T47 l0_0 x9_1).f0),.slice none 0 0]) ?_ 1 _ rfl;(with_reducible repeat (first | refine blk_drewN ?_ _ | refine blk_drew ?_ | refine blk_alloc ?_ _));refine blk_put (cs:=#[.bool false,.slice none 0 0]) ?_ 0 _ rfl;(with_reducible repeat (first | refine blk_drewN ?_ _ | refine blk_drew ?_ | refine blk_alloc ?_ _));exact BK211.out) hb);have n6_:=Aside0.mk (below_step (hs4 HB GE207 GE208 GE209 GE211) hb);clear HO_210000;clear BK207;clear BK208;clear BK209;clear BK211;clear HB;have HO_210000:=n0_;have HO214:=n1_;have BK207:=n2_;have BK208:=n3_;have BK209:=n4_;have BK211:=n5_;have HB:=n6_;clear n0_ n1_ n2_ n3_ n4_ n5_ n6_;(try clear hb);(try clear hb2);(try clear hk);(try clear hi);(try clear ho0);obtain ⟨Ao19,co19,eo19⟩:=Kd.R_slice HO214.out;subst eo19;have hcz20_0 : w18.cell? ⟨gb211,0,none⟩ = some (.bool ((rd_T47 l0_0 x9_1).f0)):=(blk_cell BK211.out 0).trans rfl;have hcz20_1 : w18.cell? ⟨gb211,1,none⟩ = some (.slice A210_1 ((rd_T47 l0_0 x9_1).f1).length c210_1):=(blk_cell BK211.out 1).trans rfl;have hfz20_0:=blk_frozen BK211.out 0;have hfz20_1:=blk_frozen BK211.out 1) | ((with_reducible refine gate_store (t:=27) (p:=16) rfl ?_);refine store_event (t:=27) (p:=16) (v:=?vo_w21) (w1:=(w18.setCell ⟨gb211,1,none⟩ (.slice Ao19 t212.length co19))) ?hg ?ho ?hn ?hr ?_;(case ho=>rfl);(case hg=>rfl);(case hn=>rfl);(case hr=>first | (go_simp;done) | (go_simp;rfl));intro w21 hw;have n0_ : Aside0 (Kd.S k47 47 w21 w.heap.size (fun k_=>some k_ ≠ (.slice Ao19 t212.length co19 : Value).ownBlock ∧ k_ ≠ gb211) u210000 x210000_1):=⟨(by rw [hw];exact (by (with_reducible repeat (first | apply Kd.S_alloc | apply Kd.S_drewN | apply Kd.S_drew));exact Kd.S_mono (Kd.S_far (p:=⟨gb211,1,none⟩) (Kd.S_mono HO_210000.out (fun k_ hk=>(⟨hk,hk.1.2⟩ : _ ∧ k_ ≠ gb211))) (fun _ hk=>hk.2) (.slice Ao19 t212.length co19)) (fun _ hk=>⟨hk.1.2,hk.1.1.2⟩)))⟩;have n1_ : Aside0 (Kd.R (Kd.int .i64) 3 w21 w.heap.size (fun _=>True) (.slice Ao19 t212.length co19) t212):=⟨(by rw [hw];exact (by (with_reducible repeat (first | apply Kd.R_alloc | apply Kd.R_drewN | apply Kd.R_drew));exact Kd.R_mono (Kd.R_far (p:=⟨gb211,1,none⟩) (Kd.R_types HO214.out BK211.out (by decide)) (fun _ hk=>hk.2) (.slice Ao19 t212.length co19)) (fun _ hk=>trivial)))⟩;have n2_ : Aside0 (w21.heap[gb207]? = some (.cells #[.slice (some ad210) l0_0.length c0_0] 26 (0,0))):=⟨(by rw [hw];exact (by (with_reducible repeat (first | refine blk_drewN ?_ _ | refine blk_drew ?_ | refine blk_alloc ?_ _));refine blk_far ?_ NB207_211.out _;(with_reducible repeat (first | refine blk_drewN ?_ _ | refine blk_drew ?_ | refine blk_alloc ?_ _));exact BK207.out))⟩;have n3_ : Aside0 (w21.heap[gb208]? = some (.cells #[.slice none 0 0] 26 (0,0))):=⟨(by rw [hw];exact (by (with_reducible repeat (first | refine blk_drewN ?_ _ | refine blk_drew ?_ | refine blk_alloc ?_ _));refine blk_far ?_ NB208_211.out _;(with_reducible repeat (first | refine blk_drewN ?_ _ | refine blk_drew ?_ | refine blk_alloc ?_ _));exact BK208.out))⟩;have n4_ : Aside0 (w21.heap[gb209]? = some (.cells #[u210000] 26 (0,0))):=⟨(by rw [hw];exact (by (with_reducible repeat (first | refine blk_drewN ?_ _ | refine blk_drew ?_ | refine blk_alloc ?_ _));refine blk_far ?_ NB209_211.out _;(with_reducible repeat (first | refine blk_drewN ?_ _ | refine blk_drew ?_ | refine blk_alloc ?_ _));exact BK209.out))⟩;have n5_ : Aside0 (w21.heap[gb211]? = some (.cells #[.bool ((rd_T47 l0_0 x9_1).f0),.slice Ao19 t212.length co19] 47 (0,0))):=⟨(by rw [hw];exact (by (with_reducible repeat (first | refine blk_drewN ?_ _ | refine blk_drew ?_ | refine blk_alloc ?_ _));refine blk_put (cs:=#[.bool ((rd_T47 l0_0 x9_1).f0),.slice A210_1 ((rd_T47 l0_0 x9_1).f1).length c210_1]) ?_ 1 _ rfl;(with_reducible repeat (first | refine blk_drewN ?_ _ | refine blk_drew ?_ | refine blk_alloc ?_ _));exact BK211.out))⟩;have n6_ : Aside0 (Below w.heap.size w w21):=⟨(by rw [hw];exact (hs4 HB GE207 GE208 GE209 GE211))⟩;clear hw;clear HO_210000;clear HO214;clear BK207;clear BK208;clear BK209;clear BK211;clear HB;have HO_210000:=n0_;have HO214:=n1_;have BK207:=n2_;have BK208:=n3_;have BK209:=n4_;have BK211:=n5_;have HB:=n6_;clear n0_ n1_ n2_ n3_ n4_ n5_ n6_;have hnb22:=NB209_207.out;have hnc22:=NB207_209.out;have hnb23:=NB209_208.out;have hnc23:=NB208_209.out;have hcz24_0 : w21.cell? ⟨gb209,0,none⟩ = some (u210000):=(blk_cell BK209.out 0).trans rfl;have hfz24_0:=blk_frozen BK209.out 0;have hcz25_0 : w21.cell? ⟨gb211,0,none⟩ = some (.bool ((rd_T47 l0_0 x9_1).f0)):=(blk_cell BK211.out 0).trans rfl;have hcz25_1 : w21.cell? ⟨gb211,1,none⟩ = some (.slice Ao19 t212.length co19):=(blk_cell BK211.out 1).trans rfl;have hfz25_0:=blk_frozen BK211.out 0;have hfz25_1:=blk_frozen BK211.out 1) | ((with_reducible refine gate_builtin (b:=.append) (xs:=#[.tmp 18,.tmp 20]) rfl ?_);at_builtin;refine Kd.S_append k47 (w0:=w) w.heap.size rfl (.tmp 18) (.tmp 20) 24 47 (.agg #[(.bool false),(.slice none 0 0)]) 32 rfl Try.underlying24 info47 rfl (by decide) (by omega) u210000 x210000_1 (⟨(rd_T47 l0_0 x9_1).f0,t212⟩ : S47) [.bool ((rd_T47 l0_0 x9_1).f0),.slice Ao19 t212.length co19] (fun k_=>k_ ≠ gb211) (fun k_=>some k_ = (.slice Ao19 t212.length co19 : Value).ownBlock) rfl rfl ?aP (fun k_ hk_=>((Kd.R_mono (ok':=fun k_=>((fun k_=>k_ ≠ gb211)) k_ ∧ some k_ ≠ (u210000 : Value).ownBlock) (Kd.R_types (Kd.R_apart' (HO214.out) (Kd.S_typed HO_210000.out) (by decide)) BK211.out (by decide)) (fun k_ hk=>⟨hk.2,hk.1.2⟩))).1 k_ hk_.symm) ?aF ?aO ?aB ?aS ?aL ?_;(case aP=>exact k47_mkM _ _ _ (⟨(rd_T47 l0_0 x9_1).f0,t212⟩ : S47) (Kd.R_mono (Kd.R_tight rfl (Kd.R_mono (ok':=fun k_=>((fun k_=>k_ ≠ gb211)) k_ ∧ some k_ ≠ (u210000 : Value).ownBlock) (Kd.R_types (Kd.R_apart' (HO214.out) (Kd.S_typed HO_210000.out) (by decide)) BK211.out (by decide)) (fun k_ hk=>⟨hk.2,hk.1.2⟩))) (fun _ h_=>h_)));(case aB=>exact (hs4 HB GE207 GE208 GE209 GE211));(case aF=>exact (fun k_ hk=>Kd.freshB (g:=gb211) (o:=.cells #[.bool ((rd_T47 l0_0 x9_1).f0),.slice Ao19 t212.length co19] 47 (0,0)) (bs BK211) k_ hk));(case aO=>exact (by (with_reducible repeat (first | apply Kd.S_alloc | apply Kd.S_drewN | apply Kd.S_drew));exact Kd.S_mono HO_210000.out (fun k_ hk=>⟨hk.2,fun e_=>hk.1 e_⟩)));(case aS=>exact (below_size (hs4 HB GE207 GE208 GE209 GE211)));(case aL=>have:=LMc12.out;omega);intro v216 w26 ho hb hg hat;rw [← Ny215.out] at ho;have n0_:=Aside0.mk (blk_grown (g:=gb207) (o:=.cells #[.slice (some ad210) l0_0.length c0_0] 26 (0,0)) (bs BK207) hg (Kd.S_ne HO_210000.out BK207.out (by decide)));have n1_:=Aside0.mk (blk_grown (g:=gb208) (o:=.cells #[.slice none 0 0] 26 (0,0)) (bs BK208) hg (Kd.S_ne HO_210000.out BK208.out (by decide)));have n2_:=Aside0.mk (blk_grown (g:=gb209) (o:=.cells #[u210000] 26 (0,0)) (bs BK209) hg (Kd.S_ne HO_210000.out BK209.out (by decide)));have n3_:=Aside0.mk (blk_grown (g:=gb211) (o:=.cells #[.bool ((rd_T47 l0_0 x9_1).f0),.slice Ao19 t212.length co19] 47 (0,0)) (bs BK211) hg (Kd.S_away HO_210000.out (fun _ hk=>hk.2)));have n4_:=Aside0.mk (hb);have n5_:=Aside0.mk (ho);clear BK207;clear BK208;clear BK209;clear BK211;clear HB;clear HO_210000;clear HO214;have BK207:=n0_;have BK208:=n1_;have BK209:=n2_;have BK211:=n3_;have HB:=n4_;have HO217:=n5_;clear n0_ n1_ n2_ n3_ n4_ n5_;clear ho hb hg hat;obtain ⟨Ao27,co27,eo27⟩:=Kd.S_slice HO217.out;subst eo27;have hcz28_0 : w26.cell? ⟨gb209,0,none⟩ = some (u210000):=(blk_cell BK209.out 0).trans rfl;have hfz28_0:=blk_frozen BK209.out 0));go_roundg k1;case measure=>have:=HK1.out;omega
       case rel=>exact ⟨(wrap64 (x9_1 + 1)),(y215),(.slice Ao27 y215.length co27),(by first | rfl | (simp;done) | (simp [*];done)),H',⟨by have:=HK1.out;omega⟩,⟨by (with_reducible repeat (first | apply Kd.S_alloc | apply Kd.S_drewN | apply Kd.S_drew));exact Kd.S_mono (Kd.S_far (p:=⟨gb209,0,none⟩) (Kd.S_types HO217.out BK209.out (by decide)) (fun _ hk=>hk.2) (.slice Ao27 y215.length co27)) (fun _ hk=>trivial)⟩,⟨by (with_reducible repeat (first | refine blk_drewN ?_ _ | refine blk_drew ?_ | refine blk_alloc ?_ _));refine blk_far ?_ NB207_209.out _;(with_reducible repeat (first | refine blk_drewN ?_ _ | refine blk_drew ?_ | refine blk_alloc ?_ _));exact BK207.out⟩,⟨by (with_reducible repeat (first | refine blk_drewN ?_ _ | refine blk_drew ?_ | refine blk_alloc ?_ _));refine blk_far ?_ NB208_209.out _;(with_reducible repeat (first | refine blk_drewN ?_ _ | refine blk_drew ?_ | refine blk_alloc ?_ _));exact BK208.out⟩,⟨by (with_reducible repeat (first | refine blk_drewN ?_ _ | refine blk_drew ?_ | refine blk_alloc ?_ _));refine blk_put (cs:=#[u210000]) ?_ 0 _ rfl;(with_reducible repeat (first | refine blk_drewN ?_ _ | refine blk_drew ?_ | refine blk_alloc ?_ _));exact BK209.out⟩,⟨hs4 HB GE207 GE208 GE209 GE211⟩⟩
      rw [if_neg c12] at H;exact absurd H (by simp)
     rw [if_neg c10] at H;exact absurd H (by simp)
    rw [if_neg c9] at H;exact absurd H (by simp)
   rw [if_neg c8] at H;have c8b0 : decide (x9_1 < (l0_0.length : Int)) = false:=decide_eq_false c8;clear c8;obtain rfl:=Option.some.inj H;have hnb29:=NB209_207.out;have hnc29:=NB207_209.out;have hnb30:=NB209_208.out;have hnc30:=NB208_209.out;have hcz31_0 : wr.cell? ⟨gb209,0,none⟩ = some (u210000):=(blk_cell BK209.out 0).trans rfl;have hfz31_0:=blk_frozen BK209.out 0;obtain ⟨Ao32,co32,eo32⟩:=Kd.S_slice HO_210000.out;subst eo32;have hnb33:=NB208_207.out;have hnc33:=NB207_208.out;have hcz34_0 : wr.cell? ⟨gb208,0,none⟩ = some (.slice none 0 0):=(blk_cell BK208.out 0).trans rfl;have hfz34_0:=blk_frozen BK208.out 0
   go_wp2
   refine bodyPost_ret (results_cell_row rfl _ _ gb208 26 #[.slice Ao32 x210000_1.length co32] (0,0) _ rfl (by (with_reducible repeat (first | refine blk_drewN ?_ _ | refine blk_drew ?_ | refine blk_alloc ?_ _));refine blk_put (cs:=#[.slice none 0 0]) ?_ 0 _ rfl;(with_reducible repeat (first | refine blk_drewN ?_ _ | refine blk_drew ?_ | refine blk_alloc ?_ _));exact BK208.out) Try.underlying26 rfl (by kernel_rfl)) rfl ?_;exact ⟨_,by first | rfl | (simp [errW_none,errW_some] <;> rfl) | (simp [*,errW_none,errW_some] <;> rfl),by (with_reducible repeat (first | apply Kd.S_alloc | apply Kd.S_drewN | apply Kd.S_drew));exact Kd.S_mono (Kd.S_far (p:=⟨gb208,0,none⟩) (Kd.S_types HO_210000.out BK208.out (by decide)) (fun _ hk=>hk.2) (.slice Ao32 x210000_1.length co32)) (fun _ hk=>trivial),hs3 HB GE207 GE208 GE209⟩
end Go.Proofs.Ytjpjikhokpfhmaa.PT
