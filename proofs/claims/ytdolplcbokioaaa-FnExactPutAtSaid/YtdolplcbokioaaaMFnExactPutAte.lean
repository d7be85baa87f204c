/- FnExactPutAt: functions of the translation as Lean functions with what their calls come to, plain lemmas on them, and, at the end, the row. Parts of one proof, merged by a program of this session; each part's own sentence stands at its head. -/
import Derived.ChangeArms
import Derived.DataReads
import Derived.Test.YtdolplcbokioaaaMFnExactPutAtd
namespace Go.Proofs.Ytdolplcbokioaaa.PB
open Go.RowKit Go.Proofs.YtdolplcbokioaaaW.PrintWords Go.Proofs.YtdolplcbokioaaaW.PrintLast Go.Proofs.YtdolplcbokioaaaW.PrintMore
attribute [local go_sem] max2_int min2_int max_two min_two max_three min_three max_four min_four   -- for this text's walks alone
set_option linter.unusedVariables false
set_option linter.unusedSimpArgs false
def laws_toArena.f (k : Nat) (l0_0 : List (S175)) : Option ((List (S133))):=(laws_toKnotS.f k l0_0).bind fun t790=>(some t790)
theorem laws_toArena.mono : ∀ a0 k,LeO (laws_toArena.f k a0) (laws_toArena.f (k + 1) a0):=by
 intro a0 k;unfold laws_toArena.f
 repeat' first
   | (with_reducible exact laws_toKnotS.mono _ _)
   | (with_reducible exact LeO.refl _)
   | (with_reducible exact LeO.none _)
   | (with_reducible refine LeO.ite ?_ ?_)
   | (with_reducible refine LeO.bind ?_ (fun _=>?_))
   | exact laws_toKnotS.mono _ _
   | exact LeO.none _
   | refine LeO.ite ?_ ?_
   | refine LeO.bind ?_ (fun _=>?_)
set_option maxHeartbeats 8000000 in
set_option maxRecDepth 100000 in
theorem laws_toArena.calls (k : Nat) (A0_0 : Option Addr) (c0_0 : Nat) (l0_0 : List (S175)) (r : List (S133)) (w : World) (hr0_0 : Kd.C k175 w A0_0 l0_0.length l0_0) (hc0_0 : l0_0.length ≤ c0_0) (h : laws_toArena.f k l0_0 = some r) :
  Calls Try.prog 31 #[.agg #[.slice A0_0 l0_0.length c0_0]] w fun e w'=>∃ v0_ : Value,e = .returned (.agg #[v0_]) ∧ Kd.S k133 133 w' w.heap.size (fun _=>True) v0_ r ∧ Below w.heap.size w w':=by
 have hu53:=Try.underlying53;have hu44:=Try.underlying44;have HR0_0:=Aside0.mk hr0_0;have HC0_0:=Aside0.mk hc0_0;clear hr0_0 hc0_0;have HB:=Aside0.mk (Below.refl w.heap.size w);have H : ((laws_toKnotS.f k l0_0).bind fun t790=>(some t790)) = some r:=h;clear h;replace H:=Option.bind_eq_some_iff.mp H;obtain ⟨t790,A20,H⟩:=H;replace H : (some t790) = some r:=H;have A2:=Aside0.mk A20;clear A20;obtain rfl:=Option.some.inj H
 go_enter Try.func31,Try.ntmps31
 go_wp2_with (first | ((with_reducible refine gate_dst (N:=1) rfl ?_);refine box_event ?hg (N:=1) ?hd (cs:=#[.slice A0_0 l0_0.length c0_0]) (t:=53) ?hr ?_;(case hd=>rfl);(case hg=>rfl);(case hr=>first | (go_simp;done) | (go_simp;rfl));intro gb787 hg w3 hbox hb;have n0_:=Aside0.mk (below_step (hs HB) hb);have n1_:=Aside0.mk (hbox);have n2_:=Aside0.mk ((by rw [hg];exact (below_size (hs HB)) : w.heap.size ≤ gb787));have n3_:=Aside0.mk ((by rw [hg];exact (below_size (hs HB)) : w.heap.size ≤ gb787));clear HB;have HB:=n0_;have BK787:=n1_;have GW787:=n2_;have GE787:=n3_;clear n0_ n1_ n2_ n3_;clear hb hbox hg) | ((with_reducible refine gate_dst (N:=2) rfl ?_);refine box_event ?hg (N:=2) ?hd (cs:=#[.slice none 0 0]) (t:=44) ?hr ?_;(case hd=>rfl);(case hg=>rfl);(case hr=>first | (go_simp;done) | (go_simp;rfl));intro gb788 hg w4 hbox hb;have n0_:=Aside0.mk (blk_below (g:=gb787) (o:=.cells #[.slice A0_0 l0_0.length c0_0] 53 (0,0)) (bs BK787) hb);have n1_:=Aside0.mk (below_step (hs1 HB GE787) hb);have n2_:=Aside0.mk (hbox);have n3_:=Aside0.mk ((by rw [hg];exact (below_size (hs1 HB GE787)) : w.heap.size ≤ gb788));have n4_:=Aside0.mk ((by rw [hg];exact (below_size (hs1 HB GE787)) : w.heap.size ≤ gb788));have n5_:=Aside0.mk ((by rw [hg];exact Nat.ne_of_lt (blk_lt (g:=gb787) (o:=.cells #[.slice A0_0 l0_0.length c0_0] 53 (0,0)) (bs BK787)) : gb787 ≠ gb788));have n6_:=Aside0.mk ((by rw [hg];exact Nat.ne_of_gt (blk_lt (g:=gb787) (o:=.cells #[.slice A0_0 l0_0.length c0_0] 53 (0,0)) (bs BK787)) : gb788 ≠ gb787));clear BK787;clear HB;have BK787:=n0_;have HB:=n1_;have BK788:=n2_;have GW788:=n3_;have GE788:=n4_;have NB787_788:=n5_;have NB788_787:=n6_;clear n0_ n1_ n2_ n3_ n4_ n5_ n6_;clear hb hbox hg) | ((with_reducible refine gate_dst (N:=3) rfl ?_);refine box_event ?hg (N:=3) ?hd (cs:=#[.slice none 0 0]) (t:=44) ?hr ?_;(case hd=>rfl);(case hg=>rfl);(case hr=>first | (go_simp;done) | (go_simp;rfl));intro gb789 hg w5 hbox hb;have n0_:=Aside0.mk (blk_below (g:=gb787) (o:=.cells #[.slice A0_0 l0_0.length c0_0] 53 (0,0)) (bs BK787) hb);have n1_:=Aside0.mk (blk_below (g:=gb788) (o:=.cells #[.slice none 0 0] 44 (0,0)) (bs BK788) hb);have n2_:=Aside0.mk (below_step (hs2 HB GE787 GE788) hb);have n3_:=Aside0.mk (hbox);have n4_:=Aside0.mk ((by rw [hg];exact (below_size (hs2 HB GE787 GE788)) : w.heap.size ≤ gb789));have n5_:=Aside0.mk ((by rw [hg];exact (below_size (hs2 HB GE787 GE788)) : w.heap.size ≤ gb789));have n6_:=Aside0.mk ((by rw [hg];exact Nat.ne_of_lt (blk_lt (g:=gb787) (o:=.cells #[.slice A0_0 l0_0.length c0_0] 53 (0,0)) (bs BK787)) : gb787 ≠ gb789));have n7_:=Aside0.mk ((by rw [hg];exact Nat.ne_of_gt (blk_lt (g:=gb787) (o:=.cells #[.slice A0_0 l0_0.length c0_0] 53 (0,0)) (bs BK787)) : gb789 ≠ gb787));have n8_:=Aside0.mk ((by rw [hg];exact Nat.ne_of_lt (blk_lt (g:=gb788) (o:=.cells #[.slice none 0 0] 44 (0,0)) (bs BK788)) : gb788 ≠ gb789));have n9_:=Aside0.mk ((by rw [hg];exact Nat.ne_of_gt (blk_lt (g:=gb788) (o:=.cells #[.slice none 0 0] 44 (0,0)) (bs BK788)) : gb789 ≠ gb788));clear BK787;clear BK788;clear HB;have BK787:=n0_;have BK788:=n1_;have HB:=n2_;have BK789:=n3_;have GW789:=n4_;have GE789:=n5_;have NB787_789:=n6_;have NB789_787:=n7_;have NB788_789:=n8_;have NB789_788:=n9_;clear n0_ n1_ n2_ n3_ n4_ n5_ n6_ n7_ n8_ n9_;clear hb hbox hg;have hnb6:=NB787_788.out;have hnc6:=NB788_787.out;have hnb7:=NB787_789.out;have hnc7:=NB789_787.out;have hcz8_0 : w5.cell? ⟨gb787,0,none⟩ = some (.slice A0_0 l0_0.length c0_0):=(blk_cell BK787.out 0).trans rfl;have hfz8_0:=blk_frozen BK787.out 0) | ((with_reducible refine gate_callee (f:=101) rfl ?_);refine goesL_ (some 6) rfl rfl Try.func101 (by kernel_rfl) rfl #[.slice A0_0 l0_0.length c0_0] rfl (by (try simp only [List.map_toArray,List.map_cons,List.map_nil]);first | done | rfl | (simp only [List.length_drop,List.length_take];rfl)) ?_;(with_reducible refine (laws_toKnotS.calls k _ _ l0_0 t790 _ ?side1 ?side2 A2.out).mono ?_);(case side1=>repeat (first | exact (Kd.C_below HR0_0.out HB.out) | (with_reducible refine Kd.C_alloc ?_ _) | (with_reducible refine Kd.C_drewN ?_ _) | (with_reducible refine Kd.C_drew ?_)));(case side2=>exact HC0_0.out);rintro e w9 ⟨v791,rfl,ho0,hb⟩;refine ⟨_,rfl,?_⟩;have n0_:=Aside0.mk (Kd.S_lower ho0 (below_size (hs3 HB GE787 GE788 GE789)));have n1_:=Aside0.mk (blk_below (g:=gb787) (o:=.cells #[.slice A0_0 l0_0.length c0_0] 53 (0,0)) (bs BK787) hb);have n2_:=Aside0.mk (blk_below (g:=gb788) (o:=.cells #[.slice none 0 0] 44 (0,0)) (bs BK788) hb);have n3_:=Aside0.mk (blk_below (g:=gb789) (o:=.cells #[.slice none 0 0] 44 (0,0)) (bs BK789) hb);have n4_:=Aside0.mk (below_step (hs3 HB GE787 GE788 GE789) hb);clear BK787;clear BK788;clear BK789;clear HB;have HO792:=n0_;have BK787:=n1_;have BK788:=n2_;have BK789:=n3_;have HB:=n4_;clear n0_ n1_ n2_ n3_ n4_;(try clear hb);(try clear hb2);(try clear hk);(try clear hi);(try clear ho0);obtain ⟨Ao10,co10,eo10⟩:=Kd.S_slice HO792.out;subst eo10;have hnb11:=NB789_788.out;have hnc11:=NB788_789.out;have hcz12_0 : w9.cell? ⟨gb789,0,none⟩ = some (.slice none 0 0):=(blk_cell BK789.out 0).trans rfl;have hfz12_0:=blk_frozen BK789.out 0;have hcz13_0 : w9.cell? ⟨gb788,0,none⟩ = some (.slice none 0 0):=(blk_cell BK788.out 0).trans rfl;have hfz13_0:=blk_frozen BK788.out 0));refine bodyPost_ret (results_cell_row rfl _ _ gb788 44 #[.slice Ao10 t790.length co10] (0,0) _ rfl (by (with_reducible repeat (first | refine blk_drewN ?_ _ | refine blk_drew ?_ | refine blk_alloc ?_ _));refine blk_put (cs:=#[.slice none 0 0]) ?_ 0 _ rfl;(with_reducible repeat (first | refine blk_drewN ?_ _ | refine blk_drew ?_ | refine blk_alloc ?_ _));refine blk_far ?_ NB788_789.out _;(with_reducible repeat (first | refine blk_drewN ?_ _ | refine blk_drew ?_ | refine blk_alloc ?_ _));exact BK788.out) Try.underlying44 rfl (by kernel_rfl)) rfl ?_;exact ⟨_,by first | rfl | (simp [errW_none,errW_some] <;> rfl) | (simp [*,errW_none,errW_some] <;> rfl),by (with_reducible repeat (first | apply Kd.S_alloc | apply Kd.S_drewN | apply Kd.S_drew));exact Kd.S_mono (Kd.S_far (p:=⟨gb788,0,none⟩) (Kd.S_far (p:=⟨gb789,0,none⟩) (Kd.S_types (Kd.S_types HO792.out BK789.out (by decide)) BK788.out (by decide)) (fun _ hk=>hk.1.2) (.slice Ao10 t790.length co10)) (fun _ hk=>hk.2) (.slice Ao10 t790.length co10)) (fun _ hk=>trivial),hs3 HB GE787 GE788 GE789⟩
end Go.Proofs.Ytdolplcbokioaaa.PB

namespace Go.Proofs.Ytdolplcbokioaaa.PB
open Go.RowKit Go.Proofs.YtdolplcbokioaaaW.PrintWords Go.Proofs.YtdolplcbokioaaaW.PrintLast Go.Proofs.YtdolplcbokioaaaW.PrintMore
attribute [local go_sem] max2_int min2_int max_two min_two max_three min_three max_four min_four   -- for this text's walks alone
set_option linter.unusedVariables false
set_option linter.unusedSimpArgs false
def laws_eqIntS.l0 : Nat → List Int → List Int → Int → Option (Bool)
 | 0,_,_,_=>none
 | k + 1,x0,x1,x5=>if x5 < (x0.length : Int) then (if 0 ≤ x5 then (if x5 < (x1.length : Int) then (if (rd x0 x5) = (rd x1 x5) then (laws_eqIntS.l0 k x0 x1 (wrap64 (x5 + 1))) else (some false)) else (none)) else (none)) else (some true)
def laws_eqIntS.f (k : Nat) (l0 : List Int) (l1 : List Int) : Option (Bool):=if (l0.length : Int) = (l1.length : Int) then (laws_eqIntS.l0 k l0 l1 0) else (some false)
theorem laws_eqIntS.mono_l : ∀ k,(∀ y0 y1 y2,LeO (laws_eqIntS.l0 k y0 y1 y2) (laws_eqIntS.l0 (k + 1) y0 y1 y2))
 | 0=>fun _ _ _ r h=>by simp [laws_eqIntS.l0] at h
 | k + 1=>by
  have ih0:=laws_eqIntS.mono_l k;intro y0 y1 y2;unfold laws_eqIntS.l0
  repeat' first
  | (with_reducible exact ih0 _ _ _)
  | (with_reducible exact LeO.refl _)
  | (with_reducible exact LeO.none _)
  | (with_reducible refine LeO.ite ?_ ?_)
  | (with_reducible refine LeO.bind ?_ (fun _=>?_))
  | exact ih0 _ _ _
  | exact LeO.none _
  | refine LeO.ite ?_ ?_
  | refine LeO.bind ?_ (fun _=>?_)
theorem laws_eqIntS.mono : ∀ a0 a1 k,LeO (laws_eqIntS.f k a0 a1) (laws_eqIntS.f (k + 1) a0 a1):=by
 intro a0 a1 k;have ih0:=laws_eqIntS.mono_l k;unfold laws_eqIntS.f
 repeat' first
   | (with_reducible exact ih0 _ _ _)
   | (with_reducible exact LeO.refl _)
   | (with_reducible exact LeO.none _)
   | (with_reducible refine LeO.ite ?_ ?_)
   | (with_reducible refine LeO.bind ?_ (fun _=>?_))
   | exact ih0 _ _ _
   | exact LeO.none _
   | refine LeO.ite ?_ ?_
   | refine LeO.bind ?_ (fun _=>?_)
set_option maxHeartbeats 8000000 in
set_option maxRecDepth 100000 in
theorem laws_eqIntS.calls (k : Nat) (A0 : Option Addr) (c0 : Nat) (l0 : List Int) (A1 : Option Addr) (c1 : Nat) (l1 : List Int) (r : Bool) (w : World) (hr0 : Kd.C (Kd.int .i64) w A0 l0.length l0) (hc0 : l0.length ≤ c0) (hr1 : Kd.C (Kd.int .i64) w A1 l1.length l1) (hc1 : l1.length ≤ c1) (h : laws_eqIntS.f k l0 l1 = some r) :
  Calls Try.prog 74 #[.slice A0 l0.length c0,.slice A1 l1.length c1] w fun e w'=>e = .returned (.bool r) ∧ Drawn0 w w':=by
 have HR0:=Aside0.mk hr0;have HC0:=Aside0.mk hc0;clear hr0 hc0;have HR1:=Aside0.mk hr1;have HC1:=Aside0.mk hc1;clear hr1 hc1;have H : (if (l0.length : Int) = (l1.length : Int) then (laws_eqIntS.l0 k l0 l1 0) else (some false)) = some r:=h;clear h
 by_cases c3 : (l0.length : Int) = (l1.length : Int)
 ·rw [if_pos c3] at H;have c3b0 : ((l0.length : Int) == (l1.length : Int)) = true:=beq_iff_eq.mpr c3;have c3b1 : ((l0.length : Int) != (l1.length : Int)) = false:=bne_eq_false_iff_eq.mpr c3;have c3b2 : (l0.length == l1.length) = true:=by first | simpa using c3 | (simp at c3 ⊢;omega)
  clear c3;have H':=Aside0.mk H;clear H
  go_enter Try.func74,Try.ntmps74
  go_wp2
  repeat (go_quiet (fail);try go_wp2)
  go_loopg [5] k (fun kq v5 w'=>∃ (x5_1 : Int),v5 = .int .i64 x5_1 ∧ Aside0 (laws_eqIntS.l0 kq l0 l1 x5_1 = some r) ∧ Aside0 (kq ≤ k) ∧ Drawn0 w w');case atStart=>exact ⟨(0),(by first | rfl | (simp;done) | (simp [*];done)),H',⟨Nat.le_refl _⟩,by repeat (first | exact Drawn0.refl _ | apply Drawn0.step)⟩
  case round =>
   clear H'
   try clear c1
   try clear p2
   try clear c3
   try clear c3b0
   try clear c3b1
   try clear c3b2
   obtain ⟨x5_1,rfl,HA,HK1,⟨m1,rfl⟩⟩:=hrel;cases gk with
   | zero=>exact absurd HA.out (by simp [laws_eqIntS.l0])
   | succ k1 =>
    have H:=HA.out;clear HA;simp only [laws_eqIntS.l0] at H
    by_cases c4 : x5_1 < (l0.length : Int)
    ·rw [if_pos c4] at H;have c4b0 : decide (x5_1 < (l0.length : Int)) = true:=decide_eq_true c4;clear c4
     by_cases c5 : 0 ≤ x5_1
     ·rw [if_pos c5] at H;have c5b0 : decide (0 ≤ x5_1) = true:=decide_eq_true c5;clear c5
      by_cases c6 : x5_1 < (l1.length : Int)
      ·rw [if_pos c6] at H;have c6b0 : decide (x5_1 < (l1.length : Int)) = true:=decide_eq_true c6;clear c6
       by_cases c7 : (rd l0 x5_1) = (rd l1 x5_1)
       ·rw [if_pos c7] at H;have c7b0 : ((rd l0 x5_1) == (rd l1 x5_1)) = true:=beq_iff_eq.mpr c7;have c7b1 : ((rd l0 x5_1) != (rd l1 x5_1)) = false:=bne_eq_false_iff_eq.mpr c7;clear c7;have H':=Aside0.mk H;clear H;have p858 : 0 ≤ (x5_1 : Int):=of_decide_eq_true (by first | (with_reducible assumption) | assumption);have q858 : x5_1 < (l0.length : Int):=of_decide_eq_true (by first | (with_reducible assumption) | assumption);obtain ⟨ad858,e858,hx858_0⟩:=Kd.at_int HR0.out x5_1 p858 q858;cases e858;replace p858:=eq_true p858;replace q858:=eq_true q858;have p859 : 0 ≤ (x5_1 : Int):=of_decide_eq_true (by first | (with_reducible assumption) | assumption);have q859 : x5_1 < (l1.length : Int):=of_decide_eq_true (by first | (with_reducible assumption) | assumption);obtain ⟨ad859,e859,hx859_0⟩:=Kd.at_int HR1.out x5_1 p859 q859;cases e859;replace p859:=eq_true p859;replace q859:=eq_true q859
        go_wp2
        repeat (go_quiet (fail);try go_wp2)
        go_roundg k1;case measure=>have:=HK1.out;omega
        case rel=>exact ⟨(wrap64 (x5_1 + 1)),(by first | rfl | (simp;done) | (simp [*];done)),H',⟨by have:=HK1.out;omega⟩,by repeat (first | exact Drawn0.refl _ | apply Drawn0.step)⟩
       rw [if_neg c7] at H;have c7b0 : ((rd l0 x5_1) == (rd l1 x5_1)) = false:=beq_eq_false_iff_ne.mpr c7;have c7b1 : ((rd l0 x5_1) != (rd l1 x5_1)) = true:=bne_iff_ne.mpr c7;obtain rfl:=Option.some.inj H;have p858 : 0 ≤ (x5_1 : Int):=of_decide_eq_true (by first | (with_reducible assumption) | assumption);have q858 : x5_1 < (l0.length : Int):=of_decide_eq_true (by first | (with_reducible assumption) | assumption);obtain ⟨ad858,e858,hx858_0⟩:=Kd.at_int HR0.out x5_1 p858 q858;cases e858;replace p858:=eq_true p858;replace q858:=eq_true q858;have p859 : 0 ≤ (x5_1 : Int):=of_decide_eq_true (by first | (with_reducible assumption) | assumption);have q859 : x5_1 < (l1.length : Int):=of_decide_eq_true (by first | (with_reducible assumption) | assumption);obtain ⟨ad859,e859,hx859_0⟩:=Kd.at_int HR1.out x5_1 p859 q859;cases e859;replace p859:=eq_true p859;replace q859:=eq_true q859
       go_wp2
       repeat (go_quiet (fail);try go_wp2)
       go_ret
       exact ⟨by first | rfl | (simp;done) | (simp [*];done),by repeat (first | exact Drawn0.refl _ | apply Drawn0.step)⟩
      rw [if_neg c6] at H;exact absurd H (by simp)
     rw [if_neg c5] at H;exact absurd H (by simp)
    rw [if_neg c4] at H;have c4b0 : decide (x5_1 < (l0.length : Int)) = false:=decide_eq_false c4;clear c4;obtain rfl:=Option.some.inj H
    go_wp2
    repeat (go_quiet (fail);try go_wp2)
    go_ret
    exact ⟨by first | rfl | (simp;done) | (simp [*];done),by repeat (first | exact Drawn0.refl _ | apply Drawn0.step)⟩
 rw [if_neg c3] at H;have c3b0 : ((l0.length : Int) == (l1.length : Int)) = false:=beq_eq_false_iff_ne.mpr c3;have c3b1 : ((l0.length : Int) != (l1.length : Int)) = true:=bne_iff_ne.mpr c3;have c3b2 : (l0.length == l1.length) = false:=by first | simpa using c3 | (simp at c3 ⊢;omega)
 obtain rfl:=Option.some.inj H
 go_enter Try.func74,Try.ntmps74
 go_wp2
 repeat (go_quiet (fail);try go_wp2)
 go_ret
 exact ⟨by first | rfl | (simp;done) | (simp [*];done),by repeat (first | exact Drawn0.refl _ | apply Drawn0.step)⟩
end Go.Proofs.Ytdolplcbokioaaa.PB

namespace Go.Proofs.Ytdolplcbokioaaa.PB
open Go.RowKit Go.Proofs.YtdolplcbokioaaaW.PrintWords Go.Proofs.YtdolplcbokioaaaW.PrintLast Go.Proofs.YtdolplcbokioaaaW.PrintMore
attribute [local go_sem] max2_int min2_int max_two min_two max_three min_three max_four min_four   -- for this text's walks alone
set_option linter.unusedVariables false
set_option linter.unusedSimpArgs false
def laws_eqKnot.f (k : Nat) (a0_0 : Bool) (l0_1 : List Int) (a1_0 : Bool) (l1_1 : List Int) : Option (Bool):=if (a0_0 != a1_0) = true then (some false) else ((laws_eqIntS.f k l0_1 l1_1).bind fun t862=>(if t862 = true then (some true) else (some false)))
theorem laws_eqKnot.mono : ∀ a0 a1 a2 a3 k,LeO (laws_eqKnot.f k a0 a1 a2 a3) (laws_eqKnot.f (k + 1) a0 a1 a2 a3):=by
 intro a0 a1 a2 a3 k;unfold laws_eqKnot.f
 repeat' first
   | (with_reducible exact laws_eqIntS.mono _ _ _)
   | (with_reducible exact LeO.refl _)
   | (with_reducible exact LeO.none _)
   | (with_reducible refine LeO.ite ?_ ?_)
   | (with_reducible refine LeO.bind ?_ (fun _=>?_))
   | exact laws_eqIntS.mono _ _ _
   | exact LeO.none _
   | refine LeO.ite ?_ ?_
   | refine LeO.bind ?_ (fun _=>?_)
set_option maxHeartbeats 8000000 in
set_option maxRecDepth 100000 in
theorem laws_eqKnot.calls (k : Nat) (a0_0 : Bool) (A0_1 : Option Addr) (c0_1 : Nat) (l0_1 : List Int) (a1_0 : Bool) (A1_1 : Option Addr) (c1_1 : Nat) (l1_1 : List Int) (r : Bool) (w : World) (hr0_1 : Kd.C (Kd.int .i64) w A0_1 l0_1.length l0_1) (hc0_1 : l0_1.length ≤ c0_1) (hr1_1 : Kd.C (Kd.int .i64) w A1_1 l1_1.length l1_1) (hc1_1 : l1_1.length ≤ c1_1) (h : laws_eqKnot.f k a0_0 l0_1 a1_0 l1_1 = some r) :
  Calls Try.prog 145 #[.agg #[.bool a0_0,.slice A0_1 l0_1.length c0_1],.agg #[.bool a1_0,.slice A1_1 l1_1.length c1_1]] w fun e w'=>e = .returned (.bool r) ∧ Below w.heap.size w w':=by
 have hu133:=Try.underlying133;have HR0_1:=Aside0.mk hr0_1;have HC0_1:=Aside0.mk hc0_1;clear hr0_1 hc0_1;have HR1_1:=Aside0.mk hr1_1;have HC1_1:=Aside0.mk hc1_1;clear hr1_1 hc1_1;have HB:=Aside0.mk (Below.refl w.heap.size w);have H : (if (a0_0 != a1_0) = true then (some false) else ((laws_eqIntS.f k l0_1 l1_1).bind fun t862=>(if t862 = true then (some true) else (some false)))) = some r:=h;clear h
 by_cases c3 : (a0_0 != a1_0) = true
 ·rw [if_pos c3] at H;have c3b0 : (a0_0 != a1_0) = true:=c3
  (try (have c3b1 : decide (a0_0 = a1_0) = false:=by simpa using c3))
  (try (have c3b2 : (a0_0 == a1_0) = false:=by simpa using c3))
  (try (have c3b3 : ¬ (a0_0 = a1_0):=by simpa using c3))
  clear c3;obtain rfl:=Option.some.inj H
  go_enter Try.func145,Try.ntmps145
  go_wp2_with (first | ((with_reducible refine gate_dst (N:=2) rfl ?_);refine box_event ?hg (N:=2) ?hd (cs:=#[.bool a0_0,.slice A0_1 l0_1.length c0_1]) (t:=133) ?hr ?_;(case hd=>rfl);(case hg=>rfl);(case hr=>first | (go_simp;done) | (go_simp;rfl));intro gb860 hg w4 hbox hb;have n0_:=Aside0.mk (below_step (hs HB) hb);have n1_:=Aside0.mk (hbox);have n2_:=Aside0.mk ((by rw [hg];exact (below_size (hs HB)) : w.heap.size ≤ gb860));have n3_:=Aside0.mk ((by rw [hg];exact (below_size (hs HB)) : w.heap.size ≤ gb860));clear HB;have HB:=n0_;have BK860:=n1_;have GW860:=n2_;have GE860:=n3_;clear n0_ n1_ n2_ n3_;clear hb hbox hg) | ((with_reducible refine gate_dst (N:=3) rfl ?_);refine box_event ?hg (N:=3) ?hd (cs:=#[.bool a1_0,.slice A1_1 l1_1.length c1_1]) (t:=133) ?hr ?_;(case hd=>rfl);(case hg=>rfl);(case hr=>first | (go_simp;done) | (go_simp;rfl));intro gb861 hg w5 hbox hb;have n0_:=Aside0.mk (blk_below (g:=gb860) (o:=.cells #[.bool a0_0,.slice A0_1 l0_1.length c0_1] 133 (0,0)) (bs BK860) hb);have n1_:=Aside0.mk (below_step (hs1 HB GE860) hb);have n2_:=Aside0.mk (hbox);have n3_:=Aside0.mk ((by rw [hg];exact (below_size (hs1 HB GE860)) : w.heap.size ≤ gb861));have n4_:=Aside0.mk ((by rw [hg];exact (below_size (hs1 HB GE860)) : w.heap.size ≤ gb861));have n5_:=Aside0.mk ((by rw [hg];exact Nat.ne_of_lt (blk_lt (g:=gb860) (o:=.cells #[.bool a0_0,.slice A0_1 l0_1.length c0_1] 133 (0,0)) (bs BK860)) : gb860 ≠ gb861));have n6_:=Aside0.mk ((by rw [hg];exact Nat.ne_of_gt (blk_lt (g:=gb860) (o:=.cells #[.bool a0_0,.slice A0_1 l0_1.length c0_1] 133 (0,0)) (bs BK860)) : gb861 ≠ gb860));clear BK860;clear HB;have BK860:=n0_;have HB:=n1_;have BK861:=n2_;have GW861:=n3_;have GE861:=n4_;have NB860_861:=n5_;have NB861_860:=n6_;clear n0_ n1_ n2_ n3_ n4_ n5_ n6_;clear hb hbox hg;have hnb6:=NB860_861.out;have hnc6:=NB861_860.out;have hcz7_0 : w5.cell? ⟨gb860,0,none⟩ = some (.bool a0_0):=(blk_cell BK860.out 0).trans rfl;have hcz7_1 : w5.cell? ⟨gb860,1,none⟩ = some (.slice A0_1 l0_1.length c0_1):=(blk_cell BK860.out 1).trans rfl;have hfz7_0:=blk_frozen BK860.out 0;have hfz7_1:=blk_frozen BK860.out 1;have hcz8_0 : w5.cell? ⟨gb861,0,none⟩ = some (.bool a1_0):=(blk_cell BK861.out 0).trans rfl;have hcz8_1 : w5.cell? ⟨gb861,1,none⟩ = some (.slice A1_1 l1_1.length c1_1):=(blk_cell BK861.out 1).trans rfl;have hfz8_0:=blk_frozen BK861.out 0;have hfz8_1:=blk_frozen BK861.out 1))
  go_ret
  exact ⟨by first | rfl | (simp [errW_none,errW_some] <;> rfl) | (simp [*,errW_none,errW_some] <;> rfl),hs2 HB GE860 GE861⟩
 rw [if_neg c3] at H;have c3b0 : (a0_0 != a1_0) = false:=by simpa using c3
 (try (have c3b1 : decide (a0_0 = a1_0) = true:=by simpa using c3))
 (try (have c3b2 : (a0_0 == a1_0) = true:=by simpa using c3))
 clear c3;replace H:=Option.bind_eq_some_iff.mp H;obtain ⟨t862,A90,H⟩:=H;replace H : (if t862 = true then (some true) else (some false)) = some r:=H;have A9:=Aside0.mk A90;clear A90
 by_cases c10 : t862 = true
 ·subst c10;have H1 : (some true) = some r:=by rw [if_pos rfl] at H;exact H
  clear H;have H:=H1;clear H1;obtain rfl:=Option.some.inj H
  go_enter Try.func145,Try.ntmps145
  go_wp2_with (first | ((with_reducible refine gate_dst (N:=2) rfl ?_);refine box_event ?hg (N:=2) ?hd (cs:=#[.bool a0_0,.slice A0_1 l0_1.length c0_1]) (t:=133) ?hr ?_;(case hd=>rfl);(case hg=>rfl);(case hr=>first | (go_simp;done) | (go_simp;rfl));intro gb860 hg w11 hbox hb;have n0_:=Aside0.mk (below_step (hs HB) hb);have n1_:=Aside0.mk (hbox);have n2_:=Aside0.mk ((by rw [hg];exact (below_size (hs HB)) : w.heap.size ≤ gb860));have n3_:=Aside0.mk ((by rw [hg];exact (below_size (hs HB)) : w.heap.size ≤ gb860));clear HB;have HB:=n0_;have BK860:=n1_;have GW860:=n2_;have GE860:=n3_;clear n0_ n1_ n2_ n3_;clear hb hbox hg) | ((with_reducible refine gate_dst (N:=3) rfl ?_);refine box_event ?hg (N:=3) ?hd (cs:=#[.bool a1_0,.slice A1_1 l1_1.length c1_1]) (t:=133) ?hr ?_;(case hd=>rfl);(case hg=>rfl);(case hr=>first | (go_simp;done) | (go_simp;rfl));intro gb861 hg w12 hbox hb;have n0_:=Aside0.mk (blk_below (g:=gb860) (o:=.cells #[.bool a0_0,.slice A0_1 l0_1.length c0_1] 133 (0,0)) (bs BK860) hb);have n1_:=Aside0.mk (below_step (hs1 HB GE860) hb);have n2_:=Aside0.mk (hbox);have n3_:=Aside0.mk ((by rw [hg];exact (below_size (hs1 HB GE860)) : w.heap.size ≤ gb861));have n4_:=Aside0.mk ((by rw [hg];exact (below_size (hs1 HB GE860)) : w.heap.size ≤ gb861));have n5_:=Aside0.mk ((by rw [hg];exact Nat.ne_of_lt (blk_lt (g:=gb860) (o:=.cells #[.bool a0_0,.slice A0_1 l0_1.length c0_1] 133 (0,0)) (bs BK860)) : gb860 ≠ gb861));have n6_:=Aside0.mk ((by rw [hg];exact Nat.ne_of_gt (blk_lt (g:=gb860) (o:=.cells #[.bool a0_0,.slice A0_1 l0_1.length c0_1] 133 (0,0)) (bs BK860)) : gb861 ≠ gb860));clear BK860;clear HB;have BK860:=n0_;have HB:=n1_;have BK861:=n2_;have GW861:=n3_;have GE861:=n4_;have NB860_861:=n5_;have NB861_860:=n6_;clear n0_ n1_ n2_ n3_ n4_ n5_ n6_;clear hb hbox hg;have hnb13:=NB860_861.out;have hnc13:=NB861_860.out;have hcz14_0 : w12.cell? ⟨gb860,0,none⟩ = some (.bool a0_0):=(blk_cell BK860.out 0).trans rfl;have hcz14_1 : w12.cell? ⟨gb860,1,none⟩ = some (.slice A0_1 l0_1.length c0_1):=(blk_cell BK860.out 1).trans rfl;have hfz14_0:=blk_frozen BK860.out 0;have hfz14_1:=blk_frozen BK860.out 1;have hcz15_0 : w12.cell? ⟨gb861,0,none⟩ = some (.bool a1_0):=(blk_cell BK861.out 0).trans rfl;have hcz15_1 : w12.cell? ⟨gb861,1,none⟩ = some (.slice A1_1 l1_1.length c1_1):=(blk_cell BK861.out 1).trans rfl;have hfz15_0:=blk_frozen BK861.out 0;have hfz15_1:=blk_frozen BK861.out 1) | ((with_reducible refine gate_callee (f:=74) rfl ?_);refine goesL_ (some 14) rfl rfl Try.func74 (by kernel_rfl) rfl #[.slice A0_1 l0_1.length c0_1,.slice A1_1 l1_1.length c1_1] rfl (by (try simp only [List.map_toArray,List.map_cons,List.map_nil]);first | done | rfl | (simp only [List.length_drop,List.length_take];rfl)) ?_;(with_reducible refine (laws_eqIntS.calls k _ _ l0_1 _ _ l1_1 true _ ?side1 ?side2 ?side3 ?side4 A9.out).mono ?_);(case side1=>repeat (first | exact (Kd.C_below HR0_1.out HB.out) | (with_reducible refine Kd.C_alloc ?_ _) | (with_reducible refine Kd.C_drewN ?_ _) | (with_reducible refine Kd.C_drew ?_)));(case side2=>exact HC0_1.out);(case side3=>repeat (first | exact (Kd.C_below HR1_1.out HB.out) | (with_reducible refine Kd.C_alloc ?_ _) | (with_reducible refine Kd.C_drewN ?_ _) | (with_reducible refine Kd.C_drew ?_)));(case side4=>exact HC1_1.out);rintro e w' ⟨rfl,⟨nd,rfl⟩⟩;refine ⟨_,rfl,?_⟩))
  go_ret
  exact ⟨by first | rfl | (simp [errW_none,errW_some] <;> rfl) | (simp [*,errW_none,errW_some] <;> rfl),hs2 HB GE860 GE861⟩
 replace c10:=Bool.eq_false_iff.mpr c10;subst c10;have H1 : (some false) = some r:=by rw [if_neg (show ¬ (false = true) by decide)] at H;exact H
 clear H;have H:=H1;clear H1;obtain rfl:=Option.some.inj H
 go_enter Try.func145,Try.ntmps145
 go_wp2_with (first | ((with_reducible refine gate_dst (N:=2) rfl ?_);refine box_event ?hg (N:=2) ?hd (cs:=#[.bool a0_0,.slice A0_1 l0_1.length c0_1]) (t:=133) ?hr ?_;(case hd=>rfl);(case hg=>rfl);(case hr=>first | (go_simp;done) | (go_simp;rfl));intro gb860 hg w16 hbox hb;have n0_:=Aside0.mk (below_step (hs HB) hb);have n1_:=Aside0.mk (hbox);have n2_:=Aside0.mk ((by rw [hg];exact (below_size (hs HB)) : w.heap.size ≤ gb860));have n3_:=Aside0.mk ((by rw [hg];exact (below_size (hs HB)) : w.heap.size ≤ gb860));clear HB;have HB:=n0_;have BK860:=n1_;have GW860:=n2_;have GE860:=n3_;clear n0_ n1_ n2_ n3_;clear hb hbox hg) | ((with_reducible refine gate_dst (N:=3) rfl ?_);refine box_event ?hg (N:=3) ?hd (cs:=#[.bool a1_0,.slice A1_1 l1_1.length c1_1]) (t:=133) ?hr ?_;(case hd=>rfl);(case hg=>rfl);(case hr=>first | (go_simp;done) | (go_simp;rfl));intro gb861 hg w17 hbox hb;have n0_:=Aside0.mk (blk_below (g:=gb860) (o:=.cells #[.bool a0_0,.slice A0_1 l0_1.length c0_1] 133 (0,0)) (bs BK860) hb);have n1_:=Aside0.mk (below_step (hs1 HB GE860) hb);have n2_:=Aside0.mk (hbox);have n3_:=Aside0.mk ((by rw [hg];exact (below_size (hs1 HB GE860)) : w.heap.size ≤ gb861));have n4_:=Aside0.mk ((by rw [hg];exact (below_size (hs1 HB GE860)) : w.heap.size ≤ gb861));have n5_:=Aside0.mk ((by rw [hg];exact Nat.ne_of_lt (blk_lt (g:=gb860) (o:=.cells #[.bool a0_0,.slice A0_1 l0_1.length c0_1] 133 (0,0)) (bs BK860)) : gb860 ≠ gb861));have n6_:=Aside0.mk ((by rw [hg];exact Nat.ne_of_gt (blk_lt (g:=gb860) (o:=.cells #[.bool a0_0,.slice A0_1 l0_1.length c0_1] 133 (0,0)) (bs BK860)) : gb861 ≠ gb860));clear BK860;clear HB;have BK860:=n0_;have HB:=n1_;have BK861:=n2_;have GW861:=n3_;have GE861:=n4_;have NB860_861:=n5_;have NB861_860:=n6_;clear n0_ n1_ n2_ n3_ n4_ n5_ n6_;clear hb hbox hg;have hnb18:=NB860_861.out;have hnc18:=NB861_860.out;have hcz19_0 : w17.cell? ⟨gb860,0,none⟩ = some (.bool a0_0):=(blk_cell BK860.out 0).trans rfl;have hcz19_1 : w17.cell? ⟨gb860,1,none⟩ = some (.slice A0_1 l0_1.length c0_1):=(blk_cell BK860.out 1).trans rfl;have hfz19_0:=blk_frozen BK860.out 0;have hfz19_1:=blk_frozen BK860.out 1;have hcz20_0 : w17.cell? ⟨gb861,0,none⟩ = some (.bool a1_0):=(blk_cell BK861.out 0).trans rfl;have hcz20_1 : w17.cell? ⟨gb861,1,none⟩ = some (.slice A1_1 l1_1.length c1_1):=(blk_cell BK861.out 1).trans rfl;have hfz20_0:=blk_frozen BK861.out 0;have hfz20_1:=blk_frozen BK861.out 1) | ((with_reducible refine gate_callee (f:=74) rfl ?_);refine goesL_ (some 14) rfl rfl Try.func74 (by kernel_rfl) rfl #[.slice A0_1 l0_1.length c0_1,.slice A1_1 l1_1.length c1_1] rfl (by (try simp only [List.map_toArray,List.map_cons,List.map_nil]);first | done | rfl | (simp only [List.length_drop,List.length_take];rfl)) ?_;(with_reducible refine (laws_eqIntS.calls k _ _ l0_1 _ _ l1_1 false _ ?side1 ?side2 ?side3 ?side4 A9.out).mono ?_);(case side1=>repeat (first | exact (Kd.C_below HR0_1.out HB.out) | (with_reducible refine Kd.C_alloc ?_ _) | (with_reducible refine Kd.C_drewN ?_ _) | (with_reducible refine Kd.C_drew ?_)));(case side2=>exact HC0_1.out);(case side3=>repeat (first | exact (Kd.C_below HR1_1.out HB.out) | (with_reducible refine Kd.C_alloc ?_ _) | (with_reducible refine Kd.C_drewN ?_ _) | (with_reducible refine Kd.C_drew ?_)));(case side4=>exact HC1_1.out);rintro e w' ⟨rfl,⟨nd,rfl⟩⟩;refine ⟨_,rfl,?_⟩))
 go_ret
 exact ⟨by first | rfl | (simp [errW_none,errW_some] <;> rfl) | (simp [*,errW_none,errW_some] <;> rfl),hs2 HB GE860 GE861⟩
end Go.Proofs.Ytdolplcbokioaaa.PB

namespace Go.Proofs.Ytdolplcbokioaaa.PB
open Go.RowKit Go.Proofs.YtdolplcbokioaaaW.PrintWords Go.Proofs.YtdolplcbokioaaaW.PrintLast Go.Proofs.YtdolplcbokioaaaW.PrintMore
attribute [local go_sem] max2_int min2_int max_two min_two max_three min_three max_four min_four   -- for this text's walks alone
set_option linter.unusedVariables false
set_option linter.unusedSimpArgs false
def laws_eqKnotS.l0 : Nat → List (S133) → List (S133) → Int → Option (Bool)
 | 0,_,_,_=>none
 | k + 1,x0,x1,x5=>if x5 < (x0.length : Int) then (if 0 ≤ x5 then (if x5 < (x1.length : Int) then ((laws_eqKnot.f k ((rd_T133 x0 x5).f0) ((rd_T133 x0 x5).f1) ((rd_T133 x1 x5).f0) ((rd_T133 x1 x5).f1)).bind fun t865=>(if t865 = true then (laws_eqKnotS.l0 k x0 x1 (wrap64 (x5 + 1))) else (some false))) else (none)) else (none)) else (some true)
def laws_eqKnotS.f (k : Nat) (l0 : List (S133)) (l1 : List (S133)) : Option (Bool):=if (l0.length : Int) = (l1.length : Int) then (laws_eqKnotS.l0 k l0 l1 0) else (some false)
theorem laws_eqKnotS.mono_l : ∀ k,(∀ y0 y1 y2,LeO (laws_eqKnotS.l0 k y0 y1 y2) (laws_eqKnotS.l0 (k + 1) y0 y1 y2))
 | 0=>fun _ _ _ r h=>by simp [laws_eqKnotS.l0] at h
 | k + 1=>by
  have ih0:=laws_eqKnotS.mono_l k;intro y0 y1 y2;unfold laws_eqKnotS.l0
  repeat' first
  | (with_reducible exact ih0 _ _ _)
  | (with_reducible exact laws_eqKnot.mono _ _ _ _ _)
  | (with_reducible exact LeO.refl _)
  | (with_reducible exact LeO.none _)
  | (with_reducible refine LeO.ite ?_ ?_)
  | (with_reducible refine LeO.bind ?_ (fun _=>?_))
  | exact ih0 _ _ _
  | exact laws_eqKnot.mono _ _ _ _ _
  | exact LeO.none _
  | refine LeO.ite ?_ ?_
  | refine LeO.bind ?_ (fun _=>?_)
theorem laws_eqKnotS.mono : ∀ a0 a1 k,LeO (laws_eqKnotS.f k a0 a1) (laws_eqKnotS.f (k + 1) a0 a1):=by
 intro a0 a1 k;have ih0:=laws_eqKnotS.mono_l k;unfold laws_eqKnotS.f
 repeat' first
   | (with_reducible exact ih0 _ _ _)
   | (with_reducible exact laws_eqKnot.mono _ _ _ _ _)
   | (with_reducible exact LeO.refl _)
   | (with_reducible exact LeO.none _)
   | (with_reducible refine LeO.ite ?_ ?_)
   | (with_reducible refine LeO.bind ?_ (fun _=>?_))
   | exact ih0 _ _ _
   | exact laws_eqKnot.mono _ _ _ _ _
   | exact LeO.none _
   | refine LeO.ite ?_ ?_
   | refine LeO.bind ?_ (fun _=>?_)
def laws_eqKnotS.T6 : Bool × List (List Nat × List Nat):=(true,[([],[]),([],[]),([0,1],[0,1]),([2],[2]),([],[]),([],[]),([4,5],[4,5]),([6],[6]),([3,7],[3,7]),([8],[8])])
def laws_eqKnotS.B6 : List Nat:=[0,0,3,7,0,0,48,112,255,511]
theorem laws_eqKnotS.tab6 : rtab .any (opsOf Try.f102 6) = laws_eqKnotS.T6:=by kernel_rfl
theorem laws_eqKnotS.bits6 : waitsOk laws_eqKnotS.T6.2 laws_eqKnotS.B6 = true:=by kernel_rfl
set_option maxHeartbeats 8000000 in
set_option maxRecDepth 100000 in
theorem laws_eqKnotS.calls (k : Nat) (A0 : Option Addr) (c0 : Nat) (l0 : List (S133)) (A1 : Option Addr) (c1 : Nat) (l1 : List (S133)) (r : Bool) (w : World) (hr0 : Kd.C k133 w A0 l0.length l0) (hc0 : l0.length ≤ c0) (hr1 : Kd.C k133 w A1 l1.length l1) (hc1 : l1.length ≤ c1) (h : laws_eqKnotS.f k l0 l1 = some r) :
  Calls Try.prog 102 #[.slice A0 l0.length c0,.slice A1 l1.length c1] w fun e w'=>e = .returned (.bool r) ∧ Below w.heap.size w w':=by
 have hu133:=Try.underlying133;have HR0:=Aside0.mk hr0;have HC0:=Aside0.mk hc0;clear hr0 hc0;have HR1:=Aside0.mk hr1;have HC1:=Aside0.mk hc1;clear hr1 hc1;have HB:=Aside0.mk (Below.refl w.heap.size w);have H : (if (l0.length : Int) = (l1.length : Int) then (laws_eqKnotS.l0 k l0 l1 0) else (some false)) = some r:=h;clear h
 by_cases c3 : (l0.length : Int) = (l1.length : Int)
 ·rw [if_pos c3] at H;have c3b0 : ((l0.length : Int) == (l1.length : Int)) = true:=beq_iff_eq.mpr c3;have c3b1 : ((l0.length : Int) != (l1.length : Int)) = false:=bne_eq_false_iff_eq.mpr c3;have c3b2 : (l0.length == l1.length) = true:=by first | simpa using c3 | (simp at c3 ⊢;omega)
  clear c3;have H':=Aside0.mk H;clear H
  go_enter Try.func102,Try.ntmps102
  go_wp2
  go_loopg [5] k (fun kq v5 w'=>∃ (x5_1 : Int),v5 = .int .i64 x5_1 ∧ Aside0 (laws_eqKnotS.l0 kq l0 l1 x5_1 = some r) ∧ Aside0 (kq ≤ k) ∧ Aside0 (Below w.heap.size w w'));case atStart=>exact ⟨(0),(by first | rfl | (simp;done) | (simp [*];done)),H',⟨Nat.le_refl _⟩,⟨hs HB⟩⟩
  case round =>
   clear H'
   try clear c1
   try clear p2
   try clear c3
   try clear c3b0
   try clear c3b1
   try clear c3b2
   obtain ⟨x5_1,rfl,HA,HK1,HB⟩:=hrel;cases gk with
   | zero=>exact absurd HA.out (by simp [laws_eqKnotS.l0])
   | succ k1 =>
    have H:=HA.out;clear HA;simp only [laws_eqKnotS.l0] at H
    by_cases c4 : x5_1 < (l0.length : Int)
    ·rw [if_pos c4] at H;have c4b0 : decide (x5_1 < (l0.length : Int)) = true:=decide_eq_true c4;clear c4
     by_cases c5 : 0 ≤ x5_1
     ·rw [if_pos c5] at H;have c5b0 : decide (0 ≤ x5_1) = true:=decide_eq_true c5;clear c5
      by_cases c6 : x5_1 < (l1.length : Int)
      ·rw [if_pos c6] at H;have c6b0 : decide (x5_1 < (l1.length : Int)) = true:=decide_eq_true c6;clear c6;replace H:=Option.bind_eq_some_iff.mp H;obtain ⟨t865,A70,H⟩:=H;replace H : (if t865 = true then (laws_eqKnotS.l0 k1 l0 l1 (wrap64 (x5_1 + 1))) else (some false)) = some r:=H;have A7:=Aside0.mk A70;clear A70
       by_cases c8 : t865 = true
       ·subst c8;have H1 : (laws_eqKnotS.l0 k1 l0 l1 (wrap64 (x5_1 + 1))) = some r:=by rw [if_pos rfl] at H;exact H
        clear H;have H:=H1;clear H1;have H':=Aside0.mk H;clear H
        try go_wp2
        have n0_:=Aside0.mk (below_drew1 HB.out);clear HB;have HB:=n0_;clear n0_;have p863 : 0 ≤ (x5_1 : Int):=of_decide_eq_true (by first | (with_reducible assumption) | assumption);have q863 : x5_1 < (l0.length : Int):=of_decide_eq_true (by first | (with_reducible assumption) | assumption);obtain ⟨ad863,A863_1,c863_1,e863,hx863_0,hx863_1,hl863_1,hi863_1⟩:=at_T133 HR0.out x5_1 p863 q863;have hw863_1:=hx863_1;have hw863_0:=hx863_0;cases e863;replace hx863_0:=(HB.out.cell (World.block_lt_of_cell? w _ hx863_0)).trans hx863_0;replace hx863_1:=(HB.out.cell (World.block_lt_of_cell? w _ hx863_1)).trans hx863_1;have HR863_1:=Aside0.mk hi863_1;have HC863_1:=Aside0.mk hl863_1;clear hi863_1 hl863_1;replace p863:=eq_true p863;replace q863:=eq_true q863;have p864 : 0 ≤ (x5_1 : Int):=of_decide_eq_true (by first | (with_reducible assumption) | assumption);have q864 : x5_1 < (l1.length : Int):=of_decide_eq_true (by first | (with_reducible assumption) | assumption);obtain ⟨ad864,A864_1,c864_1,e864,hx864_0,hx864_1,hl864_1,hi864_1⟩:=at_T133 HR1.out x5_1 p864 q864;have hw864_1:=hx864_1;have hw864_0:=hx864_0;cases e864;replace hx864_0:=(HB.out.cell (World.block_lt_of_cell? w _ hx864_0)).trans hx864_0;replace hx864_1:=(HB.out.cell (World.block_lt_of_cell? w _ hx864_1)).trans hx864_1;have HR864_1:=Aside0.mk hi864_1;have HC864_1:=Aside0.mk hl864_1;clear hi864_1 hl864_1;replace p864:=eq_true p864;replace q864:=eq_true q864;refine start_ (n:=10) (S:=fun w'=>w'.cell? (ad863.add ((x5_1).toNat * 2)) = some (.bool ((rd_T133 l0 x5_1).f0)) ∧ w'.cell? ⟨(ad863.add ((x5_1).toNat * 2)).block,(ad863.add ((x5_1).toNat * 2)).off + 1,none⟩ = some (.slice A863_1 ((rd_T133 l0 x5_1).f1).length c863_1) ∧ w'.cell? (ad864.add ((x5_1).toNat * 2)) = some (.bool ((rd_T133 l1 x5_1).f0)) ∧ w'.cell? ⟨(ad864.add ((x5_1).toNat * 2)).block,(ad864.add ((x5_1).toNat * 2)).off + 1,none⟩ = some (.slice A864_1 ((rd_T133 l1 x5_1).f1).length c864_1)) (ds:=[]) #[false,false,false,false,false,false,false,false,false,false] (by kernel_rfl) rfl rfl ⟨((HB.out.cell (World.block_lt_of_cell? w _ hw863_0)).trans hw863_0),((HB.out.cell (World.block_lt_of_cell? w _ hw863_1)).trans hw863_1),((HB.out.cell (World.block_lt_of_cell? w _ hw864_0)).trans hw864_0),((HB.out.cell (World.block_lt_of_cell? w _ hw864_1)).trans hw864_1)⟩ (fun hHeld=>?_);refine with_tabW laws_eqKnotS.tab6 laws_eqKnotS.bits6 (fun HT_ HW_=>?_);generalize wr.drew = w9 at HB HR863_1 HR864_1 hx863_0 hx863_1 hx864_0 hx864_1 hHeld ⊢;refine pure_ (i:=0) (N:=some 17) (v:=?_) (a':=?_) #[true,false,false,false,false,false,false,false,false,false] rfl rfl (any_of HT_.out (by kernel_rfl)) (fun _ _ _ h=>h) (Or.inl ⟨by rfl,?_⟩) ?_ ?_;rotate_left
        ·intro w';go_simp;with_reducible rfl
        rotate_left
        ·simp only [Act.put,List.setIfInBounds_toArray,List.set_cons_zero,List.set_cons_succ,i64_w,i32_w];rfl
        refine pure_ (i:=1) (N:=some 18) (v:=?_) (a':=?_) #[true,true,false,false,false,false,false,false,false,false] rfl rfl (any_of HT_.out (by kernel_rfl)) (fun _ _ _ h=>h) (Or.inl ⟨by rfl,?_⟩) ?_ ?_;rotate_left
        ·intro w';go_simp;with_reducible rfl
        rotate_left
        ·simp only [Act.put,List.setIfInBounds_toArray,List.set_cons_zero,List.set_cons_succ,i64_w,i32_w];rfl
        refine pure_ (i:=2) (N:=some 19) (v:=?_) (a':=?_) #[true,true,true,false,false,false,false,false,false,false] rfl rfl (any_of HT_.out (by kernel_rfl)) (fun _ _ _ h=>h) (Or.inl ⟨by rfl,?_⟩) ?_ ?_;rotate_left
        ·intro w';go_simp;with_reducible rfl
        rotate_left
        ·simp only [Act.put,List.setIfInBounds_toArray,List.set_cons_zero,List.set_cons_succ,i64_w,i32_w];rfl
        refine pure_ (i:=4) (N:=some 21) (v:=?_) (a':=?_) #[true,true,true,false,true,false,false,false,false,false] rfl rfl (any_of HT_.out (by kernel_rfl)) (fun _ _ _ h=>h) (Or.inl ⟨by rfl,?_⟩) ?_ ?_;rotate_left
        ·intro w';go_simp;with_reducible rfl
        rotate_left
        ·simp only [Act.put,List.setIfInBounds_toArray,List.set_cons_zero,List.set_cons_succ,i64_w,i32_w];rfl
        refine pure_ (i:=5) (N:=some 22) (v:=?_) (a':=?_) #[true,true,true,false,true,true,false,false,false,false] rfl rfl (any_of HT_.out (by kernel_rfl)) (fun _ _ _ h=>h) (Or.inl ⟨by rfl,?_⟩) ?_ ?_;rotate_left
        ·intro w';go_simp;with_reducible rfl
        rotate_left
        ·simp only [Act.put,List.setIfInBounds_toArray,List.set_cons_zero,List.set_cons_succ,i64_w,i32_w];rfl
        refine pure_ (i:=6) (N:=some 23) (v:=?_) (a':=?_) #[true,true,true,false,true,true,true,false,false,false] rfl rfl (any_of HT_.out (by kernel_rfl)) (fun _ _ _ h=>h) (Or.inl ⟨by rfl,?_⟩) ?_ ?_;rotate_left
        ·intro w';go_simp;with_reducible rfl
        rotate_left
        ·simp only [Act.put,List.setIfInBounds_toArray,List.set_cons_zero,List.set_cons_succ,i64_w,i32_w];rfl
        refine take_ (i:=3) (N:=some 20) (v:=?_) (a':=?_) #[true,true,true,true,true,true,true,false,false,false] rfl rfl (take_ofW HT_.out HW_.out (by kernel_rfl)) (fun _ _ _ h=>h) (Or.inl ⟨by rfl,?_⟩) hHeld ?_ ?_;rotate_left
        ·rintro w' ⟨s0,s1,s2,s3⟩;go_simp;with_reducible rfl
        rotate_left
        ·simp only [Act.put,List.setIfInBounds_toArray,List.set_cons_zero,List.set_cons_succ,i64_w,i32_w];rfl
        refine take_ (i:=7) (N:=some 24) (v:=?_) (a':=?_) #[true,true,true,true,true,true,true,true,false,false] rfl rfl (take_ofW HT_.out HW_.out (by kernel_rfl)) (fun _ _ _ h=>h) (Or.inl ⟨by rfl,?_⟩) hHeld ?_ ?_;rotate_left
        ·rintro w' ⟨s0,s1,s2,s3⟩;go_simp;with_reducible rfl
        rotate_left
        ·simp only [Act.put,List.setIfInBounds_toArray,List.set_cons_zero,List.set_cons_succ,i64_w,i32_w];rfl
        refine one_ (i:=8) (N:=some 25) #[true,true,true,true,true,true,true,true,true,false] rfl rfl (one_of HT_.out (by kernel_rfl)) (by decide) (fun K hK=>?_);refine goes_ Try.func145 (by kernel_rfl) rfl #[.agg #[.bool ((rd_T133 l0 x5_1).f0),.slice A863_1 ((rd_T133 l0 x5_1).f1).length c863_1],.agg #[.bool ((rd_T133 l1 x5_1).f0),.slice A864_1 ((rd_T133 l1 x5_1).f1).length c864_1]] (by rfl) rfl rfl (by (try simp only [List.map_toArray,List.map_cons,List.map_nil]);first | done | rfl | (simp only [List.length_drop,List.length_take];rfl)) ?_;with_reducible refine (laws_eqKnot.calls k1 ((rd_T133 l0 x5_1).f0) _ _ ((rd_T133 l0 x5_1).f1) ((rd_T133 l1 x5_1).f0) _ _ ((rd_T133 l1 x5_1).f1) true _ ?side1 ?side2 ?side3 ?side4 A7.out).mono ?_
        (case side1=>repeat (first | exact (Kd.C_below HR863_1.out HB.out) | (with_reducible refine Kd.C_alloc ?_ _) | (with_reducible refine Kd.C_drewN ?_ _) | (with_reducible refine Kd.C_drew ?_)))
        (case side2=>exact HC863_1.out)
        (case side3=>repeat (first | exact (Kd.C_below HR864_1.out HB.out) | (with_reducible refine Kd.C_alloc ?_ _) | (with_reducible refine Kd.C_drewN ?_ _) | (with_reducible refine Kd.C_drew ?_)))
        (case side4=>exact HC864_1.out)
        rintro e w10 ⟨rfl,hb⟩;refine ⟨_,rfl,?_⟩;have n0_:=Aside0.mk (below_step (hs HB) hb);clear HB;have HB:=n0_;clear n0_
        (try clear hb)
        (try clear hb2)
        (try clear hk)
        (try clear hi)
        refine hK.out _ _ ⟨((HB.out.cell (World.block_lt_of_cell? w _ hw863_0)).trans hw863_0),((HB.out.cell (World.block_lt_of_cell? w _ hw863_1)).trans hw863_1),((HB.out.cell (World.block_lt_of_cell? w _ hw864_0)).trans hw864_0),((HB.out.cell (World.block_lt_of_cell? w _ hw864_1)).trans hw864_1)⟩ (fun hHeld=>?_);clear hK K;refine norm_ (a':=?_) ?_ ?_;rotate_left
        ·show Act.put _ (some 25) _ = _;simp only [Act.put,List.setIfInBounds_toArray,List.set_cons_zero,List.set_cons_succ,i64_w,i32_w];rfl
        refine pure_ (i:=9) (N:=some 26) (v:=?_) (a':=?_) #[true,true,true,true,true,true,true,true,true,true] rfl rfl (any_of HT_.out (by kernel_rfl)) (fun _ _ _ h=>h) (Or.inl ⟨by rfl,?_⟩) ?_ ?_;rotate_left
        ·intro w';go_simp;with_reducible rfl
        rotate_left
        ·simp only [Act.put,List.setIfInBounds_toArray,List.set_cons_zero,List.set_cons_succ,i64_w,i32_w];rfl
        refine done_ (done_of HT_.out (by kernel_rfl)) ?_
        try go_wp2
        go_roundg k1;case measure=>have:=HK1.out;omega
        case rel=>exact ⟨(wrap64 (x5_1 + 1)),(by first | rfl | (simp;done) | (simp [*];done)),H',⟨by have:=HK1.out;omega⟩,⟨hs HB⟩⟩
       replace c8:=Bool.eq_false_iff.mpr c8;subst c8;have H1 : (some false) = some r:=by rw [if_neg (show ¬ (false = true) by decide)] at H;exact H
       clear H;have H:=H1;clear H1;obtain rfl:=Option.some.inj H
       try go_wp2
       have n0_:=Aside0.mk (below_drew1 HB.out);clear HB;have HB:=n0_;clear n0_;have p863 : 0 ≤ (x5_1 : Int):=of_decide_eq_true (by first | (with_reducible assumption) | assumption);have q863 : x5_1 < (l0.length : Int):=of_decide_eq_true (by first | (with_reducible assumption) | assumption);obtain ⟨ad863,A863_1,c863_1,e863,hx863_0,hx863_1,hl863_1,hi863_1⟩:=at_T133 HR0.out x5_1 p863 q863;have hw863_1:=hx863_1;have hw863_0:=hx863_0;cases e863;replace hx863_0:=(HB.out.cell (World.block_lt_of_cell? w _ hx863_0)).trans hx863_0;replace hx863_1:=(HB.out.cell (World.block_lt_of_cell? w _ hx863_1)).trans hx863_1;have HR863_1:=Aside0.mk hi863_1;have HC863_1:=Aside0.mk hl863_1;clear hi863_1 hl863_1;replace p863:=eq_true p863;replace q863:=eq_true q863;have p864 : 0 ≤ (x5_1 : Int):=of_decide_eq_true (by first | (with_reducible assumption) | assumption);have q864 : x5_1 < (l1.length : Int):=of_decide_eq_true (by first | (with_reducible assumption) | assumption);obtain ⟨ad864,A864_1,c864_1,e864,hx864_0,hx864_1,hl864_1,hi864_1⟩:=at_T133 HR1.out x5_1 p864 q864;have hw864_1:=hx864_1;have hw864_0:=hx864_0;cases e864;replace hx864_0:=(HB.out.cell (World.block_lt_of_cell? w _ hx864_0)).trans hx864_0;replace hx864_1:=(HB.out.cell (World.block_lt_of_cell? w _ hx864_1)).trans hx864_1;have HR864_1:=Aside0.mk hi864_1;have HC864_1:=Aside0.mk hl864_1;clear hi864_1 hl864_1;replace p864:=eq_true p864;replace q864:=eq_true q864;refine start_ (n:=10) (S:=fun w'=>w'.cell? (ad863.add ((x5_1).toNat * 2)) = some (.bool ((rd_T133 l0 x5_1).f0)) ∧ w'.cell? ⟨(ad863.add ((x5_1).toNat * 2)).block,(ad863.add ((x5_1).toNat * 2)).off + 1,none⟩ = some (.slice A863_1 ((rd_T133 l0 x5_1).f1).length c863_1) ∧ w'.cell? (ad864.add ((x5_1).toNat * 2)) = some (.bool ((rd_T133 l1 x5_1).f0)) ∧ w'.cell? ⟨(ad864.add ((x5_1).toNat * 2)).block,(ad864.add ((x5_1).toNat * 2)).off + 1,none⟩ = some (.slice A864_1 ((rd_T133 l1 x5_1).f1).length c864_1)) (ds:=[]) #[false,false,false,false,false,false,false,false,false,false] (by kernel_rfl) rfl rfl ⟨((HB.out.cell (World.block_lt_of_cell? w _ hw863_0)).trans hw863_0),((HB.out.cell (World.block_lt_of_cell? w _ hw863_1)).trans hw863_1),((HB.out.cell (World.block_lt_of_cell? w _ hw864_0)).trans hw864_0),((HB.out.cell (World.block_lt_of_cell? w _ hw864_1)).trans hw864_1)⟩ (fun hHeld=>?_);refine with_tabW laws_eqKnotS.tab6 laws_eqKnotS.bits6 (fun HT_ HW_=>?_);generalize wr.drew = w11 at HB HR863_1 HR864_1 hx863_0 hx863_1 hx864_0 hx864_1 hHeld ⊢;refine pure_ (i:=0) (N:=some 17) (v:=?_) (a':=?_) #[true,false,false,false,false,false,false,false,false,false] rfl rfl (any_of HT_.out (by kernel_rfl)) (fun _ _ _ h=>h) (Or.inl ⟨by rfl,?_⟩) ?_ ?_;rotate_left
       ·intro w';go_simp;with_reducible rfl
       rotate_left
       ·simp only [Act.put,List.setIfInBounds_toArray,List.set_cons_zero,List.set_cons_succ,i64_w,i32_w];rfl
       refine pure_ (i:=1) (N:=some 18) (v:=?_) (a':=?_) #[true,true,false,false,false,false,false,false,false,false] rfl rfl (any_of HT_.out (by kernel_rfl)) (fun _ _ _ h=>h) (Or.inl ⟨by rfl,?_⟩) ?_ ?_;rotate_left
       ·intro w';go_simp;with_reducible rfl
       rotate_left
       ·simp only [Act.put,List.setIfInBounds_toArray,List.set_cons_zero,List.set_cons_succ,i64_w,i32_w];rfl
       refine pure_ (i:=2) (N:=some 19) (v:=?_) (a':=?_) #[true,true,true,false,false,false,false,false,false,false] rfl rfl (any_of HT_.out (by kernel_rfl)) (fun _ _ _ h=>h) (Or.inl ⟨by rfl,?_⟩) ?_ ?_;rotate_left
       ·intro w';go_simp;with_reducible rfl
       rotate_left
       ·simp only [Act.put,List.setIfInBounds_toArray,List.set_cons_zero,List.set_cons_succ,i64_w,i32_w];rfl
       refine pure_ (i:=4) (N:=some 21) (v:=?_) (a':=?_) #[true,true,true,false,true,false,false,false,false,false] rfl rfl (any_of HT_.out (by kernel_rfl)) (fun _ _ _ h=>h) (Or.inl ⟨by rfl,?_⟩) ?_ ?_;rotate_left
       ·intro w';go_simp;with_reducible rfl
       rotate_left
       ·simp only [Act.put,List.setIfInBounds_toArray,List.set_cons_zero,List.set_cons_succ,i64_w,i32_w];rfl
       refine pure_ (i:=5) (N:=some 22) (v:=?_) (a':=?_) #[true,true,true,false,true,true,false,false,false,false] rfl rfl (any_of HT_.out (by kernel_rfl)) (fun _ _ _ h=>h) (Or.inl ⟨by rfl,?_⟩) ?_ ?_;rotate_left
       ·intro w';go_simp;with_reducible rfl
       rotate_left
       ·simp only [Act.put,List.setIfInBounds_toArray,List.set_cons_zero,List.set_cons_succ,i64_w,i32_w];rfl
       refine pure_ (i:=6) (N:=some 23) (v:=?_) (a':=?_) #[true,true,true,false,true,true,true,false,false,false] rfl rfl (any_of HT_.out (by kernel_rfl)) (fun _ _ _ h=>h) (Or.inl ⟨by rfl,?_⟩) ?_ ?_;rotate_left
       ·intro w';go_simp;with_reducible rfl
       rotate_left
       ·simp only [Act.put,List.setIfInBounds_toArray,List.set_cons_zero,List.set_cons_succ,i64_w,i32_w];rfl
       refine take_ (i:=3) (N:=some 20) (v:=?_) (a':=?_) #[true,true,true,true,true,true,true,false,false,false] rfl rfl (take_ofW HT_.out HW_.out (by kernel_rfl)) (fun _ _ _ h=>h) (Or.inl ⟨by rfl,?_⟩) hHeld ?_ ?_;rotate_left
       ·rintro w' ⟨s0,s1,s2,s3⟩;go_simp;with_reducible rfl
       rotate_left
       ·simp only [Act.put,List.setIfInBounds_toArray,List.set_cons_zero,List.set_cons_succ,i64_w,i32_w];rfl
       refine take_ (i:=7) (N:=some 24) (v:=?_) (a':=?_) #[true,true,true,true,true,true,true,true,false,false] rfl rfl (take_ofW HT_.out HW_.out (by kernel_rfl)) (fun _ _ _ h=>h) (Or.inl ⟨by rfl,?_⟩) hHeld ?_ ?_;rotate_left
       ·rintro w' ⟨s0,s1,s2,s3⟩;go_simp;with_reducible rfl
       rotate_left
       ·simp only [Act.put,List.setIfInBounds_toArray,List.set_cons_zero,List.set_cons_succ,i64_w,i32_w];rfl
       refine one_ (i:=8) (N:=some 25) #[true,true,true,true,true,true,true,true,true,false] rfl rfl (one_of HT_.out (by kernel_rfl)) (by decide) (fun K hK=>?_);refine goes_ Try.func145 (by kernel_rfl) rfl #[.agg #[.bool ((rd_T133 l0 x5_1).f0),.slice A863_1 ((rd_T133 l0 x5_1).f1).length c863_1],.agg #[.bool ((rd_T133 l1 x5_1).f0),.slice A864_1 ((rd_T133 l1 x5_1).f1).length c864_1]] (by rfl) rfl rfl (by (try simp only [List.map_toArray,List.map_cons,List.map_nil]);first | done | rfl | (simp only [List.length_drop,List.length_take];rfl)) ?_;with_reducible refine (laws_eqKnot.calls k1 ((rd_T133 l0 x5_1).f0) _ _ ((rd_T133 l0 x5_1).f1) ((rd_T133 l1 x5_1).f0) _ _ ((rd_T133 l1 x5_1).f1) false _ ?side1 ?side2 ?side3 ?side4 A7.out).mono ?_
       (case side1=>repeat (first | exact (Kd.C_below HR863_1.out HB.out) | (with_reducible refine Kd.C_alloc ?_ _) | (with_reducible refine Kd.C_drewN ?_ _) | (with_reducible refine Kd.C_drew ?_)))
       (case side2=>exact HC863_1.out)
       (case side3=>repeat (first | exact (Kd.C_below HR864_1.out HB.out) | (with_reducible refine Kd.C_alloc ?_ _) | (with_reducible refine Kd.C_drewN ?_ _) | (with_reducible refine Kd.C_drew ?_)))
       (case side4=>exact HC864_1.out)
       rintro e w12 ⟨rfl,hb⟩;refine ⟨_,rfl,?_⟩;have n0_:=Aside0.mk (below_step (hs HB) hb);clear HB;have HB:=n0_;clear n0_
       (try clear hb)
       (try clear hb2)
       (try clear hk)
       (try clear hi)
       refine hK.out _ _ ⟨((HB.out.cell (World.block_lt_of_cell? w _ hw863_0)).trans hw863_0),((HB.out.cell (World.block_lt_of_cell? w _ hw863_1)).trans hw863_1),((HB.out.cell (World.block_lt_of_cell? w _ hw864_0)).trans hw864_0),((HB.out.cell (World.block_lt_of_cell? w _ hw864_1)).trans hw864_1)⟩ (fun hHeld=>?_);clear hK K;refine norm_ (a':=?_) ?_ ?_;rotate_left
       ·show Act.put _ (some 25) _ = _;simp only [Act.put,List.setIfInBounds_toArray,List.set_cons_zero,List.set_cons_succ,i64_w,i32_w];rfl
       refine pure_ (i:=9) (N:=some 26) (v:=?_) (a':=?_) #[true,true,true,true,true,true,true,true,true,true] rfl rfl (any_of HT_.out (by kernel_rfl)) (fun _ _ _ h=>h) (Or.inl ⟨by rfl,?_⟩) ?_ ?_;rotate_left
       ·intro w';go_simp;with_reducible rfl
       rotate_left
       ·simp only [Act.put,List.setIfInBounds_toArray,List.set_cons_zero,List.set_cons_succ,i64_w,i32_w];rfl
       refine done_ (done_of HT_.out (by kernel_rfl)) ?_
       try go_wp2
       go_ret
       exact ⟨by first | rfl | (simp [errW_none,errW_some] <;> rfl) | (simp [*,errW_none,errW_some] <;> rfl),hs HB⟩
      rw [if_neg c6] at H;exact absurd H (by simp)
     rw [if_neg c5] at H;exact absurd H (by simp)
    rw [if_neg c4] at H;have c4b0 : decide (x5_1 < (l0.length : Int)) = false:=decide_eq_false c4;clear c4;obtain rfl:=Option.some.inj H
    go_wp2
    go_ret
    exact ⟨by first | rfl | (simp [errW_none,errW_some] <;> rfl) | (simp [*,errW_none,errW_some] <;> rfl),hs HB⟩
 rw [if_neg c3] at H;have c3b0 : ((l0.length : Int) == (l1.length : Int)) = false:=beq_eq_false_iff_ne.mpr c3;have c3b1 : ((l0.length : Int) != (l1.length : Int)) = true:=bne_iff_ne.mpr c3;have c3b2 : (l0.length == l1.length) = false:=by first | simpa using c3 | (simp at c3 ⊢;omega)
 obtain rfl:=Option.some.inj H
 go_enter Try.func102,Try.ntmps102
 go_wp2
 go_ret
 exact ⟨by first | rfl | (simp [errW_none,errW_some] <;> rfl) | (simp [*,errW_none,errW_some] <;> rfl),hs HB⟩
end Go.Proofs.Ytdolplcbokioaaa.PB

namespace Go.Proofs.Ytdolplcbokioaaa.PB
open Go.RowKit Go.Proofs.YtdolplcbokioaaaW.PrintWords Go.Proofs.YtdolplcbokioaaaW.PrintLast Go.Proofs.YtdolplcbokioaaaW.PrintMore
attribute [local go_sem] max2_int min2_int max_two min_two max_three min_three max_four min_four   -- for this text's walks alone
set_option linter.unusedVariables false
set_option linter.unusedSimpArgs false
def laws_eqArena.f (k : Nat) (l0_0 : List (S133)) (l1_0 : List (S133)) : Option (Bool):=(laws_eqKnotS.f k l0_0 l1_0).bind fun t868=>(if t868 = true then (some true) else (some false))
theorem laws_eqArena.mono : ∀ a0 a1 k,LeO (laws_eqArena.f k a0 a1) (laws_eqArena.f (k + 1) a0 a1):=by
 intro a0 a1 k;unfold laws_eqArena.f
 repeat' first
   | (with_reducible exact laws_eqKnotS.mono _ _ _)
   | (with_reducible exact LeO.refl _)
   | (with_reducible exact LeO.none _)
   | (with_reducible refine LeO.ite ?_ ?_)
   | (with_reducible refine LeO.bind ?_ (fun _=>?_))
   | exact laws_eqKnotS.mono _ _ _
   | exact LeO.none _
   | refine LeO.ite ?_ ?_
   | refine LeO.bind ?_ (fun _=>?_)
set_option maxHeartbeats 8000000 in
set_option maxRecDepth 100000 in
theorem laws_eqArena.calls (k : Nat) (A0_0 : Option Addr) (c0_0 : Nat) (l0_0 : List (S133)) (A1_0 : Option Addr) (c1_0 : Nat) (l1_0 : List (S133)) (r : Bool) (w : World) (hr0_0 : Kd.C k133 w A0_0 l0_0.length l0_0) (hc0_0 : l0_0.length ≤ c0_0) (hr1_0 : Kd.C k133 w A1_0 l1_0.length l1_0) (hc1_0 : l1_0.length ≤ c1_0) (h : laws_eqArena.f k l0_0 l1_0 = some r) :
  Calls Try.prog 33 #[.agg #[.slice A0_0 l0_0.length c0_0],.agg #[.slice A1_0 l1_0.length c1_0]] w fun e w'=>e = .returned (.bool r) ∧ Below w.heap.size w w':=by
 have hu44:=Try.underlying44;have HR0_0:=Aside0.mk hr0_0;have HC0_0:=Aside0.mk hc0_0;clear hr0_0 hc0_0;have HR1_0:=Aside0.mk hr1_0;have HC1_0:=Aside0.mk hc1_0;clear hr1_0 hc1_0;have HB:=Aside0.mk (Below.refl w.heap.size w);have H : ((laws_eqKnotS.f k l0_0 l1_0).bind fun t868=>(if t868 = true then (some true) else (some false))) = some r:=h;clear h;replace H:=Option.bind_eq_some_iff.mp H;obtain ⟨t868,A30,H⟩:=H;replace H : (if t868 = true then (some true) else (some false)) = some r:=H;have A3:=Aside0.mk A30;clear A30
 by_cases c4 : t868 = true
 ·subst c4;have H1 : (some true) = some r:=by rw [if_pos rfl] at H;exact H
  clear H;have H:=H1;clear H1;obtain rfl:=Option.some.inj H
  go_enter Try.func33,Try.ntmps33
  go_wp2_with (first | ((with_reducible refine gate_dst (N:=2) rfl ?_);refine box_event ?hg (N:=2) ?hd (cs:=#[.slice A0_0 l0_0.length c0_0]) (t:=44) ?hr ?_;(case hd=>rfl);(case hg=>rfl);(case hr=>first | (go_simp;done) | (go_simp;rfl));intro gb866 hg w5 hbox hb;have n0_:=Aside0.mk (below_step (hs HB) hb);have n1_:=Aside0.mk (hbox);have n2_:=Aside0.mk ((by rw [hg];exact (below_size (hs HB)) : w.heap.size ≤ gb866));have n3_:=Aside0.mk ((by rw [hg];exact (below_size (hs HB)) : w.heap.size ≤ gb866));clear HB;have HB:=n0_;have BK866:=n1_;have GW866:=n2_;have GE866:=n3_;clear n0_ n1_ n2_ n3_;clear hb hbox hg) | ((with_reducible refine gate_dst (N:=3) rfl ?_);refine box_event ?hg (N:=3) ?hd (cs:=#[.slice A1_0 l1_0.length c1_0]) (t:=44) ?hr ?_;(case hd=>rfl);(case hg=>rfl);(case hr=>first | (go_simp;done) | (go_simp;rfl));intro gb867 hg w6 hbox hb;have n0_:=Aside0.mk (blk_below (g:=gb866) (o:=.cells #[.slice A0_0 l0_0.length c0_0] 44 (0,0)) (bs BK866) hb);have n1_:=Aside0.mk (below_step (hs1 HB GE866) hb);have n2_:=Aside0.mk (hbox);have n3_:=Aside0.mk ((by rw [hg];exact (below_size (hs1 HB GE866)) : w.heap.size ≤ gb867));have n4_:=Aside0.mk ((by rw [hg];exact (below_size (hs1 HB GE866)) : w.heap.size ≤ gb867));have n5_:=Aside0.mk ((by rw [hg];exact Nat.ne_of_lt (blk_lt (g:=gb866) (o:=.cells #[.slice A0_0 l0_0.length c0_0] 44 (0,0)) (bs BK866)) : gb866 ≠ gb867));have n6_:=Aside0.mk ((by rw [hg];exact Nat.ne_of_gt (blk_lt (g:=gb866) (o:=.cells #[.slice A0_0 l0_0.length c0_0] 44 (0,0)) (bs BK866)) : gb867 ≠ gb866));clear BK866;clear HB;have BK866:=n0_;have HB:=n1_;have BK867:=n2_;have GW867:=n3_;have GE867:=n4_;have NB866_867:=n5_;have NB867_866:=n6_;clear n0_ n1_ n2_ n3_ n4_ n5_ n6_;clear hb hbox hg;have hnb7:=NB866_867.out;have hnc7:=NB867_866.out;have hcz8_0 : w6.cell? ⟨gb866,0,none⟩ = some (.slice A0_0 l0_0.length c0_0):=(blk_cell BK866.out 0).trans rfl;have hfz8_0:=blk_frozen BK866.out 0;have hcz9_0 : w6.cell? ⟨gb867,0,none⟩ = some (.slice A1_0 l1_0.length c1_0):=(blk_cell BK867.out 0).trans rfl;have hfz9_0:=blk_frozen BK867.out 0) | ((with_reducible refine gate_callee (f:=102) rfl ?_);refine goesL_ (some 9) rfl rfl Try.func102 (by kernel_rfl) rfl #[.slice A0_0 l0_0.length c0_0,.slice A1_0 l1_0.length c1_0] rfl (by (try simp only [List.map_toArray,List.map_cons,List.map_nil]);first | done | rfl | (simp only [List.length_drop,List.length_take];rfl)) ?_;(with_reducible refine (laws_eqKnotS.calls k _ _ l0_0 _ _ l1_0 true _ ?side1 ?side2 ?side3 ?side4 A3.out).mono ?_);(case side1=>repeat (first | exact (Kd.C_below HR0_0.out HB.out) | (with_reducible refine Kd.C_alloc ?_ _) | (with_reducible refine Kd.C_drewN ?_ _) | (with_reducible refine Kd.C_drew ?_)));(case side2=>exact HC0_0.out);(case side3=>repeat (first | exact (Kd.C_below HR1_0.out HB.out) | (with_reducible refine Kd.C_alloc ?_ _) | (with_reducible refine Kd.C_drewN ?_ _) | (with_reducible refine Kd.C_drew ?_)));(case side4=>exact HC1_0.out);rintro e w10 ⟨rfl,hb⟩;refine ⟨_,rfl,?_⟩;have n0_:=Aside0.mk (blk_below (g:=gb866) (o:=.cells #[.slice A0_0 l0_0.length c0_0] 44 (0,0)) (bs BK866) hb);have n1_:=Aside0.mk (blk_below (g:=gb867) (o:=.cells #[.slice A1_0 l1_0.length c1_0] 44 (0,0)) (bs BK867) hb);have n2_:=Aside0.mk (below_step (hs2 HB GE866 GE867) hb);clear BK866;clear BK867;clear HB;have BK866:=n0_;have BK867:=n1_;have HB:=n2_;clear n0_ n1_ n2_;(try clear hb);(try clear hb2);(try clear hk);(try clear hi)))
  go_ret
  exact ⟨by first | rfl | (simp [errW_none,errW_some] <;> rfl) | (simp [*,errW_none,errW_some] <;> rfl),hs2 HB GE866 GE867⟩
 replace c4:=Bool.eq_false_iff.mpr c4;subst c4;have H1 : (some false) = some r:=by rw [if_neg (show ¬ (false = true) by decide)] at H;exact H
 clear H;have H:=H1;clear H1;obtain rfl:=Option.some.inj H
 go_enter Try.func33,Try.ntmps33
 go_wp2_with (first | ((with_reducible refine gate_dst (N:=2) rfl ?_);refine box_event ?hg (N:=2) ?hd (cs:=#[.slice A0_0 l0_0.length c0_0]) (t:=44) ?hr ?_;(case hd=>rfl);(case hg=>rfl);(case hr=>first | (go_simp;done) | (go_simp;rfl));intro gb866 hg w11 hbox hb;have n0_:=Aside0.mk (below_step (hs HB) hb);have n1_:=Aside0.mk (hbox);have n2_:=Aside0.mk ((by rw [hg];exact (below_size (hs HB)) : w.heap.size ≤ gb866));have n3_:=Aside0.mk ((by rw [hg];exact (below_size (hs HB)) : w.heap.size ≤ gb866));clear HB;have HB:=n0_;have BK866:=n1_;have GW866:=n2_;have GE866:=n3_;clear n0_ n1_ n2_ n3_;clear hb hbox hg) | ((with_reducible refine gate_dst (N:=3) rfl ?_);refine box_event ?hg (N:=3) ?hd (cs:=#[.slice A1_0 l1_0.length c1_0]) (t:=44) ?hr ?_;(case hd=>rfl);(case hg=>rfl);(case hr=>first | (go_simp;done) | (go_simp;rfl));intro gb867 hg w12 hbox hb;have n0_:=Aside0.mk (blk_below (g:=gb866) (o:=.cells #[.slice A0_0 l0_0.length c0_0] 44 (0,0)) (bs BK866) hb);have n1_:=Aside0.mk (below_step (hs1 HB GE866) hb);have n2_:=Aside0.mk (hbox);have n3_:=Aside0.mk ((by rw [hg];exact (below_size (hs1 HB GE866)) : w.heap.size ≤ gb867));have n4_:=Aside0.mk ((by rw [hg];exact (below_size (hs1 HB GE866)) : w.heap.size ≤ gb867));have n5_:=Aside0.mk ((by rw [hg];exact Nat.ne_of_lt (blk_lt (g:=gb866) (o:=.cells #[.slice A0_0 l0_0.length c0_0] 44 (0,0)) (bs BK866)) : gb866 ≠ gb867));have n6_:=Aside0.mk ((by rw [hg];exact Nat.ne_of_gt (blk_lt (g:=gb866) (o:=.cells #[.slice A0_0 l0_0.length c0_0] 44 (0,0)) (bs BK866)) : gb867 ≠ gb866));clear BK866;clear HB;have BK866:=n0_;have HB:=n1_;have BK867:=n2_;have GW867:=n3_;have GE867:=n4_;have NB866_867:=n5_;have NB867_866:=n6_;clear n0_ n1_ n2_ n3_ n4_ n5_ n6_;clear hb hbox hg;have hnb13:=NB866_867.out;have hnc13:=NB867_866.out;have hcz14_0 : w12.cell? ⟨gb866,0,none⟩ = some (.slice A0_0 l0_0.length c0_0):=(blk_cell BK866.out 0).trans rfl;have hfz14_0:=blk_frozen BK866.out 0;have hcz15_0 : w12.cell? ⟨gb867,0,none⟩ = some (.slice A1_0 l1_0.length c1_0):=(blk_cell BK867.out 0).trans rfl;have hfz15_0:=blk_frozen BK867.out 0) | ((with_reducible refine gate_callee (f:=102) rfl ?_);refine goesL_ (some 9) rfl rfl Try.func102 (by kernel_rfl) rfl #[.slice A0_0 l0_0.length c0_0,.slice A1_0 l1_0.length c1_0] rfl (by (try simp only [List.map_toArray,List.map_cons,List.map_nil]);first | done | rfl | (simp only [List.length_drop,List.length_take];rfl)) ?_;(with_reducible refine (laws_eqKnotS.calls k _ _ l0_0 _ _ l1_0 false _ ?side1 ?side2 ?side3 ?side4 A3.out).mono ?_);(case side1=>repeat (first | exact (Kd.C_below HR0_0.out HB.out) | (with_reducible refine Kd.C_alloc ?_ _) | (with_reducible refine Kd.C_drewN ?_ _) | (with_reducible refine Kd.C_drew ?_)));(case side2=>exact HC0_0.out);(case side3=>repeat (first | exact (Kd.C_below HR1_0.out HB.out) | (with_reducible refine Kd.C_alloc ?_ _) | (with_reducible refine Kd.C_drewN ?_ _) | (with_reducible refine Kd.C_drew ?_)));(case side4=>exact HC1_0.out);rintro e w16 ⟨rfl,hb⟩;refine ⟨_,rfl,?_⟩;have n0_:=Aside0.mk (blk_below (g:=gb866) (o:=.cells #[.slice A0_0 l0_0.length c0_0] 44 (0,0)) (bs BK866) hb);have n1_:=Aside0.mk (blk_below (g:=gb867) (o:=.cells #[.slice A1_0 l1_0.length c1_0] 44 (0,0)) (bs BK867) hb);have n2_:=Aside0.mk (below_step (hs2 HB GE866 GE867) hb);clear BK866;clear BK867;clear HB;have BK866:=n0_;have BK867:=n1_;have HB:=n2_;clear n0_ n1_ n2_;(try clear hb);(try clear hb2);(try clear hk);(try clear hi)))
 go_ret
 exact ⟨by first | rfl | (simp [errW_none,errW_some] <;> rfl) | (simp [*,errW_none,errW_some] <;> rfl),hs2 HB GE866 GE867⟩
end Go.Proofs.Ytdolplcbokioaaa.PB

namespace Go.Proofs.Ytdolplcbokioaaa.PB
open Go.RowKit Go.Proofs.YtdolplcbokioaaaW.PrintWords Go.Proofs.YtdolplcbokioaaaW.PrintLast Go.Proofs.YtdolplcbokioaaaW.PrintMore
attribute [local go_sem] max2_int min2_int max_two min_two max_three min_three max_four min_four   -- for this text's walks alone
set_option linter.unusedVariables false
set_option linter.unusedSimpArgs false
def laws_heldIntS.l0 : Nat → List Int → Int → Int → Option (Int)
 | 0,_,_,_=>none
 | k + 1,x0,x1,x5=>if x5 < (x0.length : Int) then (if 0 ≤ x5 then (if (rd x0 x5) = x1 then (laws_heldIntS.l0 k x0 (wrap64 (x1 + 1)) (wrap64 (x5 + 1))) else (some (-1))) else (none)) else (some x1)
def laws_heldIntS.f (k : Nat) (l0 : List Int) (a1 : Int) : Option (Int):=laws_heldIntS.l0 k l0 a1 0
theorem laws_heldIntS.mono_l : ∀ k,(∀ y0 y1 y2,LeO (laws_heldIntS.l0 k y0 y1 y2) (laws_heldIntS.l0 (k + 1) y0 y1 y2))
 | 0=>fun _ _ _ r h=>by simp [laws_heldIntS.l0] at h
 | k + 1=>by
  have ih0:=laws_heldIntS.mono_l k;intro y0 y1 y2;unfold laws_heldIntS.l0
  repeat' first
  | (with_reducible exact ih0 _ _ _)
  | (with_reducible exact LeO.refl _)
  | (with_reducible exact LeO.none _)
  | (with_reducible refine LeO.ite ?_ ?_)
  | (with_reducible refine LeO.bind ?_ (fun _=>?_))
  | exact ih0 _ _ _
  | exact LeO.none _
  | refine LeO.ite ?_ ?_
  | refine LeO.bind ?_ (fun _=>?_)
theorem laws_heldIntS.mono : ∀ a0 a1 k,LeO (laws_heldIntS.f k a0 a1) (laws_heldIntS.f (k + 1) a0 a1):=by
 intro a0 a1 k;have ih0:=laws_heldIntS.mono_l k;unfold laws_heldIntS.f
 repeat' first
   | (with_reducible exact ih0 _ _ _)
   | (with_reducible exact LeO.refl _)
   | (with_reducible exact LeO.none _)
   | (with_reducible refine LeO.ite ?_ ?_)
   | (with_reducible refine LeO.bind ?_ (fun _=>?_))
   | exact ih0 _ _ _
   | exact LeO.none _
   | refine LeO.ite ?_ ?_
   | refine LeO.bind ?_ (fun _=>?_)
set_option maxHeartbeats 8000000 in
set_option maxRecDepth 100000 in
theorem laws_heldIntS.calls (k : Nat) (A0 : Option Addr) (c0 : Nat) (l0 : List Int) (a1 : Int) (r : Int) (w : World) (hr0 : Kd.C (Kd.int .i64) w A0 l0.length l0) (hc0 : l0.length ≤ c0) (h : laws_heldIntS.f k l0 a1 = some r) :
  Calls Try.prog 76 #[.slice A0 l0.length c0,.int .i64 a1] w fun e w'=>e = .returned (.int .i64 r) ∧ Drawn0 w w':=by
 have HR0:=Aside0.mk hr0;have HC0:=Aside0.mk hc0;clear hr0 hc0;have H : (laws_heldIntS.l0 k l0 a1 0) = some r:=h;clear h;have H':=Aside0.mk H;clear H
 go_enter Try.func76,Try.ntmps76
 go_wp2
 go_loopg [1,5] k (fun kq v1 v5 w'=>∃ (x1_1 : Int) (x5_1 : Int),v1 = .int .i64 x1_1 ∧ v5 = .int .i64 x5_1 ∧ Aside0 (laws_heldIntS.l0 kq l0 x1_1 x5_1 = some r) ∧ Aside0 (kq ≤ k) ∧ Drawn0 w w');case atStart=>exact ⟨(a1),(0),(by first | rfl | (simp;done) | (simp [*];done)),(by first | rfl | (simp;done) | (simp [*];done)),H',⟨Nat.le_refl _⟩,by repeat (first | exact Drawn0.refl _ | apply Drawn0.step)⟩
 case round =>
  clear H'
  try clear p2
  obtain ⟨x1_1,x5_1,rfl,rfl,HA,HK1,⟨m1,rfl⟩⟩:=hrel;cases gk with
  | zero=>exact absurd HA.out (by simp [laws_heldIntS.l0])
  | succ k1 =>
   have H:=HA.out;clear HA;simp only [laws_heldIntS.l0] at H
   by_cases c3 : x5_1 < (l0.length : Int)
   ·rw [if_pos c3] at H;have c3b0 : decide (x5_1 < (l0.length : Int)) = true:=decide_eq_true c3;clear c3
    by_cases c4 : 0 ≤ x5_1
    ·rw [if_pos c4] at H;have c4b0 : decide (0 ≤ x5_1) = true:=decide_eq_true c4;clear c4
     by_cases c5 : (rd l0 x5_1) = x1_1
     ·rw [if_pos c5] at H;have c5b0 : ((rd l0 x5_1) == x1_1) = true:=beq_iff_eq.mpr c5;have c5b1 : ((rd l0 x5_1) != x1_1) = false:=bne_eq_false_iff_eq.mpr c5;clear c5;have H':=Aside0.mk H;clear H;have p873 : 0 ≤ (x5_1 : Int):=of_decide_eq_true (by first | (with_reducible assumption) | assumption);have q873 : x5_1 < (l0.length : Int):=of_decide_eq_true (by first | (with_reducible assumption) | assumption);obtain ⟨ad873,e873,hx873_0⟩:=Kd.at_int HR0.out x5_1 p873 q873;cases e873;replace p873:=eq_true p873;replace q873:=eq_true q873
      go_wp2
      go_roundg k1;case measure=>have:=HK1.out;omega
      case rel=>exact ⟨(wrap64 (x1_1 + 1)),(wrap64 (x5_1 + 1)),(by first | rfl | (simp;done) | (simp [*];done)),(by first | rfl | (simp;done) | (simp [*];done)),H',⟨by have:=HK1.out;omega⟩,by repeat (first | exact Drawn0.refl _ | apply Drawn0.step)⟩
     rw [if_neg c5] at H;have c5b0 : ((rd l0 x5_1) == x1_1) = false:=beq_eq_false_iff_ne.mpr c5;have c5b1 : ((rd l0 x5_1) != x1_1) = true:=bne_iff_ne.mpr c5;obtain rfl:=Option.some.inj H;have p873 : 0 ≤ (x5_1 : Int):=of_decide_eq_true (by first | (with_reducible assumption) | assumption);have q873 : x5_1 < (l0.length : Int):=of_decide_eq_true (by first | (with_reducible assumption) | assumption);obtain ⟨ad873,e873,hx873_0⟩:=Kd.at_int HR0.out x5_1 p873 q873;cases e873;replace p873:=eq_true p873;replace q873:=eq_true q873
     go_wp2
     go_ret
     exact ⟨by first | rfl | (simp;done) | (simp [*];done),by repeat (first | exact Drawn0.refl _ | apply Drawn0.step)⟩
    rw [if_neg c4] at H;exact absurd H (by simp)
   rw [if_neg c3] at H;have c3b0 : decide (x5_1 < (l0.length : Int)) = false:=decide_eq_false c3;clear c3;obtain rfl:=Option.some.inj H
   go_wp2
   go_ret
   exact ⟨by first | rfl | (simp;done) | (simp [*];done),by repeat (first | exact Drawn0.refl _ | apply Drawn0.step)⟩
end Go.Proofs.Ytdolplcbokioaaa.PB

namespace Go.Proofs.Ytdolplcbokioaaa.PB
open Go.RowKit Go.Proofs.YtdolplcbokioaaaW.PrintWords Go.Proofs.YtdolplcbokioaaaW.PrintLast Go.Proofs.YtdolplcbokioaaaW.PrintMore
attribute [local go_sem] max2_int min2_int max_two min_two max_three min_three max_four min_four   -- for this text's walks alone
set_option linter.unusedVariables false
set_option linter.unusedSimpArgs false
def laws_heldKnotS.l0 : Nat → List (S133) → Int → Int → Option (Int)
 | 0,_,_,_=>none
 | k + 1,x0,x1,x5=>if x5 < (x0.length : Int) then (if 0 ≤ x5 then (if (((rd_T133 x0 x5).f0) != ((Int.tmod x1 3) == 0)) = true then (some (-1)) else ((laws_heldIntS.f k ((rd_T133 x0 x5).f1) (wrap64 (x1 + 1))).bind fun t876=>(if t876 < 0 then (some (-1)) else (laws_heldKnotS.l0 k x0 t876 (wrap64 (x5 + 1)))))) else (none)) else (some x1)
def laws_heldKnotS.f (k : Nat) (l0 : List (S133)) (a1 : Int) : Option (Int):=laws_heldKnotS.l0 k l0 a1 0
theorem laws_heldKnotS.mono_l : ∀ k,(∀ y0 y1 y2,LeO (laws_heldKnotS.l0 k y0 y1 y2) (laws_heldKnotS.l0 (k + 1) y0 y1 y2))
 | 0=>fun _ _ _ r h=>by simp [laws_heldKnotS.l0] at h
 | k + 1=>by
  have ih0:=laws_heldKnotS.mono_l k;intro y0 y1 y2;unfold laws_heldKnotS.l0
  repeat' first
  | (with_reducible exact ih0 _ _ _)
  | (with_reducible exact laws_heldIntS.mono _ _ _)
  | (with_reducible exact LeO.refl _)
  | (with_reducible exact LeO.none _)
  | (with_reducible refine LeO.ite ?_ ?_)
  | (with_reducible refine LeO.bind ?_ (fun _=>?_))
  | exact ih0 _ _ _
  | exact laws_heldIntS.mono _ _ _
  | exact LeO.none _
  | refine LeO.ite ?_ ?_
  | refine LeO.bind ?_ (fun _=>?_)
theorem laws_heldKnotS.mono : ∀ a0 a1 k,LeO (laws_heldKnotS.f k a0 a1) (laws_heldKnotS.f (k + 1) a0 a1):=by
 intro a0 a1 k;have ih0:=laws_heldKnotS.mono_l k;unfold laws_heldKnotS.f
 repeat' first
   | (with_reducible exact ih0 _ _ _)
   | (with_reducible exact laws_heldIntS.mono _ _ _)
   | (with_reducible exact LeO.refl _)
   | (with_reducible exact LeO.none _)
   | (with_reducible refine LeO.ite ?_ ?_)
   | (with_reducible refine LeO.bind ?_ (fun _=>?_))
   | exact ih0 _ _ _
   | exact laws_heldIntS.mono _ _ _
   | exact LeO.none _
   | refine LeO.ite ?_ ?_
   | refine LeO.bind ?_ (fun _=>?_)
set_option maxHeartbeats 8000000 in
set_option maxRecDepth 100000 in
theorem laws_heldKnotS.calls (k : Nat) (A0 : Option Addr) (c0 : Nat) (l0 : List (S133)) (a1 : Int) (r : Int) (w : World) (hr0 : Kd.C k133 w A0 l0.length l0) (hc0 : l0.length ≤ c0) (h : laws_heldKnotS.f k l0 a1 = some r) :
  Calls Try.prog 104 #[.slice A0 l0.length c0,.int .i64 a1] w fun e w'=>e = .returned (.int .i64 r) ∧ Drawn0 w w':=by
 have HR0:=Aside0.mk hr0;have HC0:=Aside0.mk hc0;clear hr0 hc0;have H : (laws_heldKnotS.l0 k l0 a1 0) = some r:=h;clear h;have H':=Aside0.mk H;clear H
 go_enter Try.func104,Try.ntmps104
 go_wp2
 go_loopg [1,5] k (fun kq v1 v5 w'=>∃ (x1_1 : Int) (x5_1 : Int),v1 = .int .i64 x1_1 ∧ v5 = .int .i64 x5_1 ∧ Aside0 (laws_heldKnotS.l0 kq l0 x1_1 x5_1 = some r) ∧ Aside0 (kq ≤ k) ∧ Drawn0 w w');case atStart=>exact ⟨(a1),(0),(by first | rfl | (simp;done) | (simp [*];done)),(by first | rfl | (simp;done) | (simp [*];done)),H',⟨Nat.le_refl _⟩,by repeat (first | exact Drawn0.refl _ | apply Drawn0.step)⟩
 case round =>
  clear H'
  try clear c1
  try clear p2
  obtain ⟨x1_1,x5_1,rfl,rfl,HA,HK1,⟨m1,rfl⟩⟩:=hrel;cases gk with
  | zero=>exact absurd HA.out (by simp [laws_heldKnotS.l0])
  | succ k1 =>
   have H:=HA.out;clear HA;simp only [laws_heldKnotS.l0] at H
   by_cases c3 : x5_1 < (l0.length : Int)
   ·rw [if_pos c3] at H;have c3b0 : decide (x5_1 < (l0.length : Int)) = true:=decide_eq_true c3;clear c3
    by_cases c4 : 0 ≤ x5_1
    ·rw [if_pos c4] at H;have c4b0 : decide (0 ≤ x5_1) = true:=decide_eq_true c4;clear c4
     by_cases c5 : (((rd_T133 l0 x5_1).f0) != ((Int.tmod x1_1 3) == 0)) = true
     ·rw [if_pos c5] at H;have c5b0 : (((rd_T133 l0 x5_1).f0) != ((Int.tmod x1_1 3) == 0)) = true:=c5
      (try (have c5b1 : decide (((rd_T133 l0 x5_1).f0) = ((Int.tmod x1_1 3) == 0)) = false:=by simpa using c5))
      (try (have c5b2 : (((rd_T133 l0 x5_1).f0) == ((Int.tmod x1_1 3) == 0)) = false:=by simpa using c5))
      (try (have c5b3 : ¬ (((rd_T133 l0 x5_1).f0) = ((Int.tmod x1_1 3) == 0)):=by simpa using c5))
      clear c5;obtain rfl:=Option.some.inj H;have p874 : 0 ≤ (x5_1 : Int):=of_decide_eq_true (by first | (with_reducible assumption) | assumption);have q874 : x5_1 < (l0.length : Int):=of_decide_eq_true (by first | (with_reducible assumption) | assumption);obtain ⟨ad874,A874_1,c874_1,e874,hx874_0,hx874_1,hl874_1,hi874_1⟩:=at_T133 HR0.out x5_1 p874 q874;cases e874;have HR874_1:=Aside0.mk hi874_1;have HC874_1:=Aside0.mk hl874_1;clear hi874_1 hl874_1;replace p874:=eq_true p874;replace q874:=eq_true q874
      go_wp2
      go_ret
      exact ⟨by first | rfl | (simp;done) | (simp [*];done),by repeat (first | exact Drawn0.refl _ | apply Drawn0.step)⟩
     rw [if_neg c5] at H;have c5b0 : (((rd_T133 l0 x5_1).f0) != ((Int.tmod x1_1 3) == 0)) = false:=by simpa using c5
     (try (have c5b1 : decide (((rd_T133 l0 x5_1).f0) = ((Int.tmod x1_1 3) == 0)) = true:=by simpa using c5))
     (try (have c5b2 : (((rd_T133 l0 x5_1).f0) == ((Int.tmod x1_1 3) == 0)) = true:=by simpa using c5))
     clear c5;replace H:=Option.bind_eq_some_iff.mp H;obtain ⟨t876,A60,H⟩:=H;replace H : (if t876 < 0 then (some (-1)) else (laws_heldKnotS.l0 k1 l0 t876 (wrap64 (x5_1 + 1)))) = some r:=H;have A6:=Aside0.mk A60;clear A60
     by_cases c7 : t876 < 0
     ·rw [if_pos c7] at H;have c7b0 : decide (t876 < 0) = true:=decide_eq_true c7;clear c7;obtain rfl:=Option.some.inj H;have p874 : 0 ≤ (x5_1 : Int):=of_decide_eq_true (by first | (with_reducible assumption) | assumption);have q874 : x5_1 < (l0.length : Int):=of_decide_eq_true (by first | (with_reducible assumption) | assumption);obtain ⟨ad874,A874_1,c874_1,e874,hx874_0,hx874_1,hl874_1,hi874_1⟩:=at_T133 HR0.out x5_1 p874 q874;cases e874;have HR874_1:=Aside0.mk hi874_1;have HC874_1:=Aside0.mk hl874_1;clear hi874_1 hl874_1;replace p874:=eq_true p874;replace q874:=eq_true q874;have p875 : 0 ≤ (x5_1 : Int):=of_decide_eq_true (by first | (with_reducible assumption) | assumption);have q875 : x5_1 < (l0.length : Int):=of_decide_eq_true (by first | (with_reducible assumption) | assumption);obtain ⟨ad875,A875_1,c875_1,e875,hx875_0,hx875_1,hl875_1,hi875_1⟩:=at_T133 HR0.out x5_1 p875 q875;obtain rfl : ad874 = ad875:=(by injection e875);have HR875_1:=Aside0.mk hi875_1;have HC875_1:=Aside0.mk hl875_1;clear hi875_1 hl875_1;replace p875:=eq_true p875;replace q875:=eq_true q875;have ea_:=Option.some.inj (hx874_1.symm.trans hx875_1);injection ea_ with ea_ en_ ec_;subst ea_;subst ec_;clear en_;go_wp2_with (first | ((with_reducible refine gate_callee (f:=76) rfl ?_);refine goesL_ (some 29) rfl rfl Try.func76 (by kernel_rfl) rfl #[.slice A874_1 ((rd_T133 l0 x5_1).f1).length c874_1,.int .i64 (wrap64 (x1_1 + 1))] rfl (by (try simp only [List.map_toArray,List.map_cons,List.map_nil]);first | done | rfl | (simp only [List.length_drop,List.length_take];rfl)) ?_;(with_reducible refine (laws_heldIntS.calls k1 _ _ ((rd_T133 l0 x5_1).f1) (wrap64 (x1_1 + 1)) t876 _ ?side1 ?side2 A6.out).mono ?_);(case side1=>repeat (first | exact HR875_1.out | (with_reducible refine Kd.C_alloc ?_ _) | (with_reducible refine Kd.C_drewN ?_ _) | (with_reducible refine Kd.C_drew ?_)));(case side2=>exact HC875_1.out);rintro e w' ⟨rfl,⟨nd,rfl⟩⟩;refine ⟨_,rfl,?_⟩))
      go_ret
      exact ⟨by first | rfl | (simp;done) | (simp [*];done),by repeat (first | exact Drawn0.refl _ | apply Drawn0.step)⟩
     rw [if_neg c7] at H;have c7b0 : decide (t876 < 0) = false:=decide_eq_false c7;clear c7;have H':=Aside0.mk H;clear H;have p874 : 0 ≤ (x5_1 : Int):=of_decide_eq_true (by first | (with_reducible assumption) | assumption);have q874 : x5_1 < (l0.length : Int):=of_decide_eq_true (by first | (with_reducible assumption) | assumption);obtain ⟨ad874,A874_1,c874_1,e874,hx874_0,hx874_1,hl874_1,hi874_1⟩:=at_T133 HR0.out x5_1 p874 q874;cases e874;have HR874_1:=Aside0.mk hi874_1;have HC874_1:=Aside0.mk hl874_1;clear hi874_1 hl874_1;replace p874:=eq_true p874;replace q874:=eq_true q874;have p875 : 0 ≤ (x5_1 : Int):=of_decide_eq_true (by first | (with_reducible assumption) | assumption);have q875 : x5_1 < (l0.length : Int):=of_decide_eq_true (by first | (with_reducible assumption) | assumption);obtain ⟨ad875,A875_1,c875_1,e875,hx875_0,hx875_1,hl875_1,hi875_1⟩:=at_T133 HR0.out x5_1 p875 q875;obtain rfl : ad874 = ad875:=(by injection e875);have HR875_1:=Aside0.mk hi875_1;have HC875_1:=Aside0.mk hl875_1;clear hi875_1 hl875_1;replace p875:=eq_true p875;replace q875:=eq_true q875;have ea_:=Option.some.inj (hx874_1.symm.trans hx875_1);injection ea_ with ea_ en_ ec_;subst ea_;subst ec_;clear en_;go_wp2_with (first | ((with_reducible refine gate_callee (f:=76) rfl ?_);refine goesL_ (some 29) rfl rfl Try.func76 (by kernel_rfl) rfl #[.slice A874_1 ((rd_T133 l0 x5_1).f1).length c874_1,.int .i64 (wrap64 (x1_1 + 1))] rfl (by (try simp only [List.map_toArray,List.map_cons,List.map_nil]);first | done | rfl | (simp only [List.length_drop,List.length_take];rfl)) ?_;(with_reducible refine (laws_heldIntS.calls k1 _ _ ((rd_T133 l0 x5_1).f1) (wrap64 (x1_1 + 1)) t876 _ ?side1 ?side2 A6.out).mono ?_);(case side1=>repeat (first | exact HR875_1.out | (with_reducible refine Kd.C_alloc ?_ _) | (with_reducible refine Kd.C_drewN ?_ _) | (with_reducible refine Kd.C_drew ?_)));(case side2=>exact HC875_1.out);rintro e w' ⟨rfl,⟨nd,rfl⟩⟩;refine ⟨_,rfl,?_⟩));go_roundg k1;case measure=>have:=HK1.out;omega
     case rel=>exact ⟨(t876),(wrap64 (x5_1 + 1)),(by first | rfl | (simp;done) | (simp [*];done)),(by first | rfl | (simp;done) | (simp [*];done)),H',⟨by have:=HK1.out;omega⟩,by repeat (first | exact Drawn0.refl _ | apply Drawn0.step)⟩
    rw [if_neg c4] at H;exact absurd H (by simp)
   rw [if_neg c3] at H;have c3b0 : decide (x5_1 < (l0.length : Int)) = false:=decide_eq_false c3;clear c3;obtain rfl:=Option.some.inj H
   go_wp2
   go_ret
   exact ⟨by first | rfl | (simp;done) | (simp [*];done),by repeat (first | exact Drawn0.refl _ | apply Drawn0.step)⟩
end Go.Proofs.Ytdolplcbokioaaa.PB

namespace Go.Proofs.Ytdolplcbokioaaa.PB
open Go.RowKit Go.Proofs.YtdolplcbokioaaaW.PrintWords Go.Proofs.YtdolplcbokioaaaW.PrintLast Go.Proofs.YtdolplcbokioaaaW.PrintMore
attribute [local go_sem] max2_int min2_int max_two min_two max_three min_three max_four min_four   -- for this text's walks alone
set_option linter.unusedVariables false
set_option linter.unusedSimpArgs false
def laws_heldArena.f (k : Nat) (l0_0 : List (S133)) (a1 : Int) : Option (Int):=(laws_heldKnotS.f k l0_0 a1).bind fun t878=>(if t878 < 0 then (some (-1)) else (some t878))
theorem laws_heldArena.mono : ∀ a0 a1 k,LeO (laws_heldArena.f k a0 a1) (laws_heldArena.f (k + 1) a0 a1):=by
 intro a0 a1 k;unfold laws_heldArena.f
 repeat' first
   | (with_reducible exact laws_heldKnotS.mono _ _ _)
   | (with_reducible exact LeO.refl _)
   | (with_reducible exact LeO.none _)
   | (with_reducible refine LeO.ite ?_ ?_)
   | (with_reducible refine LeO.bind ?_ (fun _=>?_))
   | exact laws_heldKnotS.mono _ _ _
   | exact LeO.none _
   | refine LeO.ite ?_ ?_
   | refine LeO.bind ?_ (fun _=>?_)
set_option maxHeartbeats 8000000 in
set_option maxRecDepth 100000 in
theorem laws_heldArena.calls (k : Nat) (A0_0 : Option Addr) (c0_0 : Nat) (l0_0 : List (S133)) (a1 : Int) (r : Int) (w : World) (hr0_0 : Kd.C k133 w A0_0 l0_0.length l0_0) (hc0_0 : l0_0.length ≤ c0_0) (h : laws_heldArena.f k l0_0 a1 = some r) :
  Calls Try.prog 35 #[.agg #[.slice A0_0 l0_0.length c0_0],.int .i64 a1] w fun e w'=>e = .returned (.int .i64 r) ∧ Below w.heap.size w w':=by
 have hu44:=Try.underlying44;have HR0_0:=Aside0.mk hr0_0;have HC0_0:=Aside0.mk hc0_0;clear hr0_0 hc0_0;have HB:=Aside0.mk (Below.refl w.heap.size w);have H : ((laws_heldKnotS.f k l0_0 a1).bind fun t878=>(if t878 < 0 then (some (-1)) else (some t878))) = some r:=h;clear h;replace H:=Option.bind_eq_some_iff.mp H;obtain ⟨t878,A30,H⟩:=H;replace H : (if t878 < 0 then (some (-1)) else (some t878)) = some r:=H;have A3:=Aside0.mk A30;clear A30
 by_cases c4 : t878 < 0
 ·rw [if_pos c4] at H;have c4b0 : decide (t878 < 0) = true:=decide_eq_true c4;clear c4;obtain rfl:=Option.some.inj H
  go_enter Try.func35,Try.ntmps35
  go_wp2_with (first | ((with_reducible refine gate_dst (N:=2) rfl ?_);refine box_event ?hg (N:=2) ?hd (cs:=#[.slice A0_0 l0_0.length c0_0]) (t:=44) ?hr ?_;(case hd=>rfl);(case hg=>rfl);(case hr=>first | (go_simp;done) | (go_simp;rfl));intro gb877 hg w5 hbox hb;have n0_:=Aside0.mk (below_step (hs HB) hb);have n1_:=Aside0.mk (hbox);have n2_:=Aside0.mk ((by rw [hg];exact (below_size (hs HB)) : w.heap.size ≤ gb877));have n3_:=Aside0.mk ((by rw [hg];exact (below_size (hs HB)) : w.heap.size ≤ gb877));clear HB;have HB:=n0_;have BK877:=n1_;have GW877:=n2_;have GE877:=n3_;clear n0_ n1_ n2_ n3_;clear hb hbox hg;have hcz6_0 : w5.cell? ⟨gb877,0,none⟩ = some (.slice A0_0 l0_0.length c0_0):=(blk_cell BK877.out 0).trans rfl;have hfz6_0:=blk_frozen BK877.out 0) | ((with_reducible refine gate_callee (f:=104) rfl ?_);refine goesL_ (some 8) rfl rfl Try.func104 (by kernel_rfl) rfl #[.slice A0_0 l0_0.length c0_0,.int .i64 a1] rfl (by (try simp only [List.map_toArray,List.map_cons,List.map_nil]);first | done | rfl | (simp only [List.length_drop,List.length_take];rfl)) ?_;(with_reducible refine (laws_heldKnotS.calls k _ _ l0_0 a1 t878 _ ?side1 ?side2 A3.out).mono ?_);(case side1=>repeat (first | exact (Kd.C_below HR0_0.out HB.out) | (with_reducible refine Kd.C_alloc ?_ _) | (with_reducible refine Kd.C_drewN ?_ _) | (with_reducible refine Kd.C_drew ?_)));(case side2=>exact HC0_0.out);rintro e w' ⟨rfl,⟨nd,rfl⟩⟩;refine ⟨_,rfl,?_⟩))
  go_ret
  exact ⟨by first | rfl | (simp [errW_none,errW_some] <;> rfl) | (simp [*,errW_none,errW_some] <;> rfl),hs1 HB GE877⟩
 rw [if_neg c4] at H;have c4b0 : decide (t878 < 0) = false:=decide_eq_false c4;clear c4;obtain rfl:=Option.some.inj H
 go_enter Try.func35,Try.ntmps35
 go_wp2_with (first | ((with_reducible refine gate_dst (N:=2) rfl ?_);refine box_event ?hg (N:=2) ?hd (cs:=#[.slice A0_0 l0_0.length c0_0]) (t:=44) ?hr ?_;(case hd=>rfl);(case hg=>rfl);(case hr=>first | (go_simp;done) | (go_simp;rfl));intro gb877 hg w7 hbox hb;have n0_:=Aside0.mk (below_step (hs HB) hb);have n1_:=Aside0.mk (hbox);have n2_:=Aside0.mk ((by rw [hg];exact (below_size (hs HB)) : w.heap.size ≤ gb877));have n3_:=Aside0.mk ((by rw [hg];exact (below_size (hs HB)) : w.heap.size ≤ gb877));clear HB;have HB:=n0_;have BK877:=n1_;have GW877:=n2_;have GE877:=n3_;clear n0_ n1_ n2_ n3_;clear hb hbox hg;have hcz8_0 : w7.cell? ⟨gb877,0,none⟩ = some (.slice A0_0 l0_0.length c0_0):=(blk_cell BK877.out 0).trans rfl;have hfz8_0:=blk_frozen BK877.out 0) | ((with_reducible refine gate_callee (f:=104) rfl ?_);refine goesL_ (some 8) rfl rfl Try.func104 (by kernel_rfl) rfl #[.slice A0_0 l0_0.length c0_0,.int .i64 a1] rfl (by (try simp only [List.map_toArray,List.map_cons,List.map_nil]);first | done | rfl | (simp only [List.length_drop,List.length_take];rfl)) ?_;(with_reducible refine (laws_heldKnotS.calls k _ _ l0_0 a1 t878 _ ?side1 ?side2 A3.out).mono ?_);(case side1=>repeat (first | exact (Kd.C_below HR0_0.out HB.out) | (with_reducible refine Kd.C_alloc ?_ _) | (with_reducible refine Kd.C_drewN ?_ _) | (with_reducible refine Kd.C_drew ?_)));(case side2=>exact HC0_0.out);rintro e w' ⟨rfl,⟨nd,rfl⟩⟩;refine ⟨_,rfl,?_⟩))
 go_ret
 exact ⟨by first | rfl | (simp [errW_none,errW_some] <;> rfl) | (simp [*,errW_none,errW_some] <;> rfl),hs1 HB GE877⟩
end Go.Proofs.Ytdolplcbokioaaa.PB

namespace Go.Proofs.Ytdolplcbokioaaa.PB
open Go.RowKit Go.Proofs.YtdolplcbokioaaaW.PrintWords Go.Proofs.YtdolplcbokioaaaW.PrintLast Go.Proofs.YtdolplcbokioaaaW.PrintMore
attribute [local go_sem] max2_int min2_int max_two min_two max_three min_three max_four min_four
set_option linter.unusedVariables false
set_option linter.unusedSimpArgs false
def laws_FnExactPutAt.f (k : Nat) (l0_0 : List (S175)) (a1 : Int) (a2 : Int) (a3 : Int) : Option (Bool):=((laws_szArena.f k l0_0 1048576).bind fun t3=>(if t3 < 0 then (some true) else ((laws_toArena.f k l0_0).bind fun t5=>((spec_PutAt.f k t5 a1 a2 a3).bind fun b3=>((laws_toArena.f k l0_0).bind fun t13=>((impl_PutAt.f k t13 a1 a2 a3).bind fun b5=>((laws_eqArena.f k b5.1 b3.1).bind fun t22=>(if t22 = true then (if b5.2 = b3.2 then ((laws_toArena.f k l0_0).bind fun t24=>((laws_eqArena.f k t13 t24).bind fun t27=>(if t27 = true then ((laws_markArena.f k t13 1).bind fun b12=>((laws_eqArena.f k b5.1 b3.1).bind fun t32=>(if t32 = true then (if b12.1 < 0 then (some false) else (if b5.2 = b3.2 then ((laws_markArena.f k b5.1 1).bind fun b17=>((laws_heldArena.f k b17.2 1).bind fun t37=>(if t37 < 0 then (some false) else (if t37 = b17.1 then ((laws_toArena.f k l0_0).bind fun t39=>((impl_PutAt.f k t39 a1 a2 a3).bind fun b22=>((laws_eqArena.f k b22.1 b3.1).bind fun t47=>(if t47 = true then (if b22.2 = b3.2 then ((laws_heldArena.f k b17.2 1).bind fun t49=>(if t49 < 0 then (some false) else (if t49 = b17.1 then (some true) else (some false)))) else (some false)) else (some false))))) else (some false))))) else (some false))) else (some false)))) else (some false)))) else (some false)) else (some false)))))))))
theorem laws_FnExactPutAt.mono : ∀ a0 a1 a2 a3 k,LeO (laws_FnExactPutAt.f k a0 a1 a2 a3) (laws_FnExactPutAt.f (k + 1) a0 a1 a2 a3):=by
 intro a0 a1 a2 a3 k;unfold laws_FnExactPutAt.f
 repeat' first
   | (with_reducible exact impl_PutAt.mono _ _ _ _ _)
   | (with_reducible exact laws_eqArena.mono _ _ _)
   | (with_reducible exact laws_heldArena.mono _ _ _)
   | (with_reducible exact laws_markArena.mono _ _ _)
   | (with_reducible exact laws_szArena.mono _ _ _)
   | (with_reducible exact laws_toArena.mono _ _)
   | (with_reducible exact spec_PutAt.mono _ _ _ _ _)
   | (with_reducible exact LeO.refl _)
   | (with_reducible exact LeO.none _)
   | (with_reducible refine LeO.ite ?_ ?_)
   | (with_reducible refine LeO.bind ?_ (fun _=>?_))
   | exact impl_PutAt.mono _ _ _ _ _
   | exact laws_eqArena.mono _ _ _
   | exact laws_heldArena.mono _ _ _
   | exact laws_markArena.mono _ _ _
   | exact laws_szArena.mono _ _ _
   | exact laws_toArena.mono _ _
   | exact spec_PutAt.mono _ _ _ _ _
   | exact LeO.none _
   | refine LeO.ite ?_ ?_
   | refine LeO.bind ?_ (fun _=>?_)
set_option maxHeartbeats 8000000 in
set_option maxRecDepth 100000 in
theorem laws_FnExactPutAt.calls (k : Nat) (A0_0 : Option Addr) (c0_0 : Nat) (l0_0 : List (S175)) (a1 : Int) (a2 : Int) (a3 : Int) (r : Bool) (hT : Aside0 (r = true)) (w : World) (hr0_0 : Kd.C k175 w A0_0 l0_0.length l0_0) (hc0_0 : l0_0.length ≤ c0_0) (h : laws_FnExactPutAt.f k l0_0 a1 a2 a3 = some r) :
  Calls Try.prog 5 #[.agg #[.slice A0_0 l0_0.length c0_0],.int .i64 a1,.int .i64 a2,.int .i64 a3] w fun e w'=>e = .returned (.bool r) ∧ Below w.heap.size w w':=by
 have HR0_0:=Aside0.mk hr0_0;have HC0_0:=Aside0.mk hc0_0;clear hr0_0 hc0_0;have HB:=Aside0.mk (Below.refl w.heap.size w);have HL:=Aside0.mk (Nat.le_refl w.heap.size);have H : ((laws_szArena.f k l0_0 1048576).bind fun t3=>(if t3 < 0 then (some true) else ((laws_toArena.f k l0_0).bind fun t5=>((spec_PutAt.f k t5 a1 a2 a3).bind fun b3=>((laws_toArena.f k l0_0).bind fun t13=>((impl_PutAt.f k t13 a1 a2 a3).bind fun b5=>((laws_eqArena.f k b5.1 b3.1).bind fun t22=>(if t22 = true then (if b5.2 = b3.2 then ((laws_toArena.f k l0_0).bind fun t24=>((laws_eqArena.f k t13 t24).bind fun t27=>(if t27 = true then ((laws_markArena.f k t13 1).bind fun b12=>((laws_eqArena.f k b5.1 b3.1).bind fun t32=>(if t32 = true then (if b12.1 < 0 then (some false) else (if b5.2 = b3.2 then ((laws_markArena.f k b5.1 1).bind fun b17=>((laws_heldArena.f k b17.2 1).bind fun t37=>(if t37 < 0 then (some false) else (if t37 = b17.1 then ((laws_toArena.f k l0_0).bind fun t39=>((impl_PutAt.f k t39 a1 a2 a3).bind fun b22=>((laws_eqArena.f k b22.1 b3.1).bind fun t47=>(if t47 = true then (if b22.2 = b3.2 then ((laws_heldArena.f k b17.2 1).bind fun t49=>(if t49 < 0 then (some false) else (if t49 = b17.1 then (some true) else (some false)))) else (some false)) else (some false))))) else (some false))))) else (some false))) else (some false)))) else (some false)))) else (some false)) else (some false))))))))) = some r:=h;clear h;replace H:=Option.bind_eq_some_iff.mp H;obtain ⟨t3,Fa00,H⟩:=H;replace H : (if t3 < 0 then (some true) else ((laws_toArena.f k l0_0).bind fun t5=>((spec_PutAt.f k t5 a1 a2 a3).bind fun b3=>((laws_toArena.f k l0_0).bind fun t13=>((impl_PutAt.f k t13 a1 a2 a3).bind fun b5=>((laws_eqArena.f k b5.1 b3.1).bind fun t22=>(if t22 = true then (if b5.2 = b3.2 then ((laws_toArena.f k l0_0).bind fun t24=>((laws_eqArena.f k t13 t24).bind fun t27=>(if t27 = true then ((laws_markArena.f k t13 1).bind fun b12=>((laws_eqArena.f k b5.1 b3.1).bind fun t32=>(if t32 = true then (if b12.1 < 0 then (some false) else (if b5.2 = b3.2 then ((laws_markArena.f k b5.1 1).bind fun b17=>((laws_heldArena.f k b17.2 1).bind fun t37=>(if t37 < 0 then (some false) else (if t37 = b17.1 then ((laws_toArena.f k l0_0).bind fun t39=>((impl_PutAt.f k t39 a1 a2 a3).bind fun b22=>((laws_eqArena.f k b22.1 b3.1).bind fun t47=>(if t47 = true then (if b22.2 = b3.2 then ((laws_heldArena.f k b17.2 1).bind fun t49=>(if t49 < 0 then (some false) else (if t49 = b17.1 then (some true) else (some false)))) else (some false)) else (some false))))) else (some false))))) else (some false))) else (some false)))) else (some false)))) else (some false)) else (some false)))))))) = some r:=H;have Fa0:=Aside0.mk Fa00;clear Fa00
 by_cases cd1 : t3 < 0
 ·rw [if_pos cd1] at H;have cd1b0 : decide (t3 < 0) = true:=decide_eq_true cd1;clear cd1;obtain rfl:=Option.some.inj H
  go_enter Try.func5,Try.ntmps5
  go_wp2_with (first | ((with_reducible refine gate_dst (N:=4) rfl ?_);refine box_event ?hg (N:=4) ?hd (cs:=#[.slice A0_0 l0_0.length c0_0]) (t:=53) ?hr ?_;(case hd=>rfl);(case hg=>rfl);(case hr=>first | (go_simp;done) | (go_simp;rfl));intro gb1 hg w1 hbox hb;have GBK1:=Aside0.mk (show gb1 = w.heap.size ∧ gb1 < w1.heap.size from ⟨hg,blk_lt hbox⟩);have GW1:=Aside0.mk (show w.heap.size ≤ gb1 by have q_:=below_size HB.out;rw [hg];exact q_);have BK1:=Aside0.mk hbox;replace HB:=Aside0.mk (below_step HB.out hb);replace HL:=Aside0.mk (And.intro HL.out (below_size hb));clear hb hbox hg;have hcz2 : w1.cell? ⟨gb1,0,none⟩ = some (.slice A0_0 l0_0.length c0_0):=(blk_cell BK1.out 0).trans rfl;have hfz3:=blk_frozen BK1.out 0) | ((with_reducible refine gate_callee (f:=29) rfl ?_);refine goesL_ (some 22) rfl rfl Try.func29 (by kernel_rfl) rfl #[.agg #[.slice A0_0 l0_0.length c0_0],.int .i64 1048576] rfl (by (try simp only [List.map_toArray,List.map_cons,List.map_nil]);first | done | rfl | (simp only [List.length_drop,List.length_take];rfl)) ?_;(with_reducible refine (laws_szArena.calls k _ _ l0_0 1048576 t3 _ ?side1 ?side2 Fa0.out).mono ?_);(case side1=>exact Kd.C_below HR0_0.out HB.out);(case side2=>exact HC0_0.out);rintro e w4 ⟨rfl,hb⟩;refine ⟨_,rfl,?_⟩;replace BK1:=Aside0.mk (blk_below BK1.out hb);replace HB:=Aside0.mk (below_step HB.out hb);replace HL:=Aside0.mk (And.intro HL.out (below_size hb));clear hb;clear hcz2 hfz3;have hcz5 : w4.cell? ⟨gb1,0,none⟩ = some (.slice A0_0 l0_0.length c0_0):=(blk_cell BK1.out 0).trans rfl;have hfz6:=blk_frozen BK1.out 0))
  go_ret
  exact ⟨rfl,HB.out⟩
 rw [if_neg cd1] at H;have cd1b0 : decide (t3 < 0) = false:=decide_eq_false cd1;clear cd1;replace H:=Option.bind_eq_some_iff.mp H;obtain ⟨t5,Fa20,H⟩:=H;replace H : ((spec_PutAt.f k t5 a1 a2 a3).bind fun b3=>((laws_toArena.f k l0_0).bind fun t13=>((impl_PutAt.f k t13 a1 a2 a3).bind fun b5=>((laws_eqArena.f k b5.1 b3.1).bind fun t22=>(if t22 = true then (if b5.2 = b3.2 then ((laws_toArena.f k l0_0).bind fun t24=>((laws_eqArena.f k t13 t24).bind fun t27=>(if t27 = true then ((laws_markArena.f k t13 1).bind fun b12=>((laws_eqArena.f k b5.1 b3.1).bind fun t32=>(if t32 = true then (if b12.1 < 0 then (some false) else (if b5.2 = b3.2 then ((laws_markArena.f k b5.1 1).bind fun b17=>((laws_heldArena.f k b17.2 1).bind fun t37=>(if t37 < 0 then (some false) else (if t37 = b17.1 then ((laws_toArena.f k l0_0).bind fun t39=>((impl_PutAt.f k t39 a1 a2 a3).bind fun b22=>((laws_eqArena.f k b22.1 b3.1).bind fun t47=>(if t47 = true then (if b22.2 = b3.2 then ((laws_heldArena.f k b17.2 1).bind fun t49=>(if t49 < 0 then (some false) else (if t49 = b17.1 then (some true) else (some false)))) else (some false)) else (some false))))) else (some false))))) else (some false))) else (some false)))) else (some false)))) else (some false)) else (some false)))))) = some r:=H;have Fa2:=Aside0.mk Fa20;clear Fa20;replace H:=Option.bind_eq_some_iff.mp H;obtain ⟨⟨t8,t9⟩,Fa30,H⟩:=H;replace H : ((laws_toArena.f k l0_0).bind fun t13=>((impl_PutAt.f k t13 a1 a2 a3).bind fun b5=>((laws_eqArena.f k b5.1 t8).bind fun t22=>(if t22 = true then (if b5.2 = t9 then ((laws_toArena.f k l0_0).bind fun t24=>((laws_eqArena.f k t13 t24).bind fun t27=>(if t27 = true then ((laws_markArena.f k t13 1).bind fun b12=>((laws_eqArena.f k b5.1 t8).bind fun t32=>(if t32 = true then (if b12.1 < 0 then (some false) else (if b5.2 = t9 then ((laws_markArena.f k b5.1 1).bind fun b17=>((laws_heldArena.f k b17.2 1).bind fun t37=>(if t37 < 0 then (some false) else (if t37 = b17.1 then ((laws_toArena.f k l0_0).bind fun t39=>((impl_PutAt.f k t39 a1 a2 a3).bind fun b22=>((laws_eqArena.f k b22.1 t8).bind fun t47=>(if t47 = true then (if b22.2 = t9 then ((laws_heldArena.f k b17.2 1).bind fun t49=>(if t49 < 0 then (some false) else (if t49 = b17.1 then (some true) else (some false)))) else (some false)) else (some false))))) else (some false))))) else (some false))) else (some false)))) else (some false)))) else (some false)) else (some false))))) = some r:=H;have Fa3:=Aside0.mk Fa30;clear Fa30;replace H:=Option.bind_eq_some_iff.mp H;obtain ⟨t13,Fa40,H⟩:=H;replace H : ((impl_PutAt.f k t13 a1 a2 a3).bind fun b5=>((laws_eqArena.f k b5.1 t8).bind fun t22=>(if t22 = true then (if b5.2 = t9 then ((laws_toArena.f k l0_0).bind fun t24=>((laws_eqArena.f k t13 t24).bind fun t27=>(if t27 = true then ((laws_markArena.f k t13 1).bind fun b12=>((laws_eqArena.f k b5.1 t8).bind fun t32=>(if t32 = true then (if b12.1 < 0 then (some false) else (if b5.2 = t9 then ((laws_markArena.f k b5.1 1).bind fun b17=>((laws_heldArena.f k b17.2 1).bind fun t37=>(if t37 < 0 then (some false) else (if t37 = b17.1 then ((laws_toArena.f k l0_0).bind fun t39=>((impl_PutAt.f k t39 a1 a2 a3).bind fun b22=>((laws_eqArena.f k b22.1 t8).bind fun t47=>(if t47 = true then (if b22.2 = t9 then ((laws_heldArena.f k b17.2 1).bind fun t49=>(if t49 < 0 then (some false) else (if t49 = b17.1 then (some true) else (some false)))) else (some false)) else (some false))))) else (some false))))) else (some false))) else (some false)))) else (some false)))) else (some false)) else (some false)))) = some r:=H;have Fa4:=Aside0.mk Fa40;clear Fa40;replace H:=Option.bind_eq_some_iff.mp H;obtain ⟨⟨t17,t18⟩,Fa50,H⟩:=H;replace H : ((laws_eqArena.f k t17 t8).bind fun t22=>(if t22 = true then (if t18 = t9 then ((laws_toArena.f k l0_0).bind fun t24=>((laws_eqArena.f k t13 t24).bind fun t27=>(if t27 = true then ((laws_markArena.f k t13 1).bind fun b12=>((laws_eqArena.f k t17 t8).bind fun t32=>(if t32 = true then (if b12.1 < 0 then (some false) else (if t18 = t9 then ((laws_markArena.f k t17 1).bind fun b17=>((laws_heldArena.f k b17.2 1).bind fun t37=>(if t37 < 0 then (some false) else (if t37 = b17.1 then ((laws_toArena.f k l0_0).bind fun t39=>((impl_PutAt.f k t39 a1 a2 a3).bind fun b22=>((laws_eqArena.f k b22.1 t8).bind fun t47=>(if t47 = true then (if b22.2 = t9 then ((laws_heldArena.f k b17.2 1).bind fun t49=>(if t49 < 0 then (some false) else (if t49 = b17.1 then (some true) else (some false)))) else (some false)) else (some false))))) else (some false))))) else (some false))) else (some false)))) else (some false)))) else (some false)) else (some false))) = some r:=H;have Fa5:=Aside0.mk Fa50;clear Fa50;replace H:=Option.bind_eq_some_iff.mp H;obtain ⟨t22,Fa60,H⟩:=H;replace H : (if t22 = true then (if t18 = t9 then ((laws_toArena.f k l0_0).bind fun t24=>((laws_eqArena.f k t13 t24).bind fun t27=>(if t27 = true then ((laws_markArena.f k t13 1).bind fun b12=>((laws_eqArena.f k t17 t8).bind fun t32=>(if t32 = true then (if b12.1 < 0 then (some false) else (if t18 = t9 then ((laws_markArena.f k t17 1).bind fun b17=>((laws_heldArena.f k b17.2 1).bind fun t37=>(if t37 < 0 then (some false) else (if t37 = b17.1 then ((laws_toArena.f k l0_0).bind fun t39=>((impl_PutAt.f k t39 a1 a2 a3).bind fun b22=>((laws_eqArena.f k b22.1 t8).bind fun t47=>(if t47 = true then (if b22.2 = t9 then ((laws_heldArena.f k b17.2 1).bind fun t49=>(if t49 < 0 then (some false) else (if t49 = b17.1 then (some true) else (some false)))) else (some false)) else (some false))))) else (some false))))) else (some false))) else (some false)))) else (some false)))) else (some false)) else (some false)) = some r:=H;have Fa6:=Aside0.mk Fa60;clear Fa60;have cd7 : t22 = true:=Classical.byContradiction fun hc_=>by rw [if_neg hc_] at H;exact absurd ((Option.some.inj H).trans hT.out) (by decide)
 rw [if_pos cd7] at H;subst cd7;replace H : (if t18 = t9 then ((laws_toArena.f k l0_0).bind fun t24=>((laws_eqArena.f k t13 t24).bind fun t27=>(if t27 = true then ((laws_markArena.f k t13 1).bind fun b12=>((laws_eqArena.f k t17 t8).bind fun t32=>(if t32 = true then (if b12.1 < 0 then (some false) else (if t18 = t9 then ((laws_markArena.f k t17 1).bind fun b17=>((laws_heldArena.f k b17.2 1).bind fun t37=>(if t37 < 0 then (some false) else (if t37 = b17.1 then ((laws_toArena.f k l0_0).bind fun t39=>((impl_PutAt.f k t39 a1 a2 a3).bind fun b22=>((laws_eqArena.f k b22.1 t8).bind fun t47=>(if t47 = true then (if b22.2 = t9 then ((laws_heldArena.f k b17.2 1).bind fun t49=>(if t49 < 0 then (some false) else (if t49 = b17.1 then (some true) else (some false)))) else (some false)) else (some false))))) else (some false))))) else (some false))) else (some false)))) else (some false)))) else (some false)) = some r:=H;have cd8 : t18 = t9:=Classical.byContradiction fun hc_=>by rw [if_neg hc_] at H;exact absurd ((Option.some.inj H).trans hT.out) (by decide)
 rw [if_pos cd8] at H;have cd8b0 : (t18 == t9) = true:=beq_iff_eq.mpr cd8;have cd8b1 : (t18 != t9) = false:=bne_eq_false_iff_eq.mpr cd8;clear cd8;replace H:=Option.bind_eq_some_iff.mp H;obtain ⟨t24,Fa90,H⟩:=H;replace H : ((laws_eqArena.f k t13 t24).bind fun t27=>(if t27 = true then ((laws_markArena.f k t13 1).bind fun b12=>((laws_eqArena.f k t17 t8).bind fun t32=>(if t32 = true then (if b12.1 < 0 then (some false) else (if t18 = t9 then ((laws_markArena.f k t17 1).bind fun b17=>((laws_heldArena.f k b17.2 1).bind fun t37=>(if t37 < 0 then (some false) else (if t37 = b17.1 then ((laws_toArena.f k l0_0).bind fun t39=>((impl_PutAt.f k t39 a1 a2 a3).bind fun b22=>((laws_eqArena.f k b22.1 t8).bind fun t47=>(if t47 = true then (if b22.2 = t9 then ((laws_heldArena.f k b17.2 1).bind fun t49=>(if t49 < 0 then (some false) else (if t49 = b17.1 then (some true) else (some false)))) else (some false)) else (some false))))) else (some false))))) else (some false))) else (some false)))) else (some false))) = some r:=H;have Fa9:=Aside0.mk Fa90;clear Fa90;replace H:=Option.bind_eq_some_iff.mp H;obtain ⟨t27,Fa100,H⟩:=H;replace H : (if t27 = true then ((laws_markArena.f k t13 1).bind fun b12=>((laws_eqArena.f k t17 t8).bind fun t32=>(if t32 = true then (if b12.1 < 0 then (some false) else (if t18 = t9 then ((laws_markArena.f k t17 1).bind fun b17=>((laws_heldArena.f k b17.2 1).bind fun t37=>(if t37 < 0 then (some false) else (if t37 = b17.1 then ((laws_toArena.f k l0_0).bind fun t39=>((impl_PutAt.f k t39 a1 a2 a3).bind fun b22=>((laws_eqArena.f k b22.1 t8).bind fun t47=>(if t47 = true then (if b22.2 = t9 then ((laws_heldArena.f k b17.2 1).bind fun t49=>(if t49 < 0 then (some false) else (if t49 = b17.1 then (some true) else (some false)))) else (some false)) else (some false))))) else (some false))))) else (some false))) else (some false)))) else (some false)) = some r:=H;have Fa10:=Aside0.mk Fa100;clear Fa100;have cd11 : t27 = true:=Classical.byContradiction fun hc_=>by rw [if_neg hc_] at H;exact absurd ((Option.some.inj H).trans hT.out) (by decide)
 rw [if_pos cd11] at H;subst cd11;replace H : ((laws_markArena.f k t13 1).bind fun b12=>((laws_eqArena.f k t17 t8).bind fun t32=>(if t32 = true then (if b12.1 < 0 then (some false) else (if t18 = t9 then ((laws_markArena.f k t17 1).bind fun b17=>((laws_heldArena.f k b17.2 1).bind fun t37=>(if t37 < 0 then (some false) else (if t37 = b17.1 then ((laws_toArena.f k l0_0).bind fun t39=>((impl_PutAt.f k t39 a1 a2 a3).bind fun b22=>((laws_eqArena.f k b22.1 t8).bind fun t47=>(if t47 = true then (if b22.2 = t9 then ((laws_heldArena.f k b17.2 1).bind fun t49=>(if t49 < 0 then (some false) else (if t49 = b17.1 then (some true) else (some false)))) else (some false)) else (some false))))) else (some false))))) else (some false))) else (some false)))) = some r:=H;replace H:=Option.bind_eq_some_iff.mp H;obtain ⟨⟨t29,t30⟩,Fa120,H⟩:=H;replace H : ((laws_eqArena.f k t17 t8).bind fun t32=>(if t32 = true then (if t29 < 0 then (some false) else (if t18 = t9 then ((laws_markArena.f k t17 1).bind fun b17=>((laws_heldArena.f k b17.2 1).bind fun t37=>(if t37 < 0 then (some false) else (if t37 = b17.1 then ((laws_toArena.f k l0_0).bind fun t39=>((impl_PutAt.f k t39 a1 a2 a3).bind fun b22=>((laws_eqArena.f k b22.1 t8).bind fun t47=>(if t47 = true then (if b22.2 = t9 then ((laws_heldArena.f k b17.2 1).bind fun t49=>(if t49 < 0 then (some false) else (if t49 = b17.1 then (some true) else (some false)))) else (some false)) else (some false))))) else (some false))))) else (some false))) else (some false))) = some r:=H;have Fa12:=Aside0.mk Fa120;clear Fa120;replace H:=Option.bind_eq_some_iff.mp H;obtain ⟨t32,Fa130,H⟩:=H;replace H : (if t32 = true then (if t29 < 0 then (some false) else (if t18 = t9 then ((laws_markArena.f k t17 1).bind fun b17=>((laws_heldArena.f k b17.2 1).bind fun t37=>(if t37 < 0 then (some false) else (if t37 = b17.1 then ((laws_toArena.f k l0_0).bind fun t39=>((impl_PutAt.f k t39 a1 a2 a3).bind fun b22=>((laws_eqArena.f k b22.1 t8).bind fun t47=>(if t47 = true then (if b22.2 = t9 then ((laws_heldArena.f k b17.2 1).bind fun t49=>(if t49 < 0 then (some false) else (if t49 = b17.1 then (some true) else (some false)))) else (some false)) else (some false))))) else (some false))))) else (some false))) else (some false)) = some r:=H;have Fa13:=Aside0.mk Fa130;clear Fa130;have cd14 : t32 = true:=Classical.byContradiction fun hc_=>by rw [if_neg hc_] at H;exact absurd ((Option.some.inj H).trans hT.out) (by decide)
 rw [if_pos cd14] at H;subst cd14;replace H : (if t29 < 0 then (some false) else (if t18 = t9 then ((laws_markArena.f k t17 1).bind fun b17=>((laws_heldArena.f k b17.2 1).bind fun t37=>(if t37 < 0 then (some false) else (if t37 = b17.1 then ((laws_toArena.f k l0_0).bind fun t39=>((impl_PutAt.f k t39 a1 a2 a3).bind fun b22=>((laws_eqArena.f k b22.1 t8).bind fun t47=>(if t47 = true then (if b22.2 = t9 then ((laws_heldArena.f k b17.2 1).bind fun t49=>(if t49 < 0 then (some false) else (if t49 = b17.1 then (some true) else (some false)))) else (some false)) else (some false))))) else (some false))))) else (some false))) = some r:=H;have cd15 : ¬ (t29 < 0):=fun hc_=>by rw [if_pos hc_] at H;exact absurd ((Option.some.inj H).trans hT.out) (by decide)
 rw [if_neg cd15] at H;have cd15b0 : decide (t29 < 0) = false:=decide_eq_false cd15;clear cd15;have cd16 : t18 = t9:=Classical.byContradiction fun hc_=>by rw [if_neg hc_] at H;exact absurd ((Option.some.inj H).trans hT.out) (by decide)
 rw [if_pos cd16] at H;have cd16b0 : (t18 == t9) = true:=beq_iff_eq.mpr cd16;have cd16b1 : (t18 != t9) = false:=bne_eq_false_iff_eq.mpr cd16;clear cd16;replace H:=Option.bind_eq_some_iff.mp H;obtain ⟨⟨t34,t35⟩,Fa170,H⟩:=H;replace H : ((laws_heldArena.f k t35 1).bind fun t37=>(if t37 < 0 then (some false) else (if t37 = t34 then ((laws_toArena.f k l0_0).bind fun t39=>((impl_PutAt.f k t39 a1 a2 a3).bind fun b22=>((laws_eqArena.f k b22.1 t8).bind fun t47=>(if t47 = true then (if b22.2 = t9 then ((laws_heldArena.f k t35 1).bind fun t49=>(if t49 < 0 then (some false) else (if t49 = t34 then (some true) else (some false)))) else (some false)) else (some false))))) else (some false)))) = some r:=H;have Fa17:=Aside0.mk Fa170;clear Fa170;replace H:=Option.bind_eq_some_iff.mp H;obtain ⟨t37,Fa180,H⟩:=H;replace H : (if t37 < 0 then (some false) else (if t37 = t34 then ((laws_toArena.f k l0_0).bind fun t39=>((impl_PutAt.f k t39 a1 a2 a3).bind fun b22=>((laws_eqArena.f k b22.1 t8).bind fun t47=>(if t47 = true then (if b22.2 = t9 then ((laws_heldArena.f k t35 1).bind fun t49=>(if t49 < 0 then (some false) else (if t49 = t34 then (some true) else (some false)))) else (some false)) else (some false))))) else (some false))) = some r:=H;have Fa18:=Aside0.mk Fa180;clear Fa180;have cd19 : ¬ (t37 < 0):=fun hc_=>by rw [if_pos hc_] at H;exact absurd ((Option.some.inj H).trans hT.out) (by decide)
 rw [if_neg cd19] at H;have cd19b0 : decide (t37 < 0) = false:=decide_eq_false cd19;clear cd19;have cd20 : t37 = t34:=Classical.byContradiction fun hc_=>by rw [if_neg hc_] at H;exact absurd ((Option.some.inj H).trans hT.out) (by decide)
 rw [if_pos cd20] at H;have cd20b0 : (t37 == t34) = true:=beq_iff_eq.mpr cd20;have cd20b1 : (t37 != t34) = false:=bne_eq_false_iff_eq.mpr cd20;clear cd20;replace H:=Option.bind_eq_some_iff.mp H;obtain ⟨t39,Fa210,H⟩:=H;replace H : ((impl_PutAt.f k t39 a1 a2 a3).bind fun b22=>((laws_eqArena.f k b22.1 t8).bind fun t47=>(if t47 = true then (if b22.2 = t9 then ((laws_heldArena.f k t35 1).bind fun t49=>(if t49 < 0 then (some false) else (if t49 = t34 then (some true) else (some false)))) else (some false)) else (some false)))) = some r:=H;have Fa21:=Aside0.mk Fa210;clear Fa210;replace H:=Option.bind_eq_some_iff.mp H;obtain ⟨⟨t42,t43⟩,Fa220,H⟩:=H;replace H : ((laws_eqArena.f k t42 t8).bind fun t47=>(if t47 = true then (if t43 = t9 then ((laws_heldArena.f k t35 1).bind fun t49=>(if t49 < 0 then (some false) else (if t49 = t34 then (some true) else (some false)))) else (some false)) else (some false))) = some r:=H;have Fa22:=Aside0.mk Fa220;clear Fa220;replace H:=Option.bind_eq_some_iff.mp H;obtain ⟨t47,Fa230,H⟩:=H;replace H : (if t47 = true then (if t43 = t9 then ((laws_heldArena.f k t35 1).bind fun t49=>(if t49 < 0 then (some false) else (if t49 = t34 then (some true) else (some false)))) else (some false)) else (some false)) = some r:=H;have Fa23:=Aside0.mk Fa230;clear Fa230;have cd24 : t47 = true:=Classical.byContradiction fun hc_=>by rw [if_neg hc_] at H;exact absurd ((Option.some.inj H).trans hT.out) (by decide)
 rw [if_pos cd24] at H;subst cd24;replace H : (if t43 = t9 then ((laws_heldArena.f k t35 1).bind fun t49=>(if t49 < 0 then (some false) else (if t49 = t34 then (some true) else (some false)))) else (some false)) = some r:=H;have cd25 : t43 = t9:=Classical.byContradiction fun hc_=>by rw [if_neg hc_] at H;exact absurd ((Option.some.inj H).trans hT.out) (by decide)
 rw [if_pos cd25] at H;have cd25b0 : (t43 == t9) = true:=beq_iff_eq.mpr cd25;have cd25b1 : (t43 != t9) = false:=bne_eq_false_iff_eq.mpr cd25;clear cd25;replace H:=Option.bind_eq_some_iff.mp H;obtain ⟨t49,Fa260,H⟩:=H;replace H : (if t49 < 0 then (some false) else (if t49 = t34 then (some true) else (some false))) = some r:=H;have Fa26:=Aside0.mk Fa260;clear Fa260;have cd27 : ¬ (t49 < 0):=fun hc_=>by rw [if_pos hc_] at H;exact absurd ((Option.some.inj H).trans hT.out) (by decide)
 rw [if_neg cd27] at H;have cd27b0 : decide (t49 < 0) = false:=decide_eq_false cd27;clear cd27;have cd28 : t49 = t34:=Classical.byContradiction fun hc_=>by rw [if_neg hc_] at H;exact absurd ((Option.some.inj H).trans hT.out) (by decide)
 rw [if_pos cd28] at H;have cd28b0 : (t49 == t34) = true:=beq_iff_eq.mpr cd28;have cd28b1 : (t49 != t34) = false:=bne_eq_false_iff_eq.mpr cd28;clear cd28;obtain rfl:=Option.some.inj H
 go_enter Try.func5,Try.ntmps5
 go_wp2_with (first | ((with_reducible refine gate_dst (N:=4) rfl ?_);refine box_event ?hg (N:=4) ?hd (cs:=#[.slice A0_0 l0_0.length c0_0]) (t:=53) ?hr ?_;(case hd=>rfl);(case hg=>rfl);(case hr=>first | (go_simp;done) | (go_simp;rfl));intro gb1 hg w7 hbox hb;have GBK1:=Aside0.mk (show gb1 = w.heap.size ∧ gb1 < w7.heap.size from ⟨hg,blk_lt hbox⟩);have GW1:=Aside0.mk (show w.heap.size ≤ gb1 by have q_:=below_size HB.out;rw [hg];exact q_);have BK1:=Aside0.mk hbox;replace HB:=Aside0.mk (below_step HB.out hb);replace HL:=Aside0.mk (And.intro HL.out (below_size hb));clear hb hbox hg;have hcz8 : w7.cell? ⟨gb1,0,none⟩ = some (.slice A0_0 l0_0.length c0_0):=(blk_cell BK1.out 0).trans rfl;have hfz9:=blk_frozen BK1.out 0) | ((with_reducible refine gate_callee (f:=29) rfl ?_);refine goesL_ (some 22) rfl rfl Try.func29 (by kernel_rfl) rfl #[.agg #[.slice A0_0 l0_0.length c0_0],.int .i64 1048576] rfl (by (try simp only [List.map_toArray,List.map_cons,List.map_nil]);first | done | rfl | (simp only [List.length_drop,List.length_take];rfl)) ?_;(with_reducible refine (laws_szArena.calls k _ _ l0_0 1048576 t3 _ ?side1 ?side2 Fa0.out).mono ?_);(case side1=>exact Kd.C_below HR0_0.out HB.out);(case side2=>exact HC0_0.out);rintro e w10 ⟨rfl,hb⟩;refine ⟨_,rfl,?_⟩;replace BK1:=Aside0.mk (blk_below BK1.out hb);replace HB:=Aside0.mk (below_step HB.out hb);replace HL:=Aside0.mk (And.intro HL.out (below_size hb));clear hb;clear hcz8 hfz9;have hcz11 : w10.cell? ⟨gb1,0,none⟩ = some (.slice A0_0 l0_0.length c0_0):=(blk_cell BK1.out 0).trans rfl;have hfz12:=blk_frozen BK1.out 0) | ((with_reducible refine gate_callee (f:=31) rfl ?_);refine goesL_ (some 27) rfl rfl Try.func31 (by kernel_rfl) rfl #[.agg #[.slice A0_0 l0_0.length c0_0]] rfl (by (try simp only [List.map_toArray,List.map_cons,List.map_nil]);first | done | rfl | (simp only [List.length_drop,List.length_take];rfl)) ?_;(with_reducible refine (laws_toArena.calls k _ _ l0_0 t5 _ ?side1 ?side2 Fa2.out).mono ?_);(case side1=>exact Kd.C_below HR0_0.out HB.out);(case side2=>exact HC0_0.out);rintro e w13 ⟨v6,rfl,ho0,hb⟩;refine ⟨_,rfl,?_⟩;have HZ6:=Aside0.mk (Kd.S_lower (Kd.S_mono (ok':=fun k_=>(w10.heap.size ≤ k_ ∧ k_ < w13.heap.size)) (Kd.S_bound ho0) (fun k_ hk_=>⟨hk_.2.1,hk_.2.2.1⟩)) (below_size HB.out));clear ho0;replace BK1:=Aside0.mk (blk_below BK1.out hb);replace HB:=Aside0.mk (below_step HB.out hb);replace HL:=Aside0.mk (And.intro HL.out (below_size hb));clear hb;obtain ⟨A6,c6,e6⟩:=Kd.S_slice HZ6.out;subst e6;clear hcz11 hfz12;have hcz14 : w13.cell? ⟨gb1,0,none⟩ = some (.slice A0_0 l0_0.length c0_0):=(blk_cell BK1.out 0).trans rfl;have hfz15:=blk_frozen BK1.out 0) | ((with_reducible refine gate_callee (f:=30) rfl ?_);refine goesL_ (some 31) rfl rfl Try.func30 (by kernel_rfl) rfl #[.agg #[.slice A6 t5.length c6],.int .i64 a1,.int .i64 a2,.int .i64 a3] rfl (by (try simp only [List.map_toArray,List.map_cons,List.map_nil]);first | done | rfl | (simp only [List.length_drop,List.length_take];rfl)) ?_;(with_reducible refine (spec_PutAt.calls k _ _ t5 a1 a2 a3 t8 t9 _ ?side1 ?side2 Fa3.out).mono ?_);(case side1=>exact (Kd.S_reads' HZ6.out).2.2);(case side2=>exact (Kd.S_reads' HZ6.out).2.1);rintro e w16 ⟨v10,rfl,ho0,hb⟩;refine ⟨_,rfl,?_⟩;have HZ10:=Aside0.mk (Kd.S_lower (Kd.S_mono (ok':=fun k_=>(w13.heap.size ≤ k_ ∧ k_ < w16.heap.size)) (Kd.S_bound ho0) (fun k_ hk_=>⟨hk_.2.1,hk_.2.2.1⟩)) (below_size HB.out));clear ho0;replace HZ6:=Aside0.mk (Kd.S_below HZ6.out hb);replace BK1:=Aside0.mk (blk_below BK1.out hb);replace HB:=Aside0.mk (below_step HB.out hb);replace HL:=Aside0.mk (And.intro HL.out (below_size hb));clear hb;obtain ⟨A10,c10,e10⟩:=Kd.S_slice HZ10.out;subst e10;clear hcz14 hfz15;have hcz17 : w16.cell? ⟨gb1,0,none⟩ = some (.slice A0_0 l0_0.length c0_0):=(blk_cell BK1.out 0).trans rfl;have hfz18:=blk_frozen BK1.out 0) | ((with_reducible refine gate_dst (N:=10) rfl ?_);refine box_event ?hg (N:=10) ?hd (cs:=#[.slice none 0 0]) (t:=44) ?hr ?_;(case hd=>rfl);(case hg=>rfl);(case hr=>first | (go_simp;done) | (go_simp;rfl));intro gb11 hg w19 hbox hb;replace HZ6:=Aside0.mk (Kd.S_below HZ6.out hb);replace HZ10:=Aside0.mk (Kd.S_below HZ10.out hb);replace BK1:=Aside0.mk (blk_below BK1.out hb);have GBK11:=Aside0.mk (show gb11 = w16.heap.size ∧ gb11 < w19.heap.size from ⟨hg,blk_lt hbox⟩);have GW11:=Aside0.mk (show w.heap.size ≤ gb11 by have q_:=below_size HB.out;rw [hg];exact q_);have BK11:=Aside0.mk hbox;replace HB:=Aside0.mk (below_step HB.out hb);replace HL:=Aside0.mk (And.intro HL.out (below_size hb));clear hb hbox hg;clear hcz17 hfz18;have hcz20 : w19.cell? ⟨gb1,0,none⟩ = some (.slice A0_0 l0_0.length c0_0):=(blk_cell BK1.out 0).trans rfl;have hfz21:=blk_frozen BK1.out 0;have hcz22 : w19.cell? ⟨gb11,0,none⟩ = some (.slice none 0 0):=(blk_cell BK11.out 0).trans rfl;have hfz23:=blk_frozen BK11.out 0) | ((with_reducible refine gate_store (t:=44) (p:=10) rfl ?_);refine store_event (t:=44) (p:=10) (v:=?vo25_) (w1:=(w19.setCell ⟨gb11,0,none⟩ (.slice A10 t8.length c10))) ?hg ?ho ?hn ?hr ?_;(case ho=>rfl);(case hg=>rfl);(case hn=>rfl);(case hr=>first | (go_simp;done) | (go_simp;rfl));intro w24 hw;have hk : Kept w19 w24 (fun k_=>k_ = gb11):=(by rw [hw];exact (Kept.setCell (Kept.refl w19 (fun k_=>k_ = gb11)) (p:=⟨gb11,0,none⟩) (.inl rfl) (.slice A10 t8.length c10)));have g0_:=GBK11.out;replace HZ6:=Aside0.mk (Kd.S_kept HZ6.out hk (fun k_ (hk_ : (w10.heap.size ≤ k_ ∧ k_ < w13.heap.size)) (hs_ : k_ = gb11)=>by have q_:=HL.out;omega));replace HZ10:=Aside0.mk (Kd.S_kept HZ10.out hk (fun k_ (hk_ : (w13.heap.size ≤ k_ ∧ k_ < w16.heap.size)) (hs_ : k_ = gb11)=>by have q_:=HL.out;omega));replace BK1:=Aside0.mk (blk_kept BK1.out hk (fun hs_=>by have q_:=HL.out;have g_:=GBK1.out;have hs2_ : gb1 = gb11:=hs_;omega));clear g0_;replace BK11:=Aside0.mk (show w24.heap[gb11]? = some (.cells #[.slice A10 t8.length c10] 44 (0,0)) from (by rw [hw];exact (blk_put (cs:=#[.slice none 0 0]) (cs':=#[.slice A10 t8.length c10]) BK11.out 0 _ rfl)));replace HB:=Aside0.mk (show Below w.heap.size w w24 from (by rw [hw];exact (below_set HB.out GW11.out)));replace HL:=Aside0.mk (And.intro HL.out hk.1);clear hk hw;clear hcz20 hfz21 hcz22 hfz23;have hcz26 : w24.cell? ⟨gb1,0,none⟩ = some (.slice A0_0 l0_0.length c0_0):=(blk_cell BK1.out 0).trans rfl;have hfz27:=blk_frozen BK1.out 0;have hcz28 : w24.cell? ⟨gb11,0,none⟩ = some (.slice A10 t8.length c10):=(blk_cell BK11.out 0).trans rfl;have hfz29:=blk_frozen BK11.out 0) | ((with_reducible refine gate_callee (f:=31) rfl ?_);refine goesL_ (some 35) rfl rfl Try.func31 (by kernel_rfl) rfl #[.agg #[.slice A0_0 l0_0.length c0_0]] rfl (by (try simp only [List.map_toArray,List.map_cons,List.map_nil]);first | done | rfl | (simp only [List.length_drop,List.length_take];rfl)) ?_;(with_reducible refine (laws_toArena.calls k _ _ l0_0 t13 _ ?side1 ?side2 Fa4.out).mono ?_);(case side1=>exact Kd.C_below HR0_0.out HB.out);(case side2=>exact HC0_0.out);rintro e w30 ⟨v14,rfl,ho0,hb⟩;refine ⟨_,rfl,?_⟩;have HZ14:=Aside0.mk (Kd.S_lower (Kd.S_mono (ok':=fun k_=>(w24.heap.size ≤ k_ ∧ k_ < w30.heap.size)) (Kd.S_bound ho0) (fun k_ hk_=>⟨hk_.2.1,hk_.2.2.1⟩)) (below_size HB.out));clear ho0;replace HZ6:=Aside0.mk (Kd.S_below HZ6.out hb);replace HZ10:=Aside0.mk (Kd.S_below HZ10.out hb);replace BK1:=Aside0.mk (blk_below BK1.out hb);replace BK11:=Aside0.mk (blk_below BK11.out hb);replace HB:=Aside0.mk (below_step HB.out hb);replace HL:=Aside0.mk (And.intro HL.out (below_size hb));clear hb;obtain ⟨A14,c14,e14⟩:=Kd.S_slice HZ14.out;subst e14;clear hcz26 hfz27 hcz28 hfz29;have hcz31 : w30.cell? ⟨gb1,0,none⟩ = some (.slice A0_0 l0_0.length c0_0):=(blk_cell BK1.out 0).trans rfl;have hfz32:=blk_frozen BK1.out 0;have hcz33 : w30.cell? ⟨gb11,0,none⟩ = some (.slice A10 t8.length c10):=(blk_cell BK11.out 0).trans rfl;have hfz34:=blk_frozen BK11.out 0) | ((with_reducible refine gate_dst (N:=12) rfl ?_);refine box_event ?hg (N:=12) ?hd (cs:=#[.slice none 0 0]) (t:=44) ?hr ?_;(case hd=>rfl);(case hg=>rfl);(case hr=>first | (go_simp;done) | (go_simp;rfl));intro gb15 hg w35 hbox hb;replace HZ6:=Aside0.mk (Kd.S_below HZ6.out hb);replace HZ10:=Aside0.mk (Kd.S_below HZ10.out hb);replace HZ14:=Aside0.mk (Kd.S_below HZ14.out hb);replace BK1:=Aside0.mk (blk_below BK1.out hb);replace BK11:=Aside0.mk (blk_below BK11.out hb);have GBK15:=Aside0.mk (show gb15 = w30.heap.size ∧ gb15 < w35.heap.size from ⟨hg,blk_lt hbox⟩);have GW15:=Aside0.mk (show w.heap.size ≤ gb15 by have q_:=below_size HB.out;rw [hg];exact q_);have BK15:=Aside0.mk hbox;replace HB:=Aside0.mk (below_step HB.out hb);replace HL:=Aside0.mk (And.intro HL.out (below_size hb));clear hb hbox hg;clear hcz31 hfz32 hcz33 hfz34;have hcz36 : w35.cell? ⟨gb1,0,none⟩ = some (.slice A0_0 l0_0.length c0_0):=(blk_cell BK1.out 0).trans rfl;have hfz37:=blk_frozen BK1.out 0;have hcz38 : w35.cell? ⟨gb11,0,none⟩ = some (.slice A10 t8.length c10):=(blk_cell BK11.out 0).trans rfl;have hfz39:=blk_frozen BK11.out 0;have hcz40 : w35.cell? ⟨gb15,0,none⟩ = some (.slice none 0 0):=(blk_cell BK15.out 0).trans rfl;have hfz41:=blk_frozen BK15.out 0) | ((with_reducible refine gate_store (t:=44) (p:=12) rfl ?_);refine store_event (t:=44) (p:=12) (v:=?vo43_) (w1:=(w35.setCell ⟨gb15,0,none⟩ (.slice A14 t13.length c14))) ?hg ?ho ?hn ?hr ?_;(case ho=>rfl);(case hg=>rfl);(case hn=>rfl);(case hr=>first | (go_simp;done) | (go_simp;rfl));intro w42 hw;have hk : Kept w35 w42 (fun k_=>k_ = gb15):=(by rw [hw];exact (Kept.setCell (Kept.refl w35 (fun k_=>k_ = gb15)) (p:=⟨gb15,0,none⟩) (.inl rfl) (.slice A14 t13.length c14)));have g0_:=GBK15.out;replace HZ6:=Aside0.mk (Kd.S_kept HZ6.out hk (fun k_ (hk_ : (w10.heap.size ≤ k_ ∧ k_ < w13.heap.size)) (hs_ : k_ = gb15)=>by have q_:=HL.out;omega));replace HZ10:=Aside0.mk (Kd.S_kept HZ10.out hk (fun k_ (hk_ : (w13.heap.size ≤ k_ ∧ k_ < w16.heap.size)) (hs_ : k_ = gb15)=>by have q_:=HL.out;omega));replace HZ14:=Aside0.mk (Kd.S_kept HZ14.out hk (fun k_ (hk_ : (w24.heap.size ≤ k_ ∧ k_ < w30.heap.size)) (hs_ : k_ = gb15)=>by have q_:=HL.out;omega));replace BK1:=Aside0.mk (blk_kept BK1.out hk (fun hs_=>by have q_:=HL.out;have g_:=GBK1.out;have hs2_ : gb1 = gb15:=hs_;omega));replace BK11:=Aside0.mk (blk_kept BK11.out hk (fun hs_=>by have q_:=HL.out;have g_:=GBK11.out;have hs2_ : gb11 = gb15:=hs_;omega));clear g0_;replace BK15:=Aside0.mk (show w42.heap[gb15]? = some (.cells #[.slice A14 t13.length c14] 44 (0,0)) from (by rw [hw];exact (blk_put (cs:=#[.slice none 0 0]) (cs':=#[.slice A14 t13.length c14]) BK15.out 0 _ rfl)));replace HB:=Aside0.mk (show Below w.heap.size w w42 from (by rw [hw];exact (below_set HB.out GW15.out)));replace HL:=Aside0.mk (And.intro HL.out hk.1);clear hk hw;clear hcz36 hfz37 hcz38 hfz39 hcz40 hfz41;have hcz44 : w42.cell? ⟨gb1,0,none⟩ = some (.slice A0_0 l0_0.length c0_0):=(blk_cell BK1.out 0).trans rfl;have hfz45:=blk_frozen BK1.out 0;have hcz46 : w42.cell? ⟨gb11,0,none⟩ = some (.slice A10 t8.length c10):=(blk_cell BK11.out 0).trans rfl;have hfz47:=blk_frozen BK11.out 0;have hcz48 : w42.cell? ⟨gb15,0,none⟩ = some (.slice A14 t13.length c14):=(blk_cell BK15.out 0).trans rfl;have hfz49:=blk_frozen BK15.out 0) | ((with_reducible refine gate_callee (f:=32) rfl ?_);refine goesL_ (some 41) rfl rfl Try.func32 (by kernel_rfl) rfl #[.agg #[.slice A14 t13.length c14],.int .i64 a1,.int .i64 a2,.int .i64 a3] rfl (by (try simp only [List.map_toArray,List.map_cons,List.map_nil]);first | done | rfl | (simp only [List.length_drop,List.length_take];rfl)) ?_;(with_reducible refine (impl_PutAt.calls k _ _ t13 a1 a2 a3 t17 t18 _ ?side1 ?side2 Fa5.out).mono ?_);(case side1=>exact (Kd.S_reads' HZ14.out).2.2);(case side2=>exact (Kd.S_reads' HZ14.out).2.1);rintro e w50 ⟨v19,rfl,ho0,hb⟩;refine ⟨_,rfl,?_⟩;have HZ19:=Aside0.mk (Kd.S_lower (Kd.S_mono (ok':=fun k_=>(w42.heap.size ≤ k_ ∧ k_ < w50.heap.size)) (Kd.S_bound ho0) (fun k_ hk_=>⟨hk_.2.1,hk_.2.2.1⟩)) (below_size HB.out));clear ho0;replace HZ6:=Aside0.mk (Kd.S_below HZ6.out hb);replace HZ10:=Aside0.mk (Kd.S_below HZ10.out hb);replace HZ14:=Aside0.mk (Kd.S_below HZ14.out hb);replace BK1:=Aside0.mk (blk_below BK1.out hb);replace BK11:=Aside0.mk (blk_below BK11.out hb);replace BK15:=Aside0.mk (blk_below BK15.out hb);replace HB:=Aside0.mk (below_step HB.out hb);replace HL:=Aside0.mk (And.intro HL.out (below_size hb));clear hb;obtain ⟨A19,c19,e19⟩:=Kd.S_slice HZ19.out;subst e19;clear hcz44 hfz45 hcz46 hfz47 hcz48 hfz49;have hcz51 : w50.cell? ⟨gb1,0,none⟩ = some (.slice A0_0 l0_0.length c0_0):=(blk_cell BK1.out 0).trans rfl;have hfz52:=blk_frozen BK1.out 0;have hcz53 : w50.cell? ⟨gb11,0,none⟩ = some (.slice A10 t8.length c10):=(blk_cell BK11.out 0).trans rfl;have hfz54:=blk_frozen BK11.out 0;have hcz55 : w50.cell? ⟨gb15,0,none⟩ = some (.slice A14 t13.length c14):=(blk_cell BK15.out 0).trans rfl;have hfz56:=blk_frozen BK15.out 0) | ((with_reducible refine gate_dst (N:=13) rfl ?_);refine box_event ?hg (N:=13) ?hd (cs:=#[.slice none 0 0]) (t:=44) ?hr ?_;(case hd=>rfl);(case hg=>rfl);(case hr=>first | (go_simp;done) | (go_simp;rfl));intro gb20 hg w57 hbox hb;replace HZ6:=Aside0.mk (Kd.S_below HZ6.out hb);replace HZ10:=Aside0.mk (Kd.S_below HZ10.out hb);replace HZ14:=Aside0.mk (Kd.S_below HZ14.out hb);replace HZ19:=Aside0.mk (Kd.S_below HZ19.out hb);replace BK1:=Aside0.mk (blk_below BK1.out hb);replace BK11:=Aside0.mk (blk_below BK11.out hb);replace BK15:=Aside0.mk (blk_below BK15.out hb);have GBK20:=Aside0.mk (show gb20 = w50.heap.size ∧ gb20 < w57.heap.size from ⟨hg,blk_lt hbox⟩);have GW20:=Aside0.mk (show w.heap.size ≤ gb20 by have q_:=below_size HB.out;rw [hg];exact q_);have BK20:=Aside0.mk hbox;replace HB:=Aside0.mk (below_step HB.out hb);replace HL:=Aside0.mk (And.intro HL.out (below_size hb));clear hb hbox hg;clear hcz51 hfz52 hcz53 hfz54 hcz55 hfz56;have hcz58 : w57.cell? ⟨gb1,0,none⟩ = some (.slice A0_0 l0_0.length c0_0):=(blk_cell BK1.out 0).trans rfl;have hfz59:=blk_frozen BK1.out 0;have hcz60 : w57.cell? ⟨gb11,0,none⟩ = some (.slice A10 t8.length c10):=(blk_cell BK11.out 0).trans rfl;have hfz61:=blk_frozen BK11.out 0;have hcz62 : w57.cell? ⟨gb15,0,none⟩ = some (.slice A14 t13.length c14):=(blk_cell BK15.out 0).trans rfl;have hfz63:=blk_frozen BK15.out 0;have hcz64 : w57.cell? ⟨gb20,0,none⟩ = some (.slice none 0 0):=(blk_cell BK20.out 0).trans rfl;have hfz65:=blk_frozen BK20.out 0) | ((with_reducible refine gate_store (t:=44) (p:=13) rfl ?_);refine store_event (t:=44) (p:=13) (v:=?vo67_) (w1:=(w57.setCell ⟨gb20,0,none⟩ (.slice A19 t17.length c19))) ?hg ?ho ?hn ?hr ?_;(case ho=>rfl);(case hg=>rfl);(case hn=>rfl);(case hr=>first | (go_simp;done) | (go_simp;rfl));intro w66 hw;have hk : Kept w57 w66 (fun k_=>k_ = gb20):=(by rw [hw];exact (Kept.setCell (Kept.refl w57 (fun k_=>k_ = gb20)) (p:=⟨gb20,0,none⟩) (.inl rfl) (.slice A19 t17.length c19)));have g0_:=GBK20.out;replace HZ6:=Aside0.mk (Kd.S_kept HZ6.out hk (fun k_ (hk_ : (w10.heap.size ≤ k_ ∧ k_ < w13.heap.size)) (hs_ : k_ = gb20)=>by have q_:=HL.out;omega));replace HZ10:=Aside0.mk (Kd.S_kept HZ10.out hk (fun k_ (hk_ : (w13.heap.size ≤ k_ ∧ k_ < w16.heap.size)) (hs_ : k_ = gb20)=>by have q_:=HL.out;omega));replace HZ14:=Aside0.mk (Kd.S_kept HZ14.out hk (fun k_ (hk_ : (w24.heap.size ≤ k_ ∧ k_ < w30.heap.size)) (hs_ : k_ = gb20)=>by have q_:=HL.out;omega));replace HZ19:=Aside0.mk (Kd.S_kept HZ19.out hk (fun k_ (hk_ : (w42.heap.size ≤ k_ ∧ k_ < w50.heap.size)) (hs_ : k_ = gb20)=>by have q_:=HL.out;omega));replace BK1:=Aside0.mk (blk_kept BK1.out hk (fun hs_=>by have q_:=HL.out;have g_:=GBK1.out;have hs2_ : gb1 = gb20:=hs_;omega));replace BK11:=Aside0.mk (blk_kept BK11.out hk (fun hs_=>by have q_:=HL.out;have g_:=GBK11.out;have hs2_ : gb11 = gb20:=hs_;omega));replace BK15:=Aside0.mk (blk_kept BK15.out hk (fun hs_=>by have q_:=HL.out;have g_:=GBK15.out;have hs2_ : gb15 = gb20:=hs_;omega));clear g0_;replace BK20:=Aside0.mk (show w66.heap[gb20]? = some (.cells #[.slice A19 t17.length c19] 44 (0,0)) from (by rw [hw];exact (blk_put (cs:=#[.slice none 0 0]) (cs':=#[.slice A19 t17.length c19]) BK20.out 0 _ rfl)));replace HB:=Aside0.mk (show Below w.heap.size w w66 from (by rw [hw];exact (below_set HB.out GW20.out)));replace HL:=Aside0.mk (And.intro HL.out hk.1);clear hk hw;clear hcz58 hfz59 hcz60 hfz61 hcz62 hfz63 hcz64 hfz65;have hcz68 : w66.cell? ⟨gb1,0,none⟩ = some (.slice A0_0 l0_0.length c0_0):=(blk_cell BK1.out 0).trans rfl;have hfz69:=blk_frozen BK1.out 0;have hcz70 : w66.cell? ⟨gb11,0,none⟩ = some (.slice A10 t8.length c10):=(blk_cell BK11.out 0).trans rfl;have hfz71:=blk_frozen BK11.out 0;have hcz72 : w66.cell? ⟨gb15,0,none⟩ = some (.slice A14 t13.length c14):=(blk_cell BK15.out 0).trans rfl;have hfz73:=blk_frozen BK15.out 0;have hcz74 : w66.cell? ⟨gb20,0,none⟩ = some (.slice A19 t17.length c19):=(blk_cell BK20.out 0).trans rfl;have hfz75:=blk_frozen BK20.out 0) | ((with_reducible refine gate_callee (f:=33) rfl ?_);refine goesL_ (some 46) rfl rfl Try.func33 (by kernel_rfl) rfl #[.agg #[.slice A19 t17.length c19],.agg #[.slice A10 t8.length c10]] rfl (by (try simp only [List.map_toArray,List.map_cons,List.map_nil]);first | done | rfl | (simp only [List.length_drop,List.length_take];rfl)) ?_;(with_reducible refine (laws_eqArena.calls k _ _ t17 _ _ t8 true _ ?side1 ?side2 ?side3 ?side4 Fa6.out).mono ?_);(case side1=>exact (Kd.S_reads' HZ19.out).2.2);(case side2=>exact (Kd.S_reads' HZ19.out).2.1);(case side3=>exact (Kd.S_reads' HZ10.out).2.2);(case side4=>exact (Kd.S_reads' HZ10.out).2.1);rintro e w76 ⟨rfl,hb⟩;refine ⟨_,rfl,?_⟩;replace HZ6:=Aside0.mk (Kd.S_below HZ6.out hb);replace HZ10:=Aside0.mk (Kd.S_below HZ10.out hb);replace HZ14:=Aside0.mk (Kd.S_below HZ14.out hb);replace HZ19:=Aside0.mk (Kd.S_below HZ19.out hb);replace BK1:=Aside0.mk (blk_below BK1.out hb);replace BK11:=Aside0.mk (blk_below BK11.out hb);replace BK15:=Aside0.mk (blk_below BK15.out hb);replace BK20:=Aside0.mk (blk_below BK20.out hb);replace HB:=Aside0.mk (below_step HB.out hb);replace HL:=Aside0.mk (And.intro HL.out (below_size hb));clear hb;clear hcz68 hfz69 hcz70 hfz71 hcz72 hfz73 hcz74 hfz75;have hcz77 : w76.cell? ⟨gb1,0,none⟩ = some (.slice A0_0 l0_0.length c0_0):=(blk_cell BK1.out 0).trans rfl;have hfz78:=blk_frozen BK1.out 0;have hcz79 : w76.cell? ⟨gb11,0,none⟩ = some (.slice A10 t8.length c10):=(blk_cell BK11.out 0).trans rfl;have hfz80:=blk_frozen BK11.out 0;have hcz81 : w76.cell? ⟨gb15,0,none⟩ = some (.slice A14 t13.length c14):=(blk_cell BK15.out 0).trans rfl;have hfz82:=blk_frozen BK15.out 0;have hcz83 : w76.cell? ⟨gb20,0,none⟩ = some (.slice A19 t17.length c19):=(blk_cell BK20.out 0).trans rfl;have hfz84:=blk_frozen BK20.out 0));replace HZ6:=Aside0.mk (Kd.S_drew HZ6.out);replace HZ10:=Aside0.mk (Kd.S_drew HZ10.out);replace HZ14:=Aside0.mk (Kd.S_drew HZ14.out);replace HZ19:=Aside0.mk (Kd.S_drew HZ19.out);replace BK1:=Aside0.mk (blk_drew BK1.out);replace BK11:=Aside0.mk (blk_drew BK11.out);replace BK15:=Aside0.mk (blk_drew BK15.out);replace BK20:=Aside0.mk (blk_drew BK20.out);replace HB:=Aside0.mk (below_drew1 HB.out)
 replace HL:=Aside0.mk (And.intro HL.out (show w76.heap.size ≤ w76.drew.heap.size from Nat.le_refl _));clear hcz77 hfz78 hcz79 hfz80 hcz81 hfz82 hcz83 hfz84;refine start_ (n:=5) (S:=fun w'=>w'.cell? ⟨gb15,0,none⟩ = some (.slice A14 t13.length c14) ∧ w'.cell? ⟨gb1,0,none⟩ = some (.slice A0_0 l0_0.length c0_0)) (ds:=[]) #[false,false,false,false,false] (by kernel_rfl) rfl rfl ⟨(blk_cell BK15.out 0).trans rfl,(blk_cell BK1.out 0).trans rfl⟩ (fun hHeld=>?_);generalize w76.drew = w85 at HZ6 HZ10 HZ14 HZ19 BK1 BK11 BK15 BK20 HB HL hHeld ⊢;refine take_ (i:=0) (N:=some 53) (v:=?_) (a':=?_) #[true,false,false,false,false] rfl rfl (by kernel_rfl) (fun _ _ _ h=>h) (Or.inl ⟨by rfl,?_⟩) hHeld ?_ ?_;rotate_left
 ·rintro w' ⟨s0,s1⟩;go_simp;with_reducible rfl
 rotate_left
 ·simp only [Act.put,List.setIfInBounds_toArray,List.set_cons_zero,List.set_cons_succ,i64_w,i32_w];rfl
 refine take_ (i:=1) (N:=some 54) (v:=?_) (a':=?_) #[true,true,false,false,false] rfl rfl (by kernel_rfl) (fun _ _ _ h=>h) (Or.inl ⟨by rfl,?_⟩) hHeld ?_ ?_;rotate_left
 ·rintro w' ⟨s0,s1⟩;go_simp;with_reducible rfl
 rotate_left
 ·simp only [Act.put,List.setIfInBounds_toArray,List.set_cons_zero,List.set_cons_succ,i64_w,i32_w];rfl
 refine one_ (i:=2) (N:=some 55) #[true,true,true,false,false] rfl rfl (by kernel_rfl) (by decide) (fun K hK=>?_);refine goes_ Try.func31 (by kernel_rfl) rfl #[.agg #[.slice A0_0 l0_0.length c0_0]] (by rfl) rfl rfl (by (try simp only [List.map_toArray,List.map_cons,List.map_nil]);first | done | rfl | (simp only [List.length_drop,List.length_take];rfl)) ?_
 (with_reducible refine (laws_toArena.calls k _ _ l0_0 t24 _ ?side1 ?side2 Fa9.out).mono ?_)
 (case side1=>exact Kd.C_below HR0_0.out HB.out)
 (case side2=>exact HC0_0.out)
 rintro e w86 ⟨v25,rfl,ho0,hb⟩;refine ⟨_,rfl,?_⟩;have HZ25:=Aside0.mk (Kd.S_lower (Kd.S_mono (ok':=fun k_=>(w85.heap.size ≤ k_ ∧ k_ < w86.heap.size)) (Kd.S_bound ho0) (fun k_ hk_=>⟨hk_.2.1,hk_.2.2.1⟩)) (below_size HB.out));clear ho0;replace HZ6:=Aside0.mk (Kd.S_below HZ6.out hb);replace HZ10:=Aside0.mk (Kd.S_below HZ10.out hb);replace HZ14:=Aside0.mk (Kd.S_below HZ14.out hb);replace HZ19:=Aside0.mk (Kd.S_below HZ19.out hb);replace BK1:=Aside0.mk (blk_below BK1.out hb);replace BK11:=Aside0.mk (blk_below BK11.out hb);replace BK15:=Aside0.mk (blk_below BK15.out hb);replace BK20:=Aside0.mk (blk_below BK20.out hb);replace HB:=Aside0.mk (below_step HB.out hb);replace HL:=Aside0.mk (And.intro HL.out (below_size hb));clear hb;obtain ⟨A25,c25,e25⟩:=Kd.S_slice HZ25.out;subst e25;refine hK.out _ _ ⟨(blk_cell BK15.out 0).trans rfl,(blk_cell BK1.out 0).trans rfl⟩ (fun hHeld=>?_);clear hK K;refine norm_ (a':=?_) ?_ ?_;rotate_left
 ·show Act.put _ (some 55) _ = _;simp only [Act.put,List.setIfInBounds_toArray,List.set_cons_zero,List.set_cons_succ,i64_w,i32_w];rfl
 refine one_ (i:=3) (N:=some 56) #[true,true,true,true,false] rfl rfl (by kernel_rfl) (by decide) (fun K hK=>?_);refine goes_ Try.func33 (by kernel_rfl) rfl #[.agg #[.slice A14 t13.length c14],.agg #[.slice A25 t24.length c25]] (by rfl) rfl rfl (by (try simp only [List.map_toArray,List.map_cons,List.map_nil]);first | done | rfl | (simp only [List.length_drop,List.length_take];rfl)) ?_
 (with_reducible refine (laws_eqArena.calls k _ _ t13 _ _ t24 true _ ?side1 ?side2 ?side3 ?side4 Fa10.out).mono ?_)
 (case side1=>exact (Kd.S_reads' HZ14.out).2.2)
 (case side2=>exact (Kd.S_reads' HZ14.out).2.1)
 (case side3=>exact (Kd.S_reads' HZ25.out).2.2)
 (case side4=>exact (Kd.S_reads' HZ25.out).2.1)
 rintro e w87 ⟨rfl,hb⟩;refine ⟨_,rfl,?_⟩;replace HZ6:=Aside0.mk (Kd.S_below HZ6.out hb);replace HZ10:=Aside0.mk (Kd.S_below HZ10.out hb);replace HZ14:=Aside0.mk (Kd.S_below HZ14.out hb);replace HZ19:=Aside0.mk (Kd.S_below HZ19.out hb);replace HZ25:=Aside0.mk (Kd.S_below HZ25.out hb);replace BK1:=Aside0.mk (blk_below BK1.out hb);replace BK11:=Aside0.mk (blk_below BK11.out hb);replace BK15:=Aside0.mk (blk_below BK15.out hb);replace BK20:=Aside0.mk (blk_below BK20.out hb);replace HB:=Aside0.mk (below_step HB.out hb);replace HL:=Aside0.mk (And.intro HL.out (below_size hb));clear hb;refine hK.out _ _ ⟨(blk_cell BK15.out 0).trans rfl,(blk_cell BK1.out 0).trans rfl⟩ (fun hHeld=>?_);clear hK K;refine norm_ (a':=?_) ?_ ?_;rotate_left
 ·show Act.put _ (some 56) _ = _;simp only [Act.put,List.setIfInBounds_toArray,List.set_cons_zero,List.set_cons_succ,i64_w,i32_w];rfl
 refine pure_ (i:=4) (N:=some 57) (v:=?_) (a':=?_) #[true,true,true,true,true] rfl rfl (by kernel_rfl) (fun _ _ _ h=>h) (Or.inl ⟨by rfl,?_⟩) ?_ ?_;rotate_left
 ·intro w';go_simp;with_reducible rfl
 rotate_left
 ·simp only [Act.put,List.setIfInBounds_toArray,List.set_cons_zero,List.set_cons_succ,i64_w,i32_w];rfl
 refine done_ (by kernel_rfl) ?_;have hcz88 : w87.cell? ⟨gb1,0,none⟩ = some (.slice A0_0 l0_0.length c0_0):=(blk_cell BK1.out 0).trans rfl;have hfz89:=blk_frozen BK1.out 0;have hcz90 : w87.cell? ⟨gb11,0,none⟩ = some (.slice A10 t8.length c10):=(blk_cell BK11.out 0).trans rfl;have hfz91:=blk_frozen BK11.out 0;have hcz92 : w87.cell? ⟨gb15,0,none⟩ = some (.slice A14 t13.length c14):=(blk_cell BK15.out 0).trans rfl;have hfz93:=blk_frozen BK15.out 0;have hcz94 : w87.cell? ⟨gb20,0,none⟩ = some (.slice A19 t17.length c19):=(blk_cell BK20.out 0).trans rfl;have hfz95:=blk_frozen BK20.out 0;go_wp2_with (first | ((with_reducible refine gate_callee (f:=34) rfl ?_);refine goesL_ (some 60) rfl rfl Try.func34 (by kernel_rfl) rfl #[.agg #[.slice A14 t13.length c14],.int .i64 1] rfl (by (try simp only [List.map_toArray,List.map_cons,List.map_nil]);first | done | rfl | (simp only [List.length_drop,List.length_take];rfl)) ?_;(with_reducible refine (laws_markArena.calls k (fun k_=>(w24.heap.size ≤ k_ ∧ k_ < w30.heap.size)) _ t13 1 t29 t30 w _ HB.out HZ14.out Fa12.out).mono ?_);rintro e w96 ⟨rfl,hy0,hb0,hk⟩;refine ⟨_,rfl,?_⟩;have ny0_:=Aside0.mk (Kd.S_mono (ok':=fun k_=>((w24.heap.size ≤ k_ ∧ k_ < w30.heap.size) ∨ (w87.heap.size ≤ k_ ∧ k_ < w96.heap.size))) (Kd.S_bound hy0) (fun k_ hk_=>hk_.1.imp id (fun h_=>⟨h_,hk_.2.2.1⟩)));replace HZ6:=Aside0.mk (Kd.S_kept HZ6.out hk (fun k_ (hk_ : (w10.heap.size ≤ k_ ∧ k_ < w13.heap.size)) (hs_ : (w24.heap.size ≤ k_ ∧ k_ < w30.heap.size))=>by have q_:=HL.out;omega));replace HZ10:=Aside0.mk (Kd.S_kept HZ10.out hk (fun k_ (hk_ : (w13.heap.size ≤ k_ ∧ k_ < w16.heap.size)) (hs_ : (w24.heap.size ≤ k_ ∧ k_ < w30.heap.size))=>by have q_:=HL.out;omega));replace HZ19:=Aside0.mk (Kd.S_kept HZ19.out hk (fun k_ (hk_ : (w42.heap.size ≤ k_ ∧ k_ < w50.heap.size)) (hs_ : (w24.heap.size ≤ k_ ∧ k_ < w30.heap.size))=>by have q_:=HL.out;omega));replace HZ25:=Aside0.mk (Kd.S_kept HZ25.out hk (fun k_ (hk_ : (w85.heap.size ≤ k_ ∧ k_ < w86.heap.size)) (hs_ : (w24.heap.size ≤ k_ ∧ k_ < w30.heap.size))=>by have q_:=HL.out;omega));replace BK1:=Aside0.mk (blk_kept BK1.out hk (fun hs_=>by have q_:=HL.out;have g_:=GBK1.out;have hs2_ : (w24.heap.size ≤ gb1 ∧ gb1 < w30.heap.size):=hs_;omega));replace BK11:=Aside0.mk (blk_kept BK11.out hk (fun hs_=>by have q_:=HL.out;have g_:=GBK11.out;have hs2_ : (w24.heap.size ≤ gb11 ∧ gb11 < w30.heap.size):=hs_;omega));replace BK15:=Aside0.mk (blk_kept BK15.out hk (fun hs_=>by have q_:=HL.out;have g_:=GBK15.out;have hs2_ : (w24.heap.size ≤ gb15 ∧ gb15 < w30.heap.size):=hs_;omega));replace BK20:=Aside0.mk (blk_kept BK20.out hk (fun hs_=>by have q_:=HL.out;have g_:=GBK20.out;have hs2_ : (w24.heap.size ≤ gb20 ∧ gb20 < w30.heap.size):=hs_;omega));replace HZ14:=ny0_;clear ny0_;replace HB:=Aside0.mk hb0;replace HL:=Aside0.mk (And.intro HL.out hk.1);clear hb0 hk hy0;clear hcz88 hfz89 hcz90 hfz91 hcz92 hfz93 hcz94 hfz95;have hcz97 : w96.cell? ⟨gb1,0,none⟩ = some (.slice A0_0 l0_0.length c0_0):=(blk_cell BK1.out 0).trans rfl;have hfz98:=blk_frozen BK1.out 0;have hcz99 : w96.cell? ⟨gb11,0,none⟩ = some (.slice A10 t8.length c10):=(blk_cell BK11.out 0).trans rfl;have hfz100:=blk_frozen BK11.out 0;have hcz101 : w96.cell? ⟨gb15,0,none⟩ = some (.slice A14 t13.length c14):=(blk_cell BK15.out 0).trans rfl;have hfz102:=blk_frozen BK15.out 0;have hcz103 : w96.cell? ⟨gb20,0,none⟩ = some (.slice A19 t17.length c19):=(blk_cell BK20.out 0).trans rfl;have hfz104:=blk_frozen BK20.out 0) | (go_at_call 33;(with_reducible show Calls _ _ _ w96 _);(with_reducible refine (laws_eqArena.calls k _ _ t17 _ _ t8 true _ ?side1 ?side2 ?side3 ?side4 Fa13.out).mono ?_);(case side1=>exact (Kd.S_reads' HZ19.out).2.2);(case side2=>exact (Kd.S_reads' HZ19.out).2.1);(case side3=>exact (Kd.S_reads' HZ10.out).2.2);(case side4=>exact (Kd.S_reads' HZ10.out).2.1);rintro e w105 ⟨rfl,hb⟩;replace HZ6:=Aside0.mk (Kd.S_below HZ6.out hb);replace HZ10:=Aside0.mk (Kd.S_below HZ10.out hb);replace HZ14:=Aside0.mk (Kd.S_below HZ14.out hb);replace HZ19:=Aside0.mk (Kd.S_below HZ19.out hb);replace HZ25:=Aside0.mk (Kd.S_below HZ25.out hb);replace BK1:=Aside0.mk (blk_below BK1.out hb);replace BK11:=Aside0.mk (blk_below BK11.out hb);replace BK15:=Aside0.mk (blk_below BK15.out hb);replace BK20:=Aside0.mk (blk_below BK20.out hb);replace HB:=Aside0.mk (below_step HB.out hb);replace HL:=Aside0.mk (And.intro HL.out (below_size hb));clear hb;clear hcz97 hfz98 hcz99 hfz100 hcz101 hfz102 hcz103 hfz104;have hcz106 : w105.cell? ⟨gb1,0,none⟩ = some (.slice A0_0 l0_0.length c0_0):=(blk_cell BK1.out 0).trans rfl;have hfz107:=blk_frozen BK1.out 0;have hcz108 : w105.cell? ⟨gb11,0,none⟩ = some (.slice A10 t8.length c10):=(blk_cell BK11.out 0).trans rfl;have hfz109:=blk_frozen BK11.out 0;have hcz110 : w105.cell? ⟨gb15,0,none⟩ = some (.slice A14 t13.length c14):=(blk_cell BK15.out 0).trans rfl;have hfz111:=blk_frozen BK15.out 0;have hcz112 : w105.cell? ⟨gb20,0,none⟩ = some (.slice A19 t17.length c19):=(blk_cell BK20.out 0).trans rfl;have hfz113:=blk_frozen BK20.out 0) | ((with_reducible refine gate_callee (f:=34) rfl ?_);refine goesL_ (some 76) rfl rfl Try.func34 (by kernel_rfl) rfl #[.agg #[.slice A19 t17.length c19],.int .i64 1] rfl (by (try simp only [List.map_toArray,List.map_cons,List.map_nil]);first | done | rfl | (simp only [List.length_drop,List.length_take];rfl)) ?_;(with_reducible refine (laws_markArena.calls k (fun k_=>(w42.heap.size ≤ k_ ∧ k_ < w50.heap.size)) _ t17 1 t34 t35 w _ HB.out HZ19.out Fa17.out).mono ?_);rintro e w114 ⟨rfl,hy0,hb0,hk⟩;refine ⟨_,rfl,?_⟩;have ny0_:=Aside0.mk (Kd.S_mono (ok':=fun k_=>((w42.heap.size ≤ k_ ∧ k_ < w50.heap.size) ∨ (w105.heap.size ≤ k_ ∧ k_ < w114.heap.size))) (Kd.S_bound hy0) (fun k_ hk_=>hk_.1.imp id (fun h_=>⟨h_,hk_.2.2.1⟩)));replace HZ6:=Aside0.mk (Kd.S_kept HZ6.out hk (fun k_ (hk_ : (w10.heap.size ≤ k_ ∧ k_ < w13.heap.size)) (hs_ : (w42.heap.size ≤ k_ ∧ k_ < w50.heap.size))=>by have q_:=HL.out;omega));replace HZ10:=Aside0.mk (Kd.S_kept HZ10.out hk (fun k_ (hk_ : (w13.heap.size ≤ k_ ∧ k_ < w16.heap.size)) (hs_ : (w42.heap.size ≤ k_ ∧ k_ < w50.heap.size))=>by have q_:=HL.out;omega));replace HZ14:=Aside0.mk (Kd.S_kept HZ14.out hk (fun k_ (hk_ : ((w24.heap.size ≤ k_ ∧ k_ < w30.heap.size) ∨ (w87.heap.size ≤ k_ ∧ k_ < w96.heap.size))) (hs_ : (w42.heap.size ≤ k_ ∧ k_ < w50.heap.size))=>by have q_:=HL.out;omega));replace HZ25:=Aside0.mk (Kd.S_kept HZ25.out hk (fun k_ (hk_ : (w85.heap.size ≤ k_ ∧ k_ < w86.heap.size)) (hs_ : (w42.heap.size ≤ k_ ∧ k_ < w50.heap.size))=>by have q_:=HL.out;omega));replace BK1:=Aside0.mk (blk_kept BK1.out hk (fun hs_=>by have q_:=HL.out;have g_:=GBK1.out;have hs2_ : (w42.heap.size ≤ gb1 ∧ gb1 < w50.heap.size):=hs_;omega));replace BK11:=Aside0.mk (blk_kept BK11.out hk (fun hs_=>by have q_:=HL.out;have g_:=GBK11.out;have hs2_ : (w42.heap.size ≤ gb11 ∧ gb11 < w50.heap.size):=hs_;omega));replace BK15:=Aside0.mk (blk_kept BK15.out hk (fun hs_=>by have q_:=HL.out;have g_:=GBK15.out;have hs2_ : (w42.heap.size ≤ gb15 ∧ gb15 < w50.heap.size):=hs_;omega));replace BK20:=Aside0.mk (blk_kept BK20.out hk (fun hs_=>by have q_:=HL.out;have g_:=GBK20.out;have hs2_ : (w42.heap.size ≤ gb20 ∧ gb20 < w50.heap.size):=hs_;omega));replace HZ19:=ny0_;clear ny0_;replace HB:=Aside0.mk hb0;replace HL:=Aside0.mk (And.intro HL.out hk.1);clear hb0 hk hy0;clear hcz106 hfz107 hcz108 hfz109 hcz110 hfz111 hcz112 hfz113;have hcz115 : w114.cell? ⟨gb1,0,none⟩ = some (.slice A0_0 l0_0.length c0_0):=(blk_cell BK1.out 0).trans rfl;have hfz116:=blk_frozen BK1.out 0;have hcz117 : w114.cell? ⟨gb11,0,none⟩ = some (.slice A10 t8.length c10):=(blk_cell BK11.out 0).trans rfl;have hfz118:=blk_frozen BK11.out 0;have hcz119 : w114.cell? ⟨gb15,0,none⟩ = some (.slice A14 t13.length c14):=(blk_cell BK15.out 0).trans rfl;have hfz120:=blk_frozen BK15.out 0;have hcz121 : w114.cell? ⟨gb20,0,none⟩ = some (.slice A19 t17.length c19):=(blk_cell BK20.out 0).trans rfl;have hfz122:=blk_frozen BK20.out 0) | ((with_reducible refine gate_callee (f:=35) rfl ?_);refine goesL_ (some 79) rfl rfl Try.func35 (by kernel_rfl) rfl #[.agg #[.slice A19 t35.length c19],.int .i64 1] rfl (by (try simp only [List.map_toArray,List.map_cons,List.map_nil]);first | done | (rw [show t35.length = t17.length from (Kd.S_reads' HZ19.out).1.symm] <;> rfl) | rfl | (simp only [List.length_drop,List.length_take];rfl)) ?_;(with_reducible refine (laws_heldArena.calls k _ _ t35 1 t37 _ ?side1 ?side2 Fa18.out).mono ?_);(case side1=>exact (Kd.S_reads' HZ19.out).2.2);(case side2=>have h1_:=(Kd.S_reads' HZ19.out).1;have h2_:=(Kd.S_reads' HZ19.out).2.1;omega);rintro e w123 ⟨rfl,hb⟩;refine ⟨_,rfl,?_⟩;replace HZ6:=Aside0.mk (Kd.S_below HZ6.out hb);replace HZ10:=Aside0.mk (Kd.S_below HZ10.out hb);replace HZ14:=Aside0.mk (Kd.S_below HZ14.out hb);replace HZ19:=Aside0.mk (Kd.S_below HZ19.out hb);replace HZ25:=Aside0.mk (Kd.S_below HZ25.out hb);replace BK1:=Aside0.mk (blk_below BK1.out hb);replace BK11:=Aside0.mk (blk_below BK11.out hb);replace BK15:=Aside0.mk (blk_below BK15.out hb);replace BK20:=Aside0.mk (blk_below BK20.out hb);replace HB:=Aside0.mk (below_step HB.out hb);replace HL:=Aside0.mk (And.intro HL.out (below_size hb));clear hb;clear hcz115 hfz116 hcz117 hfz118 hcz119 hfz120 hcz121 hfz122;have hcz124 : w123.cell? ⟨gb1,0,none⟩ = some (.slice A0_0 l0_0.length c0_0):=(blk_cell BK1.out 0).trans rfl;have hfz125:=blk_frozen BK1.out 0;have hcz126 : w123.cell? ⟨gb11,0,none⟩ = some (.slice A10 t8.length c10):=(blk_cell BK11.out 0).trans rfl;have hfz127:=blk_frozen BK11.out 0;have hcz128 : w123.cell? ⟨gb15,0,none⟩ = some (.slice A14 t13.length c14):=(blk_cell BK15.out 0).trans rfl;have hfz129:=blk_frozen BK15.out 0;have hcz130 : w123.cell? ⟨gb20,0,none⟩ = some (.slice A19 t17.length c19):=(blk_cell BK20.out 0).trans rfl;have hfz131:=blk_frozen BK20.out 0) | ((with_reducible refine gate_callee (f:=31) rfl ?_);refine goesL_ (some 87) rfl rfl Try.func31 (by kernel_rfl) rfl #[.agg #[.slice A0_0 l0_0.length c0_0]] rfl (by (try simp only [List.map_toArray,List.map_cons,List.map_nil]);first | done | rfl | (simp only [List.length_drop,List.length_take];rfl)) ?_;(with_reducible refine (laws_toArena.calls k _ _ l0_0 t39 _ ?side1 ?side2 Fa21.out).mono ?_);(case side1=>exact Kd.C_below HR0_0.out HB.out);(case side2=>exact HC0_0.out);rintro e w132 ⟨v40,rfl,ho0,hb⟩;refine ⟨_,rfl,?_⟩;have HZ40:=Aside0.mk (Kd.S_lower (Kd.S_mono (ok':=fun k_=>(w123.heap.size ≤ k_ ∧ k_ < w132.heap.size)) (Kd.S_bound ho0) (fun k_ hk_=>⟨hk_.2.1,hk_.2.2.1⟩)) (below_size HB.out));clear ho0;replace HZ6:=Aside0.mk (Kd.S_below HZ6.out hb);replace HZ10:=Aside0.mk (Kd.S_below HZ10.out hb);replace HZ14:=Aside0.mk (Kd.S_below HZ14.out hb);replace HZ19:=Aside0.mk (Kd.S_below HZ19.out hb);replace HZ25:=Aside0.mk (Kd.S_below HZ25.out hb);replace BK1:=Aside0.mk (blk_below BK1.out hb);replace BK11:=Aside0.mk (blk_below BK11.out hb);replace BK15:=Aside0.mk (blk_below BK15.out hb);replace BK20:=Aside0.mk (blk_below BK20.out hb);replace HB:=Aside0.mk (below_step HB.out hb);replace HL:=Aside0.mk (And.intro HL.out (below_size hb));clear hb;obtain ⟨A40,c40,e40⟩:=Kd.S_slice HZ40.out;subst e40;clear hcz124 hfz125 hcz126 hfz127 hcz128 hfz129 hcz130 hfz131;have hcz133 : w132.cell? ⟨gb1,0,none⟩ = some (.slice A0_0 l0_0.length c0_0):=(blk_cell BK1.out 0).trans rfl;have hfz134:=blk_frozen BK1.out 0;have hcz135 : w132.cell? ⟨gb11,0,none⟩ = some (.slice A10 t8.length c10):=(blk_cell BK11.out 0).trans rfl;have hfz136:=blk_frozen BK11.out 0;have hcz137 : w132.cell? ⟨gb15,0,none⟩ = some (.slice A14 t13.length c14):=(blk_cell BK15.out 0).trans rfl;have hfz138:=blk_frozen BK15.out 0;have hcz139 : w132.cell? ⟨gb20,0,none⟩ = some (.slice A19 t17.length c19):=(blk_cell BK20.out 0).trans rfl;have hfz140:=blk_frozen BK20.out 0) | ((with_reducible refine gate_callee (f:=32) rfl ?_);refine goesL_ (some 91) rfl rfl Try.func32 (by kernel_rfl) rfl #[.agg #[.slice A40 t39.length c40],.int .i64 a1,.int .i64 a2,.int .i64 a3] rfl (by (try simp only [List.map_toArray,List.map_cons,List.map_nil]);first | done | rfl | (simp only [List.length_drop,List.length_take];rfl)) ?_;(with_reducible refine (impl_PutAt.calls k _ _ t39 a1 a2 a3 t42 t43 _ ?side1 ?side2 Fa22.out).mono ?_);(case side1=>exact (Kd.S_reads' HZ40.out).2.2);(case side2=>exact (Kd.S_reads' HZ40.out).2.1);rintro e w141 ⟨v44,rfl,ho0,hb⟩;refine ⟨_,rfl,?_⟩;have HZ44:=Aside0.mk (Kd.S_lower (Kd.S_mono (ok':=fun k_=>(w132.heap.size ≤ k_ ∧ k_ < w141.heap.size)) (Kd.S_bound ho0) (fun k_ hk_=>⟨hk_.2.1,hk_.2.2.1⟩)) (below_size HB.out));clear ho0;replace HZ6:=Aside0.mk (Kd.S_below HZ6.out hb);replace HZ10:=Aside0.mk (Kd.S_below HZ10.out hb);replace HZ14:=Aside0.mk (Kd.S_below HZ14.out hb);replace HZ19:=Aside0.mk (Kd.S_below HZ19.out hb);replace HZ25:=Aside0.mk (Kd.S_below HZ25.out hb);replace HZ40:=Aside0.mk (Kd.S_below HZ40.out hb);replace BK1:=Aside0.mk (blk_below BK1.out hb);replace BK11:=Aside0.mk (blk_below BK11.out hb);replace BK15:=Aside0.mk (blk_below BK15.out hb);replace BK20:=Aside0.mk (blk_below BK20.out hb);replace HB:=Aside0.mk (below_step HB.out hb);replace HL:=Aside0.mk (And.intro HL.out (below_size hb));clear hb;obtain ⟨A44,c44,e44⟩:=Kd.S_slice HZ44.out;subst e44;clear hcz133 hfz134 hcz135 hfz136 hcz137 hfz138 hcz139 hfz140;have hcz142 : w141.cell? ⟨gb1,0,none⟩ = some (.slice A0_0 l0_0.length c0_0):=(blk_cell BK1.out 0).trans rfl;have hfz143:=blk_frozen BK1.out 0;have hcz144 : w141.cell? ⟨gb11,0,none⟩ = some (.slice A10 t8.length c10):=(blk_cell BK11.out 0).trans rfl;have hfz145:=blk_frozen BK11.out 0;have hcz146 : w141.cell? ⟨gb15,0,none⟩ = some (.slice A14 t13.length c14):=(blk_cell BK15.out 0).trans rfl;have hfz147:=blk_frozen BK15.out 0;have hcz148 : w141.cell? ⟨gb20,0,none⟩ = some (.slice A19 t17.length c19):=(blk_cell BK20.out 0).trans rfl;have hfz149:=blk_frozen BK20.out 0) | ((with_reducible refine gate_dst (N:=18) rfl ?_);refine box_event ?hg (N:=18) ?hd (cs:=#[.slice none 0 0]) (t:=44) ?hr ?_;(case hd=>rfl);(case hg=>rfl);(case hr=>first | (go_simp;done) | (go_simp;rfl));intro gb45 hg w150 hbox hb;replace HZ6:=Aside0.mk (Kd.S_below HZ6.out hb);replace HZ10:=Aside0.mk (Kd.S_below HZ10.out hb);replace HZ14:=Aside0.mk (Kd.S_below HZ14.out hb);replace HZ19:=Aside0.mk (Kd.S_below HZ19.out hb);replace HZ25:=Aside0.mk (Kd.S_below HZ25.out hb);replace HZ40:=Aside0.mk (Kd.S_below HZ40.out hb);replace HZ44:=Aside0.mk (Kd.S_below HZ44.out hb);replace BK1:=Aside0.mk (blk_below BK1.out hb);replace BK11:=Aside0.mk (blk_below BK11.out hb);replace BK15:=Aside0.mk (blk_below BK15.out hb);replace BK20:=Aside0.mk (blk_below BK20.out hb);have GBK45:=Aside0.mk (show gb45 = w141.heap.size ∧ gb45 < w150.heap.size from ⟨hg,blk_lt hbox⟩);have GW45:=Aside0.mk (show w.heap.size ≤ gb45 by have q_:=below_size HB.out;rw [hg];exact q_);have BK45:=Aside0.mk hbox;replace HB:=Aside0.mk (below_step HB.out hb);replace HL:=Aside0.mk (And.intro HL.out (below_size hb));clear hb hbox hg;clear hcz142 hfz143 hcz144 hfz145 hcz146 hfz147 hcz148 hfz149;have hcz151 : w150.cell? ⟨gb1,0,none⟩ = some (.slice A0_0 l0_0.length c0_0):=(blk_cell BK1.out 0).trans rfl;have hfz152:=blk_frozen BK1.out 0;have hcz153 : w150.cell? ⟨gb11,0,none⟩ = some (.slice A10 t8.length c10):=(blk_cell BK11.out 0).trans rfl;have hfz154:=blk_frozen BK11.out 0;have hcz155 : w150.cell? ⟨gb15,0,none⟩ = some (.slice A14 t13.length c14):=(blk_cell BK15.out 0).trans rfl;have hfz156:=blk_frozen BK15.out 0;have hcz157 : w150.cell? ⟨gb20,0,none⟩ = some (.slice A19 t17.length c19):=(blk_cell BK20.out 0).trans rfl;have hfz158:=blk_frozen BK20.out 0;have hcz159 : w150.cell? ⟨gb45,0,none⟩ = some (.slice none 0 0):=(blk_cell BK45.out 0).trans rfl;have hfz160:=blk_frozen BK45.out 0) | ((with_reducible refine gate_store (t:=44) (p:=18) rfl ?_);refine store_event (t:=44) (p:=18) (v:=?vo162_) (w1:=(w150.setCell ⟨gb45,0,none⟩ (.slice A44 t42.length c44))) ?hg ?ho ?hn ?hr ?_;(case ho=>rfl);(case hg=>rfl);(case hn=>rfl);(case hr=>first | (go_simp;done) | (go_simp;rfl));intro w161 hw;have hk : Kept w150 w161 (fun k_=>k_ = gb45):=(by rw [hw];exact (Kept.setCell (Kept.refl w150 (fun k_=>k_ = gb45)) (p:=⟨gb45,0,none⟩) (.inl rfl) (.slice A44 t42.length c44)));have g0_:=GBK45.out;replace HZ6:=Aside0.mk (Kd.S_kept HZ6.out hk (fun k_ (hk_ : (w10.heap.size ≤ k_ ∧ k_ < w13.heap.size)) (hs_ : k_ = gb45)=>by have q_:=HL.out;omega));replace HZ10:=Aside0.mk (Kd.S_kept HZ10.out hk (fun k_ (hk_ : (w13.heap.size ≤ k_ ∧ k_ < w16.heap.size)) (hs_ : k_ = gb45)=>by have q_:=HL.out;omega));replace HZ14:=Aside0.mk (Kd.S_kept HZ14.out hk (fun k_ (hk_ : ((w24.heap.size ≤ k_ ∧ k_ < w30.heap.size) ∨ (w87.heap.size ≤ k_ ∧ k_ < w96.heap.size))) (hs_ : k_ = gb45)=>by have q_:=HL.out;omega));replace HZ19:=Aside0.mk (Kd.S_kept HZ19.out hk (fun k_ (hk_ : ((w42.heap.size ≤ k_ ∧ k_ < w50.heap.size) ∨ (w105.heap.size ≤ k_ ∧ k_ < w114.heap.size))) (hs_ : k_ = gb45)=>by have q_:=HL.out;omega));replace HZ25:=Aside0.mk (Kd.S_kept HZ25.out hk (fun k_ (hk_ : (w85.heap.size ≤ k_ ∧ k_ < w86.heap.size)) (hs_ : k_ = gb45)=>by have q_:=HL.out;omega));replace HZ40:=Aside0.mk (Kd.S_kept HZ40.out hk (fun k_ (hk_ : (w123.heap.size ≤ k_ ∧ k_ < w132.heap.size)) (hs_ : k_ = gb45)=>by have q_:=HL.out;omega));replace HZ44:=Aside0.mk (Kd.S_kept HZ44.out hk (fun k_ (hk_ : (w132.heap.size ≤ k_ ∧ k_ < w141.heap.size)) (hs_ : k_ = gb45)=>by have q_:=HL.out;omega));replace BK1:=Aside0.mk (blk_kept BK1.out hk (fun hs_=>by have q_:=HL.out;have g_:=GBK1.out;have hs2_ : gb1 = gb45:=hs_;omega));replace BK11:=Aside0.mk (blk_kept BK11.out hk (fun hs_=>by have q_:=HL.out;have g_:=GBK11.out;have hs2_ : gb11 = gb45:=hs_;omega));replace BK15:=Aside0.mk (blk_kept BK15.out hk (fun hs_=>by have q_:=HL.out;have g_:=GBK15.out;have hs2_ : gb15 = gb45:=hs_;omega));replace BK20:=Aside0.mk (blk_kept BK20.out hk (fun hs_=>by have q_:=HL.out;have g_:=GBK20.out;have hs2_ : gb20 = gb45:=hs_;omega));clear g0_;replace BK45:=Aside0.mk (show w161.heap[gb45]? = some (.cells #[.slice A44 t42.length c44] 44 (0,0)) from (by rw [hw];exact (blk_put (cs:=#[.slice none 0 0]) (cs':=#[.slice A44 t42.length c44]) BK45.out 0 _ rfl)));replace HB:=Aside0.mk (show Below w.heap.size w w161 from (by rw [hw];exact (below_set HB.out GW45.out)));replace HL:=Aside0.mk (And.intro HL.out hk.1);clear hk hw;clear hcz151 hfz152 hcz153 hfz154 hcz155 hfz156 hcz157 hfz158 hcz159 hfz160;have hcz163 : w161.cell? ⟨gb1,0,none⟩ = some (.slice A0_0 l0_0.length c0_0):=(blk_cell BK1.out 0).trans rfl;have hfz164:=blk_frozen BK1.out 0;have hcz165 : w161.cell? ⟨gb11,0,none⟩ = some (.slice A10 t8.length c10):=(blk_cell BK11.out 0).trans rfl;have hfz166:=blk_frozen BK11.out 0;have hcz167 : w161.cell? ⟨gb15,0,none⟩ = some (.slice A14 t13.length c14):=(blk_cell BK15.out 0).trans rfl;have hfz168:=blk_frozen BK15.out 0;have hcz169 : w161.cell? ⟨gb20,0,none⟩ = some (.slice A19 t17.length c19):=(blk_cell BK20.out 0).trans rfl;have hfz170:=blk_frozen BK20.out 0;have hcz171 : w161.cell? ⟨gb45,0,none⟩ = some (.slice A44 t42.length c44):=(blk_cell BK45.out 0).trans rfl;have hfz172:=blk_frozen BK45.out 0) | ((with_reducible refine gate_callee (f:=33) rfl ?_);refine goesL_ (some 96) rfl rfl Try.func33 (by kernel_rfl) rfl #[.agg #[.slice A44 t42.length c44],.agg #[.slice A10 t8.length c10]] rfl (by (try simp only [List.map_toArray,List.map_cons,List.map_nil]);first | done | rfl | (simp only [List.length_drop,List.length_take];rfl)) ?_;(with_reducible refine (laws_eqArena.calls k _ _ t42 _ _ t8 true _ ?side1 ?side2 ?side3 ?side4 Fa23.out).mono ?_);(case side1=>exact (Kd.S_reads' HZ44.out).2.2);(case side2=>exact (Kd.S_reads' HZ44.out).2.1);(case side3=>exact (Kd.S_reads' HZ10.out).2.2);(case side4=>exact (Kd.S_reads' HZ10.out).2.1);rintro e w173 ⟨rfl,hb⟩;refine ⟨_,rfl,?_⟩;replace HZ6:=Aside0.mk (Kd.S_below HZ6.out hb);replace HZ10:=Aside0.mk (Kd.S_below HZ10.out hb);replace HZ14:=Aside0.mk (Kd.S_below HZ14.out hb);replace HZ19:=Aside0.mk (Kd.S_below HZ19.out hb);replace HZ25:=Aside0.mk (Kd.S_below HZ25.out hb);replace HZ40:=Aside0.mk (Kd.S_below HZ40.out hb);replace HZ44:=Aside0.mk (Kd.S_below HZ44.out hb);replace BK1:=Aside0.mk (blk_below BK1.out hb);replace BK11:=Aside0.mk (blk_below BK11.out hb);replace BK15:=Aside0.mk (blk_below BK15.out hb);replace BK20:=Aside0.mk (blk_below BK20.out hb);replace BK45:=Aside0.mk (blk_below BK45.out hb);replace HB:=Aside0.mk (below_step HB.out hb);replace HL:=Aside0.mk (And.intro HL.out (below_size hb));clear hb;clear hcz163 hfz164 hcz165 hfz166 hcz167 hfz168 hcz169 hfz170 hcz171 hfz172;have hcz174 : w173.cell? ⟨gb1,0,none⟩ = some (.slice A0_0 l0_0.length c0_0):=(blk_cell BK1.out 0).trans rfl;have hfz175:=blk_frozen BK1.out 0;have hcz176 : w173.cell? ⟨gb11,0,none⟩ = some (.slice A10 t8.length c10):=(blk_cell BK11.out 0).trans rfl;have hfz177:=blk_frozen BK11.out 0;have hcz178 : w173.cell? ⟨gb15,0,none⟩ = some (.slice A14 t13.length c14):=(blk_cell BK15.out 0).trans rfl;have hfz179:=blk_frozen BK15.out 0;have hcz180 : w173.cell? ⟨gb20,0,none⟩ = some (.slice A19 t17.length c19):=(blk_cell BK20.out 0).trans rfl;have hfz181:=blk_frozen BK20.out 0;have hcz182 : w173.cell? ⟨gb45,0,none⟩ = some (.slice A44 t42.length c44):=(blk_cell BK45.out 0).trans rfl;have hfz183:=blk_frozen BK45.out 0) | ((with_reducible refine gate_callee (f:=35) rfl ?_);refine goesL_ (some 105) rfl rfl Try.func35 (by kernel_rfl) rfl #[.agg #[.slice A19 t35.length c19],.int .i64 1] rfl (by (try simp only [List.map_toArray,List.map_cons,List.map_nil]);first | done | (rw [show t35.length = t17.length from (Kd.S_reads' HZ19.out).1.symm] <;> rfl) | rfl | (simp only [List.length_drop,List.length_take];rfl)) ?_;(with_reducible refine (laws_heldArena.calls k _ _ t35 1 t49 _ ?side1 ?side2 Fa26.out).mono ?_);(case side1=>exact (Kd.S_reads' HZ19.out).2.2);(case side2=>have h1_:=(Kd.S_reads' HZ19.out).1;have h2_:=(Kd.S_reads' HZ19.out).2.1;omega);rintro e w184 ⟨rfl,hb⟩;refine ⟨_,rfl,?_⟩;replace HZ6:=Aside0.mk (Kd.S_below HZ6.out hb);replace HZ10:=Aside0.mk (Kd.S_below HZ10.out hb);replace HZ14:=Aside0.mk (Kd.S_below HZ14.out hb);replace HZ19:=Aside0.mk (Kd.S_below HZ19.out hb);replace HZ25:=Aside0.mk (Kd.S_below HZ25.out hb);replace HZ40:=Aside0.mk (Kd.S_below HZ40.out hb);replace HZ44:=Aside0.mk (Kd.S_below HZ44.out hb);replace BK1:=Aside0.mk (blk_below BK1.out hb);replace BK11:=Aside0.mk (blk_below BK11.out hb);replace BK15:=Aside0.mk (blk_below BK15.out hb);replace BK20:=Aside0.mk (blk_below BK20.out hb);replace BK45:=Aside0.mk (blk_below BK45.out hb);replace HB:=Aside0.mk (below_step HB.out hb);replace HL:=Aside0.mk (And.intro HL.out (below_size hb));clear hb;clear hcz174 hfz175 hcz176 hfz177 hcz178 hfz179 hcz180 hfz181 hcz182 hfz183;have hcz185 : w184.cell? ⟨gb1,0,none⟩ = some (.slice A0_0 l0_0.length c0_0):=(blk_cell BK1.out 0).trans rfl;have hfz186:=blk_frozen BK1.out 0;have hcz187 : w184.cell? ⟨gb11,0,none⟩ = some (.slice A10 t8.length c10):=(blk_cell BK11.out 0).trans rfl;have hfz188:=blk_frozen BK11.out 0;have hcz189 : w184.cell? ⟨gb15,0,none⟩ = some (.slice A14 t13.length c14):=(blk_cell BK15.out 0).trans rfl;have hfz190:=blk_frozen BK15.out 0;have hcz191 : w184.cell? ⟨gb20,0,none⟩ = some (.slice A19 t17.length c19):=(blk_cell BK20.out 0).trans rfl;have hfz192:=blk_frozen BK20.out 0;have hcz193 : w184.cell? ⟨gb45,0,none⟩ = some (.slice A44 t42.length c44):=(blk_cell BK45.out 0).trans rfl;have hfz194:=blk_frozen BK45.out 0))
 go_ret
 exact ⟨rfl,HB.out⟩
end Go.Proofs.Ytdolplcbokioaaa.PB

/- What a law's arguments, read as data, are as the print's kinds. -/
namespace Go.Proofs.Ytdolplcbokioaaa.Open
open Go.RowKit Go.Proofs.YtdolplcbokioaaaW.PrintWords

/-- A datum that is read at type t is of kind d, and each such y meets wf. -/
def Opn {α : Type} (P : Program) (t : TypeId) (d : Kd α) (wf : α → Prop) : Prop :=
  ∀ (H : Type) (enc : TypeId × Value → H) (w : World) (base : Nat) (spare : Nat → Bool) (held : Bool) (fuel : Nat) (cs : List Value) (x : DataW H × List MemPlace),
    DataW.trod enc P w base spare held fuel t cs = some x → ∃ y : α, d.K w y cs ∧ wf y

theorem opn_int {P : Program} {t : TypeId} {k : IntKind} (hu : P.underlying t = some (.int k)) : Opn P t (Kd.int k) (fun n => (Lit.int k n).wf = true) := by
  intro H enc w base spare held fuel cs x h
  obtain ⟨n, rfl, _, hw⟩ := DataW.trod_int hu h
  exact ⟨n, rfl, hw⟩
theorem opn_bool {P : Program} {t : TypeId} (hu : P.underlying t = some .bool) : Opn P t Kd.bool (fun _ => True) := by
  intro H enc w base spare held fuel cs x h
  obtain ⟨n, rfl, _⟩ := DataW.trod_bool hu h
  exact ⟨n, rfl, trivial⟩
theorem opn_string {P : Program} {t : TypeId} (hu : P.underlying t = some .string) : Opn P t Kd.string (fun s => s.size ≤ maxLen) := by
  intro H enc w base spare held fuel cs x h
  obtain ⟨n, rfl, _, hw⟩ := DataW.trod_string hu h
  exact ⟨n, rfl, hw⟩
theorem choose_list {α : Type} {Q : Nat → α → Prop} : ∀ (n : Nat), (∀ i, i < n → ∃ y, Q i y) → ∃ ys : List α, ys.length = n ∧ ∀ i y, ys[i]? = some y → Q i y
  | 0, _ => ⟨[], rfl, fun i y h => by simp at h⟩
  | n + 1, h => by
    obtain ⟨ys, hl, hq⟩ := choose_list n (fun i hi => h i (by omega))
    obtain ⟨y, hy⟩ := h n (by omega)
    refine ⟨ys ++ [y], by simp [hl], fun i z hz => ?_⟩
    rcases Nat.lt_or_ge i ys.length with hi | hi
    · rw [List.getElem?_append_left hi] at hz
      exact hq i z hz
    · rw [List.getElem?_append_right hi] at hz
      have hi2 : i - ys.length = 0 := by
        have := (List.getElem?_eq_some_iff.1 hz).1
        simp at this
        omega
      rw [hi2] at hz
      have : i = n := by omega
      subst this
      simp at hz
      subst hz
      exact hy
theorem adds (a : Addr) (m n : Nat) : (a.add m).add n = a.add (m + n) := by
  unfold Addr.add
  by_cases h1 : m = 0 <;> by_cases h2 : n = 0 <;> simp_all [Nat.add_assoc]
theorem opn_slice {α : Type} {P : Program} {t e : TypeId} {d : Kd α} {wf : α → Prop} (hu : P.underlying t = some (.slice e)) (hc : P.cellsOf e = d.sz) (ho : Opn P e d wf) :
    Opn P t (Kd.slice e d) (fun xs => xs.length ≤ maxLen ∧ ∀ x ∈ xs, wf x) := by
  intro H enc w base spare held fuel cs x h
  rcases DataW.trod_slice hu h with ⟨rfl, _⟩ | ⟨a, len, cap, elems, rest, n, _, rfl, _, hb, hl, hm, hlen, hel, _, _⟩
  · refine ⟨[], ⟨none, 0, rfl, Nat.le_refl _, rfl, by simp, fun h0 => absurd h0 (by simp)⟩, by simp, fun x hx => absurd hx (by simp)⟩
  · have each : ∀ i, i < len → ∃ y : α, ∃ c : List Value, (c.length = d.sz ∧ d.K w y c ∧ ∀ j u, c[j]? = some u → w.cell? (a.add (i * d.sz + j)) = some u) ∧ wf y := by
      intro i hi
      have h1 := hel i hi
      rw [List.getElem?_eq_getElem (by omega), Option.bind_eq_some_iff, hc] at h1
      obtain ⟨c, h2, h3⟩ := h1
      obtain ⟨_, hcl, hcell⟩ := World.cells?_some h2
      obtain ⟨y, hk, hw⟩ := ho H enc w base spare held n c _ h3
      refine ⟨y, c, ⟨hcl, hk, fun j u hj => ?_⟩, hw⟩
      have hjl : j < c.length := (List.getElem?_eq_some_iff.1 hj).1
      rw [← adds, hcell j (by omega), hj]
    obtain ⟨ys, hyl, hys⟩ := choose_list len each
    have hml : len ≤ maxLen := Nat.le_trans hl hm
    refine ⟨ys, ⟨some a, cap, by rw [hyl], by rw [hyl]; exact hl, rfl, by rw [hyl]; simpa only [maxLen] using hml, fun _ => ⟨a, rfl, fun j p hj => ?_⟩⟩, by rw [hyl]; exact hml, fun y hy => ?_⟩
    · obtain ⟨c, hq, _⟩ := hys j p hj
      exact ⟨c, hq⟩
    · obtain ⟨j, hj, he⟩ := List.getElem_of_mem hy
      obtain ⟨_, _, hw⟩ := hys j y (by rw [List.getElem?_eq_getElem hj, he])
      exact hw

/-- The fields fs, read off the cells from off on, are of kind d. -/
def OpnF {α : Type} (P : Program) (fs : List Field) (off : Nat) (d : Kd α) (wf : α → Prop) : Prop :=
  ∀ (H : Type) (enc : TypeId × Value → H) (w : World) (base : Nat) (spare : Nat → Bool) (held : Bool) (fuel : Nat) (cs : List Value), cs.length = off + d.sz →
    (∀ f ∈ fs, ∃ x, DataW.trod enc P w base spare held fuel f.type ((cs.drop f.offset).take (P.cellsOf f.type)) = some x) → ∃ y : α, d.K w y (cs.drop off) ∧ wf y
theorem opnF_one {α : Type} {P : Program} {f : Field} {off : Nat} {d : Kd α} {wf : α → Prop} (hoff : f.offset = off) (hc : P.cellsOf f.type = d.sz) (ho : Opn P f.type d wf) : OpnF P [f] off d wf := by
  intro H enc w base spare held fuel cs hl h
  obtain ⟨x, hx⟩ := h f (by simp)
  obtain ⟨y, hk, hw⟩ := ho H enc w base spare held fuel _ x hx
  rw [hoff, hc, List.take_of_length_le (by rw [List.length_drop]; omega)] at hk
  exact ⟨y, hk, hw⟩
theorem opnF_cons {α β : Type} {P : Program} {f : Field} {fs : List Field} {off : Nat} {a : Kd α} {b : Kd β} {wa : α → Prop} {wb : β → Prop} (hoff : f.offset = off) (hc : P.cellsOf f.type = a.sz) (ho : Opn P f.type a wa) (hr : OpnF P fs (off + a.sz) b wb) :
    OpnF P (f :: fs) off (Kd.pair a b) (fun p => wa p.1 ∧ wb p.2) := by
  intro H enc w base spare held fuel cs hl h
  obtain ⟨x, hx⟩ := h f (by simp)
  obtain ⟨y, hk, hw⟩ := ho H enc w base spare held fuel _ x hx
  have hsz : (Kd.pair a b).sz = a.sz + b.sz := rfl
  obtain ⟨z, hk2, hw2⟩ := hr H enc w base spare held fuel cs (by omega) (fun g hg => h g (List.mem_cons_of_mem _ hg))
  rw [hoff, hc] at hk
  refine ⟨(y, z), ⟨(cs.drop off).take a.sz, cs.drop (off + a.sz), ?_, hk, hk2⟩, hw, hw2⟩
  rw [← List.drop_drop, List.take_append_drop]
theorem opn_tuple {α : Type} {P : Program} {t : TypeId} {fs : List Field} {d : Kd α} {wf : α → Prop} (hu : P.underlying t = some (.struct fs.toArray)) (hc : P.cellsOf t = d.sz) (ho : OpnF P fs 0 d wf) :
    Opn P t d wf := by
  intro H enc w base spare held fuel cs x h
  obtain ⟨xs, n, _, _, hl, hlen, hf⟩ := DataW.trod_struct hu h
  obtain ⟨y, hk, hw⟩ := ho H enc w base spare held n cs (by omega) (fun fl hfl => by
    obtain ⟨i, hi, he⟩ := List.getElem_of_mem hfl
    have h1 := hf i fl (by simpa using (List.getElem?_eq_getElem hi).trans (congrArg some he))
    have hlen2 : xs.length = fs.length := by simpa using hlen
    exact ⟨xs[i]'(by omega), by rw [h1, List.getElem?_eq_getElem]⟩)
  exact ⟨y, by simpa using hk, hw⟩
theorem opn_struct {α β : Type} {P : Program} {t : TypeId} {fs : List Field} {d : Kd α} {wf : α → Prop} (f : β → α) (g : α → β) (hfg : ∀ a, f (g a) = a) (hu : P.underlying t = some (.struct fs.toArray)) (hc : P.cellsOf t = d.sz) (ho : OpnF P fs 0 d wf) :
    Opn P t (Kd.iso d f) (fun y => wf (f y)) := by
  intro H enc w base spare held fuel cs x h
  obtain ⟨xs, n, _, _, hl, hlen, hf⟩ := DataW.trod_struct hu h
  obtain ⟨y, hk, hw⟩ := ho H enc w base spare held n cs (by omega) (fun fl hfl => by
    obtain ⟨i, hi, he⟩ := List.getElem_of_mem hfl
    have h1 := hf i fl (by simpa using (List.getElem?_eq_getElem hi).trans (congrArg some he))
    have hlen2 : xs.length = fs.length := by simpa using hlen
    exact ⟨xs[i]'(by omega), by rw [h1, List.getElem?_eq_getElem]⟩)
  exact ⟨g y, by show d.K w (f (g y)) cs; rw [hfg]; simpa using hk, by show wf (f (g y)); rw [hfg]; exact hw⟩
end Go.Proofs.Ytdolplcbokioaaa.Open

/- Plain facts on rounds, lists and whole numbers, for the pure statements. -/
namespace Go.Proofs.Ytdolplcbokioaaa.Pu
set_option linter.unusedVariables false
set_option linter.unusedSimpArgs false
open Go.RowKit Go.Proofs.YtdolplcbokioaaaW.PrintWords

theorem w64 {x : Int} (h1 : -9223372036854775808 ≤ x) (h2 : x ≤ 9223372036854775807) : wrap64 x = x := by
  unfold wrap64; omega
theorem wsucc {i n : Nat} (h : i < n) (hn : n ≤ 9223372036854775807) : wrap64 ((i : Int) + 1) = ((i + 1 : Nat) : Int) := by
  rw [w64 (by omega) (by omega)]; rfl
theorem wf_i64 {n : Int} (h : (Lit.int .i64 n).wf = true) : -9223372036854775808 ≤ n ∧ n ≤ 9223372036854775807 := by
  simp only [Lit.wf, Bool.and_eq_true, decide_eq_true_eq] at h
  have h1 : IntKind.min .i64 = -9223372036854775808 := by decide
  have h2 : IntKind.max .i64 = 9223372036854775807 := by decide
  omega

/-- Rounds: what is told, a step on. -/
theorem ev_some {α : Type} {g : Nat → Option α} {r : α} (h : ∀ k, g (k + 1) = some r) : Ev g r := Ev.step h (Ev.now r)
theorem ev_const {α : Type} {o : Option α} {r : α} (h : o = some r) : Ev (fun _ => o) r := ⟨0, fun _ _ => h⟩
theorem ev_bind {α β : Type} {g : Nat → Option α} {f : Nat → α → Option β} {a : α} {r : β} (h : Ev g a) (k : Ev (fun n => f n a) r) : Ev (fun n => (g n).bind (f n)) r := Ev.bind h k
theorem ev_uniq {α : Type} {g : Nat → Option α} {a b : α} (h : Ev g a) (k : Ev g b) : a = b := by
  obtain ⟨K, hK⟩ := h
  obtain ⟨M, hM⟩ := k
  have h1 := hK (max K M) (Nat.le_max_left _ _)
  rw [hM (max K M) (Nat.le_max_right _ _)] at h1
  injection h1 with h1
  exact h1.symm
theorem ev_ext {α : Type} {g f : Nat → Option α} {r : α} (h : ∀ k, g k = f k) (k : Ev f r) : Ev g r := Ev.congr h k

/-- A row that is made and filled, place by place. -/
theorem ev_fill {β : Type} {L : Nat → List β → Int → Option (List β)} {E : Nat → Int → Option β} {n : Nat} {e : Nat → β} (hn : n ≤ 9223372036854775807)
    (hs : ∀ k xs i, L (k + 1) xs i = if i < (n : Int) then (if 0 ≤ i then ((E k i).bind fun b => if i < (xs.length : Int) then L k (xs.set i.toNat b) (wrap64 (i + 1)) else none) else none) else some xs)
    (hE : ∀ i, i < n → Ev (fun k => E k (i : Int)) (e i)) :
    ∀ (d i : Nat) (xs : List β), xs.length = n → i + d = n → Ev (fun k => L k xs (i : Int)) (xs.take i ++ (List.range' i d).map e) := by
  intro d
  induction d with
  | zero =>
    intro i xs hl hi
    refine ev_some fun k => ?_
    rw [hs, if_neg (by omega)]
    simp [List.take_of_length_le (show xs.length ≤ i by omega)]
  | succ d ih =>
    intro i xs hl hi
    refine Ev.step (f := fun k => (E k (i : Int)).bind fun b => L k (xs.set i b) ((i + 1 : Nat) : Int)) (fun k => ?_) ?_
    · rw [hs, if_pos (by omega), if_pos (by omega), wsucc (n := n) (by omega) hn]
      congr 1
      funext b
      rw [if_pos (by omega)]
      rfl
    · refine ev_bind (hE i (by omega)) ?_
      have h := ih (i + 1) (xs.set i (e i)) (by rw [List.length_set]; exact hl) (by omega)
      have e1 : (xs.set i (e i)).take (i + 1) ++ (List.range' (i + 1) d).map e = xs.take i ++ (List.range' i (d + 1)).map e := by
        rw [List.range'_succ, List.map_cons, List.take_succ_eq_append_getElem (by rw [List.length_set]; omega), List.getElem_set_self, List.take_set_of_le (Nat.le_refl _)]
        simp
      rw [e1] at h
      exact h
theorem map_range {α β : Type} (l : List α) (z : α) (g : α → β) : (List.range' 0 l.length).map (fun i => g (l.getD i z)) = l.map g := by
  apply List.ext_getElem
  · simp
  · intro i h1 h2
    simp only [List.length_map] at h2
    simp [List.getD_eq_getElem?_getD, List.getElem?_eq_getElem h2]
theorem ev_fill_all {α β : Type} {L : Nat → List β → Int → Option (List β)} {E : Nat → Int → Option β} {l : List α} {z : α} {g : α → β} {xs : List β} (hn : l.length ≤ 9223372036854775807)
    (hs : ∀ k xs i, L (k + 1) xs i = if i < (l.length : Int) then (if 0 ≤ i then ((E k i).bind fun b => if i < (xs.length : Int) then L k (xs.set i.toNat b) (wrap64 (i + 1)) else none) else none) else some xs)
    (hE : ∀ i, i < l.length → Ev (fun k => E k (i : Int)) (g (l.getD i z))) (hx : xs.length = l.length) : Ev (fun k => L k xs 0) (l.map g) := by
  have h := ev_fill (e := fun i => g (l.getD i z)) hn hs hE l.length 0 xs hx (by omega)
  rw [map_range] at h
  simpa using h

/-- Every place meets a test, tried place by place. -/
theorem ev_all {L E : Nat → Int → Option Bool} {n m : Nat} (hn : n ≤ 9223372036854775807) (hnm : n ≤ m)
    (hs : ∀ k i, L (k + 1) i = if i < (n : Int) then (if 0 ≤ i then (if i < (m : Int) then ((E k i).bind fun b => if b = true then L k (wrap64 (i + 1)) else some false) else none) else none) else some true)
    (hE : ∀ i, i < n → Ev (fun k => E k (i : Int)) true) : ∀ (d i : Nat), i + d = n → Ev (fun k => L k (i : Int)) true := by
  intro d
  induction d with
  | zero => intro i hi; exact ev_some fun k => by rw [hs, if_neg (by omega)]
  | succ d ih =>
    intro i hi
    refine Ev.step (f := fun k => (E k (i : Int)).bind fun b => if b = true then L k ((i + 1 : Nat) : Int) else some false) (fun k => ?_) (ev_bind (hE i (by omega)) (by simpa using ih (i + 1) (by omega)))
    rw [hs, if_pos (by omega), if_pos (by omega), if_pos (by omega), wsucc (n := n) (by omega) hn]

/-- What is left of a number, place by place, as long as it is not below 0. -/
theorem ev_size {L E : Nat → Int → Int → Option Int} {n : Nat} {P : Nat → Prop} (hn : n ≤ 9223372036854775807)
    (hs : ∀ k a i, L (k + 1) a i = if i < (n : Int) then (if 0 ≤ i then ((E k i a).bind fun t => if t < 0 then some (-1) else L k t (wrap64 (i + 1))) else none) else some a)
    (hE : ∀ i a, i < n → 0 ≤ a → a ≤ 1048576 → ∃ t, Ev (fun k => E k (i : Int) a) t ∧ t ≤ a ∧ (0 ≤ t → P i)) :
    ∀ (d i : Nat) (a : Int), i + d = n → 0 ≤ a → a ≤ 1048576 → ∃ r, Ev (fun k => L k a (i : Int)) r ∧ r ≤ a ∧ (0 ≤ r → ∀ m, i ≤ m → m < n → P m) := by
  intro d
  induction d with
  | zero => intro i a hi h0 h1; exact ⟨a, ev_some fun k => by rw [hs, if_neg (by omega)], Int.le_refl _, fun _ m h2 h3 => by omega⟩
  | succ d ih =>
    intro i a hi h0 h1
    obtain ⟨t, ht, hta, hp⟩ := hE i a (by omega) h0 h1
    have hst : ∀ k, L (k + 1) a (i : Int) = (E k (i : Int) a).bind fun t => if t < 0 then some (-1) else L k t ((i + 1 : Nat) : Int) := fun k => by
      rw [hs, if_pos (by omega), if_pos (by omega), wsucc (n := n) (by omega) hn]
    by_cases hneg : t < 0
    · exact ⟨-1, Ev.step hst (ev_bind ht (by simp only [if_pos hneg]; exact Ev.now _)), by omega, fun h => by omega⟩
    · obtain ⟨r, hr, hra, hq⟩ := ih (i + 1) t (by omega) (by omega) (by omega)
      refine ⟨r, Ev.step hst (ev_bind ht (by simp only [if_neg hneg]; exact hr)), by omega, fun h0r m h2 h3 => ?_⟩
      by_cases e : m = i
      · subst e; exact hp (by omega)
      · exact hq h0r m (by omega) h3
end Go.Proofs.Ytdolplcbokioaaa.Pu

/- What the functions on arenas answer: sizes, copies, comparison, and when an arena is right. -/
namespace Go.Proofs.Ytdolplcbokioaaa.Pu
set_option linter.unusedVariables false
set_option linter.unusedSimpArgs false
open Go.RowKit Go.Proofs.Ytdolplcbokioaaa.PB Go.Proofs.YtdolplcbokioaaaW.PrintWords

theorem rd_nat (l : List Int) (i : Nat) : rd l (i : Int) = l.getD i 0 := rfl
theorem rdLK_nat (l : List S175) (i : Nat) : rd_T175 l (i : Int) = l.getD i z175 := rfl
theorem rdIK_nat (l : List S133) (i : Nat) : rd_T133 l (i : Int) = l.getD i z133 := rfl

def toK (x : S175) : S133 := ⟨x.f0, x.f1⟩
def toA (l : List S175) : List S133 := l.map toK

theorem toIntS_ev (l : List Int) (h : l.length ≤ 35184372088832) : Ev (fun k => laws_toIntS.f k l) l := by
  have hn : l.length ≤ 9223372036854775807 := by omega
  have h1 := ev_fill_all (E := fun _ i => some (rd l i)) (l := l) (z := 0) (g := fun x => x) (xs := List.replicate l.length 0) (L := fun k xs i => laws_toIntS.l0 k l xs i) hn (fun k xs i => by
    simp only [laws_toIntS.l0, Option.bind_some]) (fun i _ => by rw [rd_nat]; exact Ev.now _) (by simp)
  rw [List.map_id'] at h1
  refine ev_ext (fun k => ?_) h1
  unfold laws_toIntS.f
  rw [if_pos (by omega), if_pos (by simpa using h)]
  simp
theorem toKnot_ev (b : Bool) (l : List Int) (h : l.length ≤ 35184372088832) : Ev (fun k => laws_toKnot.f k b l) (b, l) := by
  unfold laws_toKnot.f
  exact ev_bind (toIntS_ev l h) (Ev.now _)
theorem toKnotS_ev (l : List S175) (h : l.length ≤ 8796093022208) (hk : ∀ x ∈ l, x.f1.length ≤ 35184372088832) : Ev (fun k => laws_toKnotS.f k l) (toA l) := by
  have hn : l.length ≤ 9223372036854775807 := by omega
  have h1 := ev_fill_all (E := fun k i => (laws_toKnot.f k (rd_T175 l i).f0 (rd_T175 l i).f1).bind fun bt => some (⟨bt.1, bt.2⟩ : S133)) (l := l) (z := z175) (g := toK) (xs := List.replicate l.length z133) (L := fun k xs i => laws_toKnotS.l0 k l xs i) hn (fun k xs i => by
    simp only [laws_toKnotS.l0, Option.bind_assoc, Option.bind_some]) (fun i hi => by
      rw [rdLK_nat]
      have hm : l.getD i z175 ∈ l := by rw [List.getD_eq_getElem?_getD, List.getElem?_eq_getElem hi]; exact List.getElem_mem hi
      exact ev_bind (toKnot_ev _ _ (hk _ hm)) (Ev.now _)) (by simp)
  refine ev_ext (fun k => ?_) h1
  unfold laws_toKnotS.f
  rw [if_pos (by omega), if_pos (by simpa using h)]
  simp
theorem toArena_ev (l : List S175) (h : l.length ≤ 8796093022208) (hk : ∀ x ∈ l, x.f1.length ≤ 35184372088832) : Ev (fun k => laws_toArena.f k l) (toA l) := by
  unfold laws_toArena.f
  exact ev_bind (toKnotS_ev l h hk) (Ev.now _)

theorem eqIntS_ev (l : List Int) (hn : l.length ≤ 9223372036854775807) : Ev (fun k => laws_eqIntS.f k l l) true := by
  have h1 := ev_all (n := l.length) (m := l.length) (L := fun k i => laws_eqIntS.l0 k l l i) (E := fun _ _ => some true) hn (Nat.le_refl _) (fun k i => by simp [laws_eqIntS.l0]) (fun i _ => Ev.now _) l.length 0 (by omega)
  refine ev_ext (fun k => ?_) h1
  unfold laws_eqIntS.f
  rw [if_pos rfl]; rfl
theorem eqKnot_ev (b : Bool) (l : List Int) (hn : l.length ≤ 9223372036854775807) : Ev (fun k => laws_eqKnot.f k b l b l) true := by
  unfold laws_eqKnot.f
  simp only [bne_self_eq_false, Bool.false_eq_true, if_false]
  exact ev_bind (eqIntS_ev l hn) (by simp only [if_true]; exact Ev.now _)
theorem eqKnotS_ev (l : List S133) (hn : l.length ≤ 9223372036854775807) (hk : ∀ x ∈ l, x.f1.length ≤ 9223372036854775807) : Ev (fun k => laws_eqKnotS.f k l l) true := by
  have h1 := ev_all (n := l.length) (m := l.length) (L := fun k i => laws_eqKnotS.l0 k l l i) (E := fun k i => laws_eqKnot.f k (rd_T133 l i).f0 (rd_T133 l i).f1 (rd_T133 l i).f0 (rd_T133 l i).f1) hn (Nat.le_refl _) (fun k i => by simp only [laws_eqKnotS.l0]) (fun i hi => by
    rw [rdIK_nat]
    have hm : l.getD i z133 ∈ l := by rw [List.getD_eq_getElem?_getD, List.getElem?_eq_getElem hi]; exact List.getElem_mem hi
    exact eqKnot_ev _ _ (hk _ hm)) l.length 0 (by omega)
  refine ev_ext (fun k => ?_) h1
  unfold laws_eqKnotS.f
  rw [if_pos rfl]; rfl
theorem eqArena_ev (l : List S133) (hn : l.length ≤ 9223372036854775807) (hk : ∀ x ∈ l, x.f1.length ≤ 9223372036854775807) : Ev (fun k => laws_eqArena.f k l l) true := by
  unfold laws_eqArena.f
  exact ev_bind (eqKnotS_ev l hn hk) (by simp only [if_true]; exact Ev.now _)

theorem szIntS_eq (l : List Int) (a : Int) (h0 : 0 ≤ a) (h1 : a ≤ 1048576) (hn : l.length ≤ 9223372036854775807) : ∃ t, laws_szIntS.f l a = some t ∧ t ≤ a ∧ (0 ≤ t → (l.length : Int) ≤ a) := by
  unfold laws_szIntS.f
  rw [w64 (by omega) (by omega)]
  by_cases h : a - (l.length : Int) < 0
  · exact ⟨-1, by rw [if_pos h], by omega, fun h2 => by omega⟩
  · exact ⟨_, by rw [if_neg h], by omega, fun _ => by omega⟩
theorem szKnot_eq (b : Bool) (l : List Int) (a : Int) (h0 : 0 ≤ a) (h1 : a ≤ 1048576) (hn : l.length ≤ 9223372036854775807) : ∃ t, laws_szKnot.f b l a = some t ∧ t ≤ a ∧ (0 ≤ t → (l.length : Int) ≤ a) := by
  obtain ⟨t, ht, hta, hp⟩ := szIntS_eq l a h0 h1 hn
  unfold laws_szKnot.f
  rw [ht]
  simp only [Option.bind_some]
  by_cases h : t < 0
  · exact ⟨-1, by rw [if_pos h], by omega, fun h2 => by omega⟩
  · exact ⟨t, by rw [if_neg h], hta, hp⟩
theorem szKnotS_ev (l : List S175) (a : Int) (h0 : 0 ≤ a) (h1 : a ≤ 1048576) (hn : l.length ≤ 9223372036854775807) (hk : ∀ x ∈ l, x.f1.length ≤ 9223372036854775807) :
    ∃ r, Ev (fun k => laws_szKnotS.f k l a) r ∧ r ≤ a ∧ (0 ≤ r → (l.length : Int) ≤ a ∧ ∀ x ∈ l, (x.f1.length : Int) ≤ 1048576) := by
  by_cases h : a - (l.length : Int) < 0
  · refine ⟨-1, ⟨0, fun k _ => ?_⟩, by omega, fun h2 => by omega⟩
    show laws_szKnotS.f k l a = _
    unfold laws_szKnotS.f
    rw [w64 (by omega) (by omega), if_pos h]
  · obtain ⟨r, hr, hra, hq⟩ := ev_size (n := l.length) (L := fun k a i => laws_szKnotS.l0 k l a i) (E := fun _ i a => laws_szKnot.f (rd_T175 l i).f0 (rd_T175 l i).f1 a) (P := fun i => ((l.getD i z175).f1.length : Int) ≤ 1048576) hn (fun k a i => by simp only [laws_szKnotS.l0])
      (fun i a hi h2 h3 => by
        have hm : l.getD i z175 ∈ l := by rw [List.getD_eq_getElem?_getD, List.getElem?_eq_getElem hi]; exact List.getElem_mem hi
        obtain ⟨t, ht, hta, hp⟩ := szKnot_eq (rd_T175 l i).f0 (rd_T175 l i).f1 a h2 h3 (by rw [rdLK_nat]; exact hk _ hm)
        exact ⟨t, ev_const ht, hta, fun h4 => by have := hp h4; rw [rdLK_nat] at this; omega⟩) l.length 0 (a - (l.length : Int)) (by omega) (by omega) (by omega)
    refine ⟨r, ev_ext (fun k => ?_) hr, by omega, fun h2 => ⟨by omega, fun x hx => ?_⟩⟩
    · unfold laws_szKnotS.f
      rw [w64 (by omega) (by omega), if_neg h]; rfl
    · obtain ⟨i, hi, rfl⟩ := List.getElem_of_mem hx
      have := hq h2 i (by omega) hi
      rwa [List.getD_eq_getElem?_getD, List.getElem?_eq_getElem hi] at this
theorem szArena_ev (l : List S175) (a : Int) (h0 : 0 ≤ a) (h1 : a ≤ 1048576) (hn : l.length ≤ 9223372036854775807) (hk : ∀ x ∈ l, x.f1.length ≤ 9223372036854775807) :
    ∃ r, Ev (fun k => laws_szArena.f k l a) r ∧ r ≤ a ∧ (0 ≤ r → (l.length : Int) ≤ a ∧ ∀ x ∈ l, (x.f1.length : Int) ≤ 1048576) := by
  obtain ⟨r, hr, hra, hq⟩ := szKnotS_ev l a h0 h1 hn hk
  by_cases h : r < 0
  · exact ⟨-1, by unfold laws_szArena.f; exact ev_bind hr (by simp only [if_pos h]; exact Ev.now _), by omega, fun h2 => by omega⟩
  · exact ⟨r, by unfold laws_szArena.f; exact ev_bind hr (by simp only [if_neg h]; exact Ev.now _), hra, hq⟩
end Go.Proofs.Ytdolplcbokioaaa.Pu

/- When an arena is right, as one test; the program's and the reference's ArenaOk answer it. -/
namespace Go.Proofs.Ytdolplcbokioaaa.Pu
set_option linter.unusedVariables false
set_option linter.unusedSimpArgs false
open Go.RowKit Go.Proofs.Ytdolplcbokioaaa.PB Go.Proofs.YtdolplcbokioaaaW.PrintWords

theorem in_eq (a l h : Int) : impl_in.f a l h = some (decide (l ≤ a ∧ a ≤ h)) := by
  unfold impl_in.f
  by_cases h1 : a ≥ l
  · rw [if_pos h1]; congr 1; simp; omega
  · rw [if_neg h1]; congr 1; simp; omega
theorem l01In_eq (a l h : Int) : spec_l01In.f a l h = some (decide (l ≤ a ∧ a ≤ h)) := by
  unfold spec_l01In.f
  by_cases h1 : a ≥ l
  · rw [if_pos h1]; congr 1; simp; omega
  · rw [if_neg h1]; congr 1; simp; omega

/-- A kid of the knot at place i. -/
def kidB (l : List S133) (i : Nat) (leaf : Bool) (n : Int) : Bool :=
  if leaf = true then decide (0 ≤ n) else decide (n = -1) || (decide (0 ≤ n ∧ n ≤ (i : Int) - 1) && (l.getD n.toNat z133).f0)
def knotB (l : List S133) (i : Nat) (x : S133) : Bool := decide (x.f1.length = 4) && x.f1.all (kidB l i x.f0)
def arenaB (l : List S133) : Bool := (List.range' 0 l.length).all fun i => knotB l i (l.getD i z133)

theorem sArena_step (k : Nat) (kids : List Int) (i j : Nat) (a : List S133) (leaf : Bool) (hi : i < a.length) (hn : a.length ≤ 9223372036854775807) (hj : j < 4) (hk : kids.length = 4) :
    spec_ArenaOk.l1 (k + 1) i j a leaf kids = if kidB a i leaf (kids.getD j 0) = true then spec_ArenaOk.l1 k i ((j + 1 : Nat) : Int) a leaf kids else some false := by
  simp only [spec_ArenaOk.l1]
  rw [if_pos (by omega), if_pos (by omega), if_pos (by omega), wsucc (n := 4) hj (by omega), w64 (x := (i : Int) - 1) (by omega) (by omega), rd_nat]
  generalize kids.getD j 0 = n
  unfold kidB
  cases leaf with
  | true => by_cases h : n < 0 <;> simp [h] <;> omega
  | false =>
    simp only [Bool.false_eq_true, if_false, l01In_eq, Option.bind_some, decide_eq_true_eq]
    by_cases h1 : n = -1
    · simp [h1]
    · by_cases h2 : 0 ≤ n ∧ n ≤ (i : Int) - 1
      · rw [if_neg h1, if_pos h2, if_pos h2.1, if_pos (by omega)]
        simp [h1, h2, rd_T133]
      · simp [h1, h2]
theorem iArena_step (k : Nat) (kids : List Int) (i j : Nat) (a : List S133) (leaf : Bool) (hi : i < a.length) (hn : a.length ≤ 9223372036854775807) (hj : j < 4) (hk : kids.length = 4) :
    impl_ArenaOk.l1 (k + 1) i a a.length i kids kids.length j a leaf kids = if kidB a i leaf (kids.getD j 0) = true then impl_ArenaOk.l1 k i a a.length i kids kids.length ((j + 1 : Nat) : Int) a leaf kids else some false := by
  simp only [impl_ArenaOk.l1]
  rw [if_pos (by omega), if_pos (by omega), if_pos (by omega), wsucc (n := 4) hj (by omega), w64 (x := (i : Int) - 1) (by omega) (by omega), rd_nat]
  generalize kids.getD j 0 = n
  unfold kidB
  cases leaf with
  | true => by_cases h : n < 0 <;> simp [h] <;> omega
  | false =>
    simp only [Bool.false_eq_true, if_false, in_eq, Option.bind_some, decide_eq_true_eq]
    by_cases h1 : n = -1
    · simp [h1]
    · by_cases h2 : 0 ≤ n ∧ n ≤ (i : Int) - 1
      · rw [if_neg h1, if_pos h2, if_pos h2.1, if_pos (by omega)]
        simp [h1, h2, rd_T133]
      · simp [h1, h2]
/-- The kids of one knot, tried in order; then what comes. -/
theorem ev_kids {L : Nat → Int → Option Bool} {g : Nat → Option Bool} {kids : List Int} {T : Int → Bool} {r : Bool} (hk : kids.length = 4)
    (hs : ∀ k j, j < 4 → L (k + 1) ((j : Nat) : Int) = if T (kids.getD j 0) = true then L k ((j + 1 : Nat) : Int) else some false) (he : ∀ k, L (k + 1) 4 = g k) (hr : Ev g r) :
    ∀ (d j : Nat), j + d = 4 → Ev (fun k => L k (j : Int)) ((kids.drop j).all T && r) := by
  intro d
  induction d with
  | zero =>
    intro j hj
    obtain rfl : j = 4 := by omega
    refine Ev.step (f := g) (fun k => he k) ?_
    rw [List.drop_eq_nil_of_le (by omega)]
    exact hr
  | succ d ih =>
    intro j hj
    have hjl : j < kids.length := by omega
    rw [List.drop_eq_getElem_cons hjl, List.all_cons]
    have e : kids.getD j 0 = kids[j] := by rw [List.getD_eq_getElem?_getD, List.getElem?_eq_getElem hjl]; rfl
    by_cases h : T kids[j] = true
    · rw [h, Bool.true_and]
      exact Ev.step (f := fun k => L k ((j + 1 : Nat) : Int)) (fun k => by rw [hs k j (by omega), e, if_pos h]) (ih (j + 1) (by omega))
    · rw [Bool.eq_false_iff.mpr h, Bool.false_and, Bool.false_and]
      exact ev_some fun k => by rw [hs k j (by omega), e, if_neg h]
theorem sArena_ev (a : List S133) (hn : a.length ≤ 9223372036854775807) : Ev (fun k => spec_ArenaOk.f k a) (arenaB a) := by
  have main : ∀ (d i : Nat), i + d = a.length → Ev (fun k => spec_ArenaOk.l0 k (i : Int) a) ((List.range' i d).all fun i => knotB a i (a.getD i z133)) := by
    intro d
    induction d with
    | zero => intro i hi; exact ev_some fun k => by simp only [spec_ArenaOk.l0]; rw [if_neg (by omega)]; rfl
    | succ d ih =>
      intro i hi
      rw [List.range'_succ, List.all_cons]
      unfold knotB
      by_cases h4 : (a.getD i z133).f1.length = 4
      · rw [decide_eq_true h4, Bool.true_and]
        have h := ev_kids (L := fun k j => spec_ArenaOk.l1 k i j a (a.getD i z133).f0 (a.getD i z133).f1) (T := kidB a i (a.getD i z133).f0) h4 (fun k j hj => sArena_step k (a.getD i z133).f1 i j a _ (by omega) hn hj h4)
          (g := fun k => spec_ArenaOk.l0 k ((i + 1 : Nat) : Int) a) (fun k => by simp only [spec_ArenaOk.l1]; rw [if_neg (by omega), wsucc (n := a.length) (by omega) hn]) (ih (i + 1) (by omega)) 4 0 rfl
        refine Ev.step (fun k => ?_) h
        simp only [spec_ArenaOk.l0]
        rw [if_pos (by omega), if_pos (by omega), rdIK_nat, if_pos (by omega)]
        rfl
      · rw [decide_eq_false h4, Bool.false_and, Bool.false_and]
        refine ev_some fun k => ?_
        simp only [spec_ArenaOk.l0]
        rw [if_pos (by omega), if_pos (by omega), rdIK_nat, if_neg (by omega)]
  exact main a.length 0 (by omega)
theorem iArena_ev (a : List S133) (hn : a.length ≤ 9223372036854775807) : Ev (fun k => impl_ArenaOk.f k a) (arenaB a) := by
  have main : ∀ (d i : Nat), i + d = a.length → Ev (fun k => impl_ArenaOk.l0 k a a.length (i : Int) a) ((List.range' i d).all fun i => knotB a i (a.getD i z133)) := by
    intro d
    induction d with
    | zero => intro i hi; exact ev_some fun k => by simp only [impl_ArenaOk.l0]; rw [if_neg (by omega)]; rfl
    | succ d ih =>
      intro i hi
      rw [List.range'_succ, List.all_cons]
      unfold knotB
      by_cases h4 : (a.getD i z133).f1.length = 4
      · rw [decide_eq_true h4, Bool.true_and]
        have h := ev_kids (L := fun k j => impl_ArenaOk.l1 k i a a.length i (a.getD i z133).f1 (a.getD i z133).f1.length j a (a.getD i z133).f0 (a.getD i z133).f1) (T := kidB a i (a.getD i z133).f0) h4 (fun k j hj => iArena_step k (a.getD i z133).f1 i j a _ (by omega) hn hj h4)
          (g := fun k => impl_ArenaOk.l0 k a a.length ((i + 1 : Nat) : Int) a) (fun k => by simp only [impl_ArenaOk.l1]; rw [if_neg (by omega), wsucc (n := a.length) (by omega) hn]) (ih (i + 1) (by omega)) 4 0 rfl
        refine Ev.step (fun k => ?_) h
        simp only [impl_ArenaOk.l0]
        rw [if_pos (by omega), if_pos (by omega), if_pos (by omega), rdIK_nat, if_pos (by omega)]
        rfl
      · rw [decide_eq_false h4, Bool.false_and, Bool.false_and]
        refine ev_some fun k => ?_
        simp only [impl_ArenaOk.l0]
        rw [if_pos (by omega), if_pos (by omega), if_pos (by omega), rdIK_nat, if_neg (by omega)]
  exact main a.length 0 (by omega)
end Go.Proofs.Ytdolplcbokioaaa.Pu

namespace Go.Proofs.Ytdolplcbokioaaa.PB
open Go.RowKit Go.Proofs.YtdolplcbokioaaaW.PrintWords Go.Proofs.YtdolplcbokioaaaW.PrintLast Go.Proofs.YtdolplcbokioaaaW.PrintMore
attribute [local go_sem] max2_int min2_int max_two min_two max_three min_three max_four min_four   -- for this text's walks alone
set_option linter.unusedVariables false
set_option linter.unusedSimpArgs false
def impl_numberAt.f (l0_0 : List (S133)) (a1 : Int) (a2 : Int) : Option (Int):=if 0 ≤ a1 then (if a1 < (l0_0.length : Int) then (if 0 ≤ (wrap64 (Int.tdiv a2 4)) then (if (wrap64 (Int.tdiv a2 4)) < (((rd_T133 l0_0 a1).f1).length : Int) then (if (rd ((rd_T133 l0_0 a1).f1) (wrap64 (Int.tdiv a2 4))) < 0 then (some 0) else (if 0 ≤ (rd ((rd_T133 l0_0 a1).f1) (wrap64 (Int.tdiv a2 4))) then (if (rd ((rd_T133 l0_0 a1).f1) (wrap64 (Int.tdiv a2 4))) < (l0_0.length : Int) then (if 0 ≤ (Int.tmod a2 4) then (if (Int.tmod a2 4) < (((rd_T133 l0_0 (rd ((rd_T133 l0_0 a1).f1) (wrap64 (Int.tdiv a2 4)))).f1).length : Int) then (some (rd ((rd_T133 l0_0 (rd ((rd_T133 l0_0 a1).f1) (wrap64 (Int.tdiv a2 4)))).f1) (Int.tmod a2 4))) else (none)) else (none)) else (none)) else (none))) else (none)) else (none)) else (none)) else (none)
set_option maxHeartbeats 8000000 in
set_option maxRecDepth 100000 in
theorem impl_numberAt.calls (A0_0 : Option Addr) (c0_0 : Nat) (l0_0 : List (S133)) (a1 : Int) (a2 : Int) (r : Int) (w : World) (hr0_0 : Kd.C k133 w A0_0 l0_0.length l0_0) (hc0_0 : l0_0.length ≤ c0_0) (h : impl_numberAt.f l0_0 a1 a2 = some r) :
  Calls Try.prog 142 #[.agg #[.slice A0_0 l0_0.length c0_0],.int .i64 a1,.int .i64 a2] w fun e w'=>e = .returned (.int .i64 r) ∧ Below w.heap.size w w':=by
 have hu44:=Try.underlying44;have HR0_0:=Aside0.mk hr0_0;have HC0_0:=Aside0.mk hc0_0;clear hr0_0 hc0_0;have HB:=Aside0.mk (Below.refl w.heap.size w);have H : (if 0 ≤ a1 then (if a1 < (l0_0.length : Int) then (if 0 ≤ (wrap64 (Int.tdiv a2 4)) then (if (wrap64 (Int.tdiv a2 4)) < (((rd_T133 l0_0 a1).f1).length : Int) then (if (rd ((rd_T133 l0_0 a1).f1) (wrap64 (Int.tdiv a2 4))) < 0 then (some 0) else (if 0 ≤ (rd ((rd_T133 l0_0 a1).f1) (wrap64 (Int.tdiv a2 4))) then (if (rd ((rd_T133 l0_0 a1).f1) (wrap64 (Int.tdiv a2 4))) < (l0_0.length : Int) then (if 0 ≤ (Int.tmod a2 4) then (if (Int.tmod a2 4) < (((rd_T133 l0_0 (rd ((rd_T133 l0_0 a1).f1) (wrap64 (Int.tdiv a2 4)))).f1).length : Int) then (some (rd ((rd_T133 l0_0 (rd ((rd_T133 l0_0 a1).f1) (wrap64 (Int.tdiv a2 4)))).f1) (Int.tmod a2 4))) else (none)) else (none)) else (none)) else (none))) else (none)) else (none)) else (none)) else (none)) = some r:=h;clear h
 by_cases c4 : 0 ≤ a1
 ·rw [if_pos c4] at H;have c4b0 : decide (0 ≤ a1) = true:=decide_eq_true c4;clear c4
  by_cases c5 : a1 < (l0_0.length : Int)
  ·rw [if_pos c5] at H;have c5b0 : decide (a1 < (l0_0.length : Int)) = true:=decide_eq_true c5;clear c5;obtain ⟨ji6,hji6⟩ : ∃ j_ : Int,(wrap64 (Int.tdiv a2 4)) = j_:=⟨_,rfl⟩;replace H : (if 0 ≤ (ji6) then (if (ji6) < (((rd_T133 l0_0 a1).f1).length : Int) then (if (rd ((rd_T133 l0_0 a1).f1) (ji6)) < 0 then (some 0) else (if 0 ≤ (rd ((rd_T133 l0_0 a1).f1) (ji6)) then (if (rd ((rd_T133 l0_0 a1).f1) (ji6)) < (l0_0.length : Int) then (if 0 ≤ (Int.tmod a2 4) then (if (Int.tmod a2 4) < (((rd_T133 l0_0 (rd ((rd_T133 l0_0 a1).f1) (ji6))).f1).length : Int) then (some (rd ((rd_T133 l0_0 (rd ((rd_T133 l0_0 a1).f1) (ji6))).f1) (Int.tmod a2 4))) else (none)) else (none)) else (none)) else (none))) else (none)) else (none)) = some r:=by first | (rw [hji6] at H;exact H) | (simp only [hji6] at H ⊢;exact H)
   have hji6w : (IntKind.i64.wrap (Int.tdiv a2 4)) = ji6:=(i64_w _).trans hji6
   by_cases c7 : 0 ≤ (ji6)
   ·rw [if_pos c7] at H;have c7b0 : decide (0 ≤ (ji6)) = true:=decide_eq_true c7;clear c7
    by_cases c8 : (ji6) < (((rd_T133 l0_0 a1).f1).length : Int)
    ·rw [if_pos c8] at H;have c8b0 : decide ((ji6) < (((rd_T133 l0_0 a1).f1).length : Int)) = true:=decide_eq_true c8;clear c8
     by_cases c9 : (rd ((rd_T133 l0_0 a1).f1) (ji6)) < 0
     ·rw [if_pos c9] at H;have c9b0 : decide ((rd ((rd_T133 l0_0 a1).f1) (ji6)) < 0) = true:=decide_eq_true c9;clear c9;obtain rfl:=Option.some.inj H
      go_enter Try.func142,Try.ntmps142
      go_wp2_with (first | ((with_reducible refine gate_dst (N:=3) rfl ?_);refine box_event ?hg (N:=3) ?hd (cs:=#[.slice A0_0 l0_0.length c0_0]) (t:=44) ?hr ?_;(case hd=>rfl);(case hg=>rfl);(case hr=>first | (go_simp;done) | (go_simp;rfl));intro gb684 hg w10 hbox hb;have n0_:=Aside0.mk (below_step (hs HB) hb);have n1_:=Aside0.mk (hbox);have n2_:=Aside0.mk ((by rw [hg];exact (below_size (hs HB)) : w.heap.size ≤ gb684));have n3_:=Aside0.mk ((by rw [hg];exact (below_size (hs HB)) : w.heap.size ≤ gb684));clear HB;have HB:=n0_;have BK684:=n1_;have GW684:=n2_;have GE684:=n3_;clear n0_ n1_ n2_ n3_;clear hb hbox hg;have hcz11_0 : w10.cell? ⟨gb684,0,none⟩ = some (.slice A0_0 l0_0.length c0_0):=(blk_cell BK684.out 0).trans rfl;have hfz11_0:=blk_frozen BK684.out 0;have p685 : 0 ≤ (a1 : Int):=of_decide_eq_true (by first | (with_reducible assumption) | assumption);have q685 : a1 < (l0_0.length : Int):=of_decide_eq_true (by first | (with_reducible assumption) | assumption);obtain ⟨ad685,A685_1,c685_1,e685,hx685_0,hx685_1,hl685_1,hi685_1⟩:=at_T133 HR0_0.out a1 p685 q685;cases e685;replace hx685_0:=(HB.out.cell (World.block_lt_of_cell? w _ hx685_0)).trans hx685_0;replace hx685_1:=(HB.out.cell (World.block_lt_of_cell? w _ hx685_1)).trans hx685_1;have HR685_1:=Aside0.mk hi685_1;have HC685_1:=Aside0.mk hl685_1;clear hi685_1 hl685_1;replace p685:=eq_true p685;replace q685:=eq_true q685;have p686 : 0 ≤ ((ji6) : Int):=of_decide_eq_true (by first | (with_reducible assumption) | assumption);have q686 : (ji6) < (((rd_T133 l0_0 a1).f1).length : Int):=of_decide_eq_true (by first | (with_reducible assumption) | assumption);obtain ⟨ad686,e686,hx686_0⟩:=Kd.at_int HR685_1.out (ji6) p686 q686;cases e686;replace hx686_0:=(HB.out.cell (World.block_lt_of_cell? w _ hx686_0)).trans hx686_0;replace p686:=eq_true p686;replace q686:=eq_true q686))
      go_ret
      exact ⟨by first | rfl | (simp [errW_none,errW_some] <;> rfl) | (simp only [← hji6];first | rfl | (simp [errW_none,errW_some] <;> rfl)) | (simp [*,errW_none,errW_some] <;> rfl),hs1 HB GE684⟩
     rw [if_neg c9] at H;have c9b0 : decide ((rd ((rd_T133 l0_0 a1).f1) (ji6)) < 0) = false:=decide_eq_false c9;clear c9
     by_cases c12 : 0 ≤ (rd ((rd_T133 l0_0 a1).f1) (ji6))
     ·rw [if_pos c12] at H;have c12b0 : decide (0 ≤ (rd ((rd_T133 l0_0 a1).f1) (ji6))) = true:=decide_eq_true c12;clear c12
      by_cases c13 : (rd ((rd_T133 l0_0 a1).f1) (ji6)) < (l0_0.length : Int)
      ·rw [if_pos c13] at H;have c13b0 : decide ((rd ((rd_T133 l0_0 a1).f1) (ji6)) < (l0_0.length : Int)) = true:=decide_eq_true c13;clear c13;obtain ⟨ji14,hji14⟩ : ∃ j_ : Int,(Int.tmod a2 4) = j_:=⟨_,rfl⟩;replace H : (if 0 ≤ (ji14) then (if (ji14) < (((rd_T133 l0_0 (rd ((rd_T133 l0_0 a1).f1) (ji6))).f1).length : Int) then (some (rd ((rd_T133 l0_0 (rd ((rd_T133 l0_0 a1).f1) (ji6))).f1) (ji14))) else (none)) else (none)) = some r:=by first | (rw [hji14] at H;exact H) | (simp only [hji14] at H ⊢;exact H)
       by_cases c15 : 0 ≤ (ji14)
       ·rw [if_pos c15] at H;have c15b0 : decide (0 ≤ (ji14)) = true:=decide_eq_true c15;clear c15
        by_cases c16 : (ji14) < (((rd_T133 l0_0 (rd ((rd_T133 l0_0 a1).f1) (ji6))).f1).length : Int)
        ·rw [if_pos c16] at H;have c16b0 : decide ((ji14) < (((rd_T133 l0_0 (rd ((rd_T133 l0_0 a1).f1) (ji6))).f1).length : Int)) = true:=decide_eq_true c16;clear c16;obtain rfl:=Option.some.inj H
         go_enter Try.func142,Try.ntmps142
         go_wp2_with (first | ((with_reducible refine gate_dst (N:=3) rfl ?_);refine box_event ?hg (N:=3) ?hd (cs:=#[.slice A0_0 l0_0.length c0_0]) (t:=44) ?hr ?_;(case hd=>rfl);(case hg=>rfl);(case hr=>first | (go_simp;done) | (go_simp;rfl));intro gb684 hg w17 hbox hb;have n0_:=Aside0.mk (below_step (hs HB) hb);have n1_:=Aside0.mk (hbox);have n2_:=Aside0.mk ((by rw [hg];exact (below_size (hs HB)) : w.heap.size ≤ gb684));have n3_:=Aside0.mk ((by rw [hg];exact (below_size (hs HB)) : w.heap.size ≤ gb684));clear HB;have HB:=n0_;have BK684:=n1_;have GW684:=n2_;have GE684:=n3_;clear n0_ n1_ n2_ n3_;clear hb hbox hg;have hcz18_0 : w17.cell? ⟨gb684,0,none⟩ = some (.slice A0_0 l0_0.length c0_0):=(blk_cell BK684.out 0).trans rfl;have hfz18_0:=blk_frozen BK684.out 0;have p685 : 0 ≤ (a1 : Int):=of_decide_eq_true (by first | (with_reducible assumption) | assumption);have q685 : a1 < (l0_0.length : Int):=of_decide_eq_true (by first | (with_reducible assumption) | assumption);obtain ⟨ad685,A685_1,c685_1,e685,hx685_0,hx685_1,hl685_1,hi685_1⟩:=at_T133 HR0_0.out a1 p685 q685;cases e685;replace hx685_0:=(HB.out.cell (World.block_lt_of_cell? w _ hx685_0)).trans hx685_0;replace hx685_1:=(HB.out.cell (World.block_lt_of_cell? w _ hx685_1)).trans hx685_1;have HR685_1:=Aside0.mk hi685_1;have HC685_1:=Aside0.mk hl685_1;clear hi685_1 hl685_1;replace p685:=eq_true p685;replace q685:=eq_true q685;have p686 : 0 ≤ ((ji6) : Int):=of_decide_eq_true (by first | (with_reducible assumption) | assumption);have q686 : (ji6) < (((rd_T133 l0_0 a1).f1).length : Int):=of_decide_eq_true (by first | (with_reducible assumption) | assumption);obtain ⟨ad686,e686,hx686_0⟩:=Kd.at_int HR685_1.out (ji6) p686 q686;cases e686;replace hx686_0:=(HB.out.cell (World.block_lt_of_cell? w _ hx686_0)).trans hx686_0;replace p686:=eq_true p686;replace q686:=eq_true q686;have p687 : 0 ≤ ((rd ((rd_T133 l0_0 a1).f1) (ji6)) : Int):=of_decide_eq_true (by first | (with_reducible assumption) | assumption);have q687 : (rd ((rd_T133 l0_0 a1).f1) (ji6)) < (l0_0.length : Int):=of_decide_eq_true (by first | (with_reducible assumption) | assumption);obtain ⟨ad687,A687_1,c687_1,e687,hx687_0,hx687_1,hl687_1,hi687_1⟩:=at_T133 HR0_0.out (rd ((rd_T133 l0_0 a1).f1) (ji6)) p687 q687;obtain rfl : ad685 = ad687:=(by injection e687);replace hx687_0:=(HB.out.cell (World.block_lt_of_cell? w _ hx687_0)).trans hx687_0;replace hx687_1:=(HB.out.cell (World.block_lt_of_cell? w _ hx687_1)).trans hx687_1;have HR687_1:=Aside0.mk hi687_1;have HC687_1:=Aside0.mk hl687_1;clear hi687_1 hl687_1;replace p687:=eq_true p687;replace q687:=eq_true q687;have p688 : 0 ≤ ((ji14) : Int):=of_decide_eq_true (by first | (with_reducible assumption) | assumption);have q688 : (ji14) < (((rd_T133 l0_0 (rd ((rd_T133 l0_0 a1).f1) (ji6))).f1).length : Int):=of_decide_eq_true (by first | (with_reducible assumption) | assumption);obtain ⟨ad688,e688,hx688_0⟩:=Kd.at_int HR687_1.out (ji14) p688 q688;cases e688;replace hx688_0:=(HB.out.cell (World.block_lt_of_cell? w _ hx688_0)).trans hx688_0;replace p688:=eq_true p688;replace q688:=eq_true q688))
         go_ret
         exact ⟨by first | rfl | (simp [errW_none,errW_some] <;> rfl) | (simp only [← hji6,← hji14];first | rfl | (simp [errW_none,errW_some] <;> rfl)) | (simp [*,errW_none,errW_some] <;> rfl),hs1 HB GE684⟩
        rw [if_neg c16] at H;exact absurd H (by simp)
       rw [if_neg c15] at H;exact absurd H (by simp)
      rw [if_neg c13] at H;exact absurd H (by simp)
     rw [if_neg c12] at H;exact absurd H (by simp)
    rw [if_neg c8] at H;exact absurd H (by simp)
   rw [if_neg c7] at H;exact absurd H (by simp)
  rw [if_neg c5] at H;exact absurd H (by simp)
 rw [if_neg c4] at H;exact absurd H (by simp)
end Go.Proofs.Ytdolplcbokioaaa.PB

namespace Go.Proofs.Ytdolplcbokioaaa.PB
open Go.RowKit Go.Proofs.YtdolplcbokioaaaW.PrintWords Go.Proofs.YtdolplcbokioaaaW.PrintLast Go.Proofs.YtdolplcbokioaaaW.PrintMore
attribute [local go_sem] max2_int min2_int max_two min_two max_three min_three max_four min_four   -- for this text's walks alone
set_option linter.unusedVariables false
set_option linter.unusedSimpArgs false
def impl_GetAt.f (k : Nat) (l0_0 : List (S133)) (a1 : Int) (a2 : Int) : Option (Int):=(impl_in.f a2 0 15).bind fun t690=>(if t690 = true then ((impl_isRoot.f l0_0 a1).bind fun t691=>(if t691 = true then ((impl_ArenaOk.f k l0_0).bind fun t692=>(if t692 = true then ((impl_numberAt.f l0_0 a1 a2).bind fun t693=>(some t693)) else (some 0))) else (some 0))) else (some 0))
theorem impl_GetAt.mono : ∀ a0 a1 a2 k,LeO (impl_GetAt.f k a0 a1 a2) (impl_GetAt.f (k + 1) a0 a1 a2):=by
 intro a0 a1 a2 k;unfold impl_GetAt.f
 repeat' first
   | (with_reducible exact impl_ArenaOk.mono _ _)
   | (with_reducible exact LeO.refl _)
   | (with_reducible exact LeO.none _)
   | (with_reducible refine LeO.ite ?_ ?_)
   | (with_reducible refine LeO.bind ?_ (fun _=>?_))
   | exact impl_ArenaOk.mono _ _
   | exact LeO.none _
   | refine LeO.ite ?_ ?_
   | refine LeO.bind ?_ (fun _=>?_)
set_option maxHeartbeats 8000000 in
set_option maxRecDepth 100000 in
theorem impl_GetAt.calls (k : Nat) (A0_0 : Option Addr) (c0_0 : Nat) (l0_0 : List (S133)) (a1 : Int) (a2 : Int) (r : Int) (w : World) (hr0_0 : Kd.C k133 w A0_0 l0_0.length l0_0) (hc0_0 : l0_0.length ≤ c0_0) (h : impl_GetAt.f k l0_0 a1 a2 = some r) :
  Calls Try.prog 95 #[.agg #[.slice A0_0 l0_0.length c0_0],.int .i64 a1,.int .i64 a2] w fun e w'=>e = .returned (.int .i64 r) ∧ Below w.heap.size w w':=by
 have hu44:=Try.underlying44;have HR0_0:=Aside0.mk hr0_0;have HC0_0:=Aside0.mk hc0_0;clear hr0_0 hc0_0;have HB:=Aside0.mk (Below.refl w.heap.size w);have H : ((impl_in.f a2 0 15).bind fun t690=>(if t690 = true then ((impl_isRoot.f l0_0 a1).bind fun t691=>(if t691 = true then ((impl_ArenaOk.f k l0_0).bind fun t692=>(if t692 = true then ((impl_numberAt.f l0_0 a1 a2).bind fun t693=>(some t693)) else (some 0))) else (some 0))) else (some 0))) = some r:=h;clear h;replace H:=Option.bind_eq_some_iff.mp H;obtain ⟨t690,A40,H⟩:=H;replace H : (if t690 = true then ((impl_isRoot.f l0_0 a1).bind fun t691=>(if t691 = true then ((impl_ArenaOk.f k l0_0).bind fun t692=>(if t692 = true then ((impl_numberAt.f l0_0 a1 a2).bind fun t693=>(some t693)) else (some 0))) else (some 0))) else (some 0)) = some r:=H;have A4:=Aside0.mk A40;clear A40
 by_cases c5 : t690 = true
 ·subst c5;have H1 : ((impl_isRoot.f l0_0 a1).bind fun t691=>(if t691 = true then ((impl_ArenaOk.f k l0_0).bind fun t692=>(if t692 = true then ((impl_numberAt.f l0_0 a1 a2).bind fun t693=>(some t693)) else (some 0))) else (some 0))) = some r:=by rw [if_pos rfl] at H;exact H
  clear H;have H:=H1;clear H1;replace H:=Option.bind_eq_some_iff.mp H;obtain ⟨t691,A60,H⟩:=H;replace H : (if t691 = true then ((impl_ArenaOk.f k l0_0).bind fun t692=>(if t692 = true then ((impl_numberAt.f l0_0 a1 a2).bind fun t693=>(some t693)) else (some 0))) else (some 0)) = some r:=H;have A6:=Aside0.mk A60;clear A60
  by_cases c7 : t691 = true
  ·subst c7;have H1 : ((impl_ArenaOk.f k l0_0).bind fun t692=>(if t692 = true then ((impl_numberAt.f l0_0 a1 a2).bind fun t693=>(some t693)) else (some 0))) = some r:=by rw [if_pos rfl] at H;exact H
   clear H;have H:=H1;clear H1;replace H:=Option.bind_eq_some_iff.mp H;obtain ⟨t692,A80,H⟩:=H;replace H : (if t692 = true then ((impl_numberAt.f l0_0 a1 a2).bind fun t693=>(some t693)) else (some 0)) = some r:=H;have A8:=Aside0.mk A80;clear A80
   by_cases c9 : t692 = true
   ·subst c9;have H1 : ((impl_numberAt.f l0_0 a1 a2).bind fun t693=>(some t693)) = some r:=by rw [if_pos rfl] at H;exact H
    clear H;have H:=H1;clear H1;replace H:=Option.bind_eq_some_iff.mp H;obtain ⟨t693,A100,H⟩:=H;replace H : (some t693) = some r:=H;have A10:=Aside0.mk A100;clear A100;obtain rfl:=Option.some.inj H
    go_enter Try.func95,Try.ntmps95
    go_wp2_with (first | ((with_reducible refine gate_dst (N:=3) rfl ?_);refine box_event ?hg (N:=3) ?hd (cs:=#[.slice A0_0 l0_0.length c0_0]) (t:=44) ?hr ?_;(case hd=>rfl);(case hg=>rfl);(case hr=>first | (go_simp;done) | (go_simp;rfl));intro gb689 hg w11 hbox hb;have n0_:=Aside0.mk (below_step (hs HB) hb);have n1_:=Aside0.mk (hbox);have n2_:=Aside0.mk ((by rw [hg];exact (below_size (hs HB)) : w.heap.size ≤ gb689));have n3_:=Aside0.mk ((by rw [hg];exact (below_size (hs HB)) : w.heap.size ≤ gb689));clear HB;have HB:=n0_;have BK689:=n1_;have GW689:=n2_;have GE689:=n3_;clear n0_ n1_ n2_ n3_;clear hb hbox hg) | ((with_reducible refine gate_callee (f:=84) rfl ?_);refine goesL_ (some 8) rfl rfl Try.func84 (by kernel_rfl) rfl #[.int .i64 a2,.int .i64 0,.int .i64 15] rfl (by (try simp only [List.map_toArray,List.map_cons,List.map_nil]);first | done | rfl | (simp only [List.length_drop,List.length_take];rfl)) ?_;(with_reducible refine (impl_in.calls a2 0 15 true _ A4.out).mono ?_);rintro e w' ⟨rfl,⟨nd,rfl⟩⟩;refine ⟨_,rfl,?_⟩;have hcz12_0 : w11.cell? ⟨gb689,0,none⟩ = some (.slice A0_0 l0_0.length c0_0):=(blk_cell BK689.out 0).trans rfl;have hfz12_0:=blk_frozen BK689.out 0) | (go_at_call 92;(with_reducible refine (impl_isRoot.calls _ _ l0_0 a1 true _ ?side1 ?side2 A6.out).mono ?_);(case side1=>repeat (first | exact (Kd.C_below HR0_0.out (hs1 HB GE689)) | (with_reducible refine Kd.C_alloc ?_ _) | (with_reducible refine Kd.C_drewN ?_ _) | (with_reducible refine Kd.C_drew ?_)));(case side2=>exact HC0_0.out);rintro e w13 ⟨rfl,hb⟩;have n0_:=Aside0.mk (blk_below (g:=gb689) (o:=.cells #[.slice A0_0 l0_0.length c0_0] 44 (0,0)) (bs BK689) hb);have n1_:=Aside0.mk (below_step (hs1 HB GE689) hb);clear BK689;clear HB;have BK689:=n0_;have HB:=n1_;clear n0_ n1_;(try clear hb);(try clear hb2);(try clear hk);(try clear hi);have hcz14_0 : w13.cell? ⟨gb689,0,none⟩ = some (.slice A0_0 l0_0.length c0_0):=(blk_cell BK689.out 0).trans rfl;have hfz14_0:=blk_frozen BK689.out 0) | (go_at_call 25;(with_reducible refine (impl_ArenaOk.calls k _ _ l0_0 true _ ?side1 ?side2 A8.out).mono ?_);(case side1=>repeat (first | exact (Kd.C_below HR0_0.out HB.out) | (with_reducible refine Kd.C_alloc ?_ _) | (with_reducible refine Kd.C_drewN ?_ _) | (with_reducible refine Kd.C_drew ?_)));(case side2=>exact HC0_0.out);rintro e w15 ⟨rfl,hb⟩;have n0_:=Aside0.mk (blk_below (g:=gb689) (o:=.cells #[.slice A0_0 l0_0.length c0_0] 44 (0,0)) (bs BK689) hb);have n1_:=Aside0.mk (below_step (hs1 HB GE689) hb);clear BK689;clear HB;have BK689:=n0_;have HB:=n1_;clear n0_ n1_;(try clear hb);(try clear hb2);(try clear hk);(try clear hi);have hcz16_0 : w15.cell? ⟨gb689,0,none⟩ = some (.slice A0_0 l0_0.length c0_0):=(blk_cell BK689.out 0).trans rfl;have hfz16_0:=blk_frozen BK689.out 0) | ((with_reducible refine gate_callee (f:=142) rfl ?_);refine goesL_ (some 24) rfl rfl Try.func142 (by kernel_rfl) rfl #[.agg #[.slice A0_0 l0_0.length c0_0],.int .i64 a1,.int .i64 a2] rfl (by (try simp only [List.map_toArray,List.map_cons,List.map_nil]);first | done | rfl | (simp only [List.length_drop,List.length_take];rfl)) ?_;(with_reducible refine (impl_numberAt.calls _ _ l0_0 a1 a2 t693 _ ?side1 ?side2 A10.out).mono ?_);(case side1=>repeat (first | exact (Kd.C_below HR0_0.out HB.out) | (with_reducible refine Kd.C_alloc ?_ _) | (with_reducible refine Kd.C_drewN ?_ _) | (with_reducible refine Kd.C_drew ?_)));(case side2=>exact HC0_0.out);rintro e w17 ⟨rfl,hb⟩;refine ⟨_,rfl,?_⟩;have n0_:=Aside0.mk (blk_below (g:=gb689) (o:=.cells #[.slice A0_0 l0_0.length c0_0] 44 (0,0)) (bs BK689) hb);have n1_:=Aside0.mk (below_step (hs1 HB GE689) hb);clear BK689;clear HB;have BK689:=n0_;have HB:=n1_;clear n0_ n1_;(try clear hb);(try clear hb2);(try clear hk);(try clear hi)))
    go_ret
    exact ⟨by first | rfl | (simp [errW_none,errW_some] <;> rfl) | (simp [*,errW_none,errW_some] <;> rfl),hs1 HB GE689⟩
   replace c9:=Bool.eq_false_iff.mpr c9;subst c9;have H1 : (some 0) = some r:=by rw [if_neg (show ¬ (false = true) by decide)] at H;exact H
   clear H;have H:=H1;clear H1;obtain rfl:=Option.some.inj H
   go_enter Try.func95,Try.ntmps95
   go_wp2_with (first | ((with_reducible refine gate_dst (N:=3) rfl ?_);refine box_event ?hg (N:=3) ?hd (cs:=#[.slice A0_0 l0_0.length c0_0]) (t:=44) ?hr ?_;(case hd=>rfl);(case hg=>rfl);(case hr=>first | (go_simp;done) | (go_simp;rfl));intro gb689 hg w18 hbox hb;have n0_:=Aside0.mk (below_step (hs HB) hb);have n1_:=Aside0.mk (hbox);have n2_:=Aside0.mk ((by rw [hg];exact (below_size (hs HB)) : w.heap.size ≤ gb689));have n3_:=Aside0.mk ((by rw [hg];exact (below_size (hs HB)) : w.heap.size ≤ gb689));clear HB;have HB:=n0_;have BK689:=n1_;have GW689:=n2_;have GE689:=n3_;clear n0_ n1_ n2_ n3_;clear hb hbox hg) | ((with_reducible refine gate_callee (f:=84) rfl ?_);refine goesL_ (some 8) rfl rfl Try.func84 (by kernel_rfl) rfl #[.int .i64 a2,.int .i64 0,.int .i64 15] rfl (by (try simp only [List.map_toArray,List.map_cons,List.map_nil]);first | done | rfl | (simp only [List.length_drop,List.length_take];rfl)) ?_;(with_reducible refine (impl_in.calls a2 0 15 true _ A4.out).mono ?_);rintro e w' ⟨rfl,⟨nd,rfl⟩⟩;refine ⟨_,rfl,?_⟩;have hcz19_0 : w18.cell? ⟨gb689,0,none⟩ = some (.slice A0_0 l0_0.length c0_0):=(blk_cell BK689.out 0).trans rfl;have hfz19_0:=blk_frozen BK689.out 0) | (go_at_call 92;(with_reducible refine (impl_isRoot.calls _ _ l0_0 a1 true _ ?side1 ?side2 A6.out).mono ?_);(case side1=>repeat (first | exact (Kd.C_below HR0_0.out (hs1 HB GE689)) | (with_reducible refine Kd.C_alloc ?_ _) | (with_reducible refine Kd.C_drewN ?_ _) | (with_reducible refine Kd.C_drew ?_)));(case side2=>exact HC0_0.out);rintro e w20 ⟨rfl,hb⟩;have n0_:=Aside0.mk (blk_below (g:=gb689) (o:=.cells #[.slice A0_0 l0_0.length c0_0] 44 (0,0)) (bs BK689) hb);have n1_:=Aside0.mk (below_step (hs1 HB GE689) hb);clear BK689;clear HB;have BK689:=n0_;have HB:=n1_;clear n0_ n1_;(try clear hb);(try clear hb2);(try clear hk);(try clear hi);have hcz21_0 : w20.cell? ⟨gb689,0,none⟩ = some (.slice A0_0 l0_0.length c0_0):=(blk_cell BK689.out 0).trans rfl;have hfz21_0:=blk_frozen BK689.out 0) | (go_at_call 25;(with_reducible refine (impl_ArenaOk.calls k _ _ l0_0 false _ ?side1 ?side2 A8.out).mono ?_);(case side1=>repeat (first | exact (Kd.C_below HR0_0.out HB.out) | (with_reducible refine Kd.C_alloc ?_ _) | (with_reducible refine Kd.C_drewN ?_ _) | (with_reducible refine Kd.C_drew ?_)));(case side2=>exact HC0_0.out);rintro e w22 ⟨rfl,hb⟩;have n0_:=Aside0.mk (blk_below (g:=gb689) (o:=.cells #[.slice A0_0 l0_0.length c0_0] 44 (0,0)) (bs BK689) hb);have n1_:=Aside0.mk (below_step (hs1 HB GE689) hb);clear BK689;clear HB;have BK689:=n0_;have HB:=n1_;clear n0_ n1_;(try clear hb);(try clear hb2);(try clear hk);(try clear hi)))
   go_ret
   exact ⟨by first | rfl | (simp [errW_none,errW_some] <;> rfl) | (simp [*,errW_none,errW_some] <;> rfl),hs1 HB GE689⟩
  replace c7:=Bool.eq_false_iff.mpr c7;subst c7;have H1 : (some 0) = some r:=by rw [if_neg (show ¬ (false = true) by decide)] at H;exact H
  clear H;have H:=H1;clear H1;obtain rfl:=Option.some.inj H
  go_enter Try.func95,Try.ntmps95
  go_wp2_with (first | ((with_reducible refine gate_dst (N:=3) rfl ?_);refine box_event ?hg (N:=3) ?hd (cs:=#[.slice A0_0 l0_0.length c0_0]) (t:=44) ?hr ?_;(case hd=>rfl);(case hg=>rfl);(case hr=>first | (go_simp;done) | (go_simp;rfl));intro gb689 hg w23 hbox hb;have n0_:=Aside0.mk (below_step (hs HB) hb);have n1_:=Aside0.mk (hbox);have n2_:=Aside0.mk ((by rw [hg];exact (below_size (hs HB)) : w.heap.size ≤ gb689));have n3_:=Aside0.mk ((by rw [hg];exact (below_size (hs HB)) : w.heap.size ≤ gb689));clear HB;have HB:=n0_;have BK689:=n1_;have GW689:=n2_;have GE689:=n3_;clear n0_ n1_ n2_ n3_;clear hb hbox hg) | ((with_reducible refine gate_callee (f:=84) rfl ?_);refine goesL_ (some 8) rfl rfl Try.func84 (by kernel_rfl) rfl #[.int .i64 a2,.int .i64 0,.int .i64 15] rfl (by (try simp only [List.map_toArray,List.map_cons,List.map_nil]);first | done | rfl | (simp only [List.length_drop,List.length_take];rfl)) ?_;(with_reducible refine (impl_in.calls a2 0 15 true _ A4.out).mono ?_);rintro e w' ⟨rfl,⟨nd,rfl⟩⟩;refine ⟨_,rfl,?_⟩;have hcz24_0 : w23.cell? ⟨gb689,0,none⟩ = some (.slice A0_0 l0_0.length c0_0):=(blk_cell BK689.out 0).trans rfl;have hfz24_0:=blk_frozen BK689.out 0) | (go_at_call 92;(with_reducible refine (impl_isRoot.calls _ _ l0_0 a1 false _ ?side1 ?side2 A6.out).mono ?_);(case side1=>repeat (first | exact (Kd.C_below HR0_0.out (hs1 HB GE689)) | (with_reducible refine Kd.C_alloc ?_ _) | (with_reducible refine Kd.C_drewN ?_ _) | (with_reducible refine Kd.C_drew ?_)));(case side2=>exact HC0_0.out);rintro e w25 ⟨rfl,hb⟩;have n0_:=Aside0.mk (blk_below (g:=gb689) (o:=.cells #[.slice A0_0 l0_0.length c0_0] 44 (0,0)) (bs BK689) hb);have n1_:=Aside0.mk (below_step (hs1 HB GE689) hb);clear BK689;clear HB;have BK689:=n0_;have HB:=n1_;clear n0_ n1_;(try clear hb);(try clear hb2);(try clear hk);(try clear hi)))
  go_ret
  exact ⟨by first | rfl | (simp [errW_none,errW_some] <;> rfl) | (simp [*,errW_none,errW_some] <;> rfl),hs1 HB GE689⟩
 replace c5:=Bool.eq_false_iff.mpr c5;subst c5;have H1 : (some 0) = some r:=by rw [if_neg (show ¬ (false = true) by decide)] at H;exact H
 clear H;have H:=H1;clear H1;obtain rfl:=Option.some.inj H
 go_enter Try.func95,Try.ntmps95
 go_wp2_with (first | ((with_reducible refine gate_dst (N:=3) rfl ?_);refine box_event ?hg (N:=3) ?hd (cs:=#[.slice A0_0 l0_0.length c0_0]) (t:=44) ?hr ?_;(case hd=>rfl);(case hg=>rfl);(case hr=>first | (go_simp;done) | (go_simp;rfl));intro gb689 hg w26 hbox hb;have n0_:=Aside0.mk (below_step (hs HB) hb);have n1_:=Aside0.mk (hbox);have n2_:=Aside0.mk ((by rw [hg];exact (below_size (hs HB)) : w.heap.size ≤ gb689));have n3_:=Aside0.mk ((by rw [hg];exact (below_size (hs HB)) : w.heap.size ≤ gb689));clear HB;have HB:=n0_;have BK689:=n1_;have GW689:=n2_;have GE689:=n3_;clear n0_ n1_ n2_ n3_;clear hb hbox hg) | ((with_reducible refine gate_callee (f:=84) rfl ?_);refine goesL_ (some 8) rfl rfl Try.func84 (by kernel_rfl) rfl #[.int .i64 a2,.int .i64 0,.int .i64 15] rfl (by (try simp only [List.map_toArray,List.map_cons,List.map_nil]);first | done | rfl | (simp only [List.length_drop,List.length_take];rfl)) ?_;(with_reducible refine (impl_in.calls a2 0 15 false _ A4.out).mono ?_);rintro e w' ⟨rfl,⟨nd,rfl⟩⟩;refine ⟨_,rfl,?_⟩))
 go_ret
 exact ⟨by first | rfl | (simp [errW_none,errW_some] <;> rfl) | (simp [*,errW_none,errW_some] <;> rfl),hs1 HB GE689⟩
end Go.Proofs.Ytdolplcbokioaaa.PB

namespace Go.Proofs.Ytdolplcbokioaaa.PB
open Go.RowKit Go.Proofs.YtdolplcbokioaaaW.PrintWords Go.Proofs.YtdolplcbokioaaaW.PrintLast Go.Proofs.YtdolplcbokioaaaW.PrintMore
attribute [local go_sem] max2_int min2_int max_two min_two max_three min_three max_four min_four   -- for this text's walks alone
set_option linter.unusedVariables false
set_option linter.unusedSimpArgs false
def spec_l11Get.f (l0_0 : List (S133)) (a1 : Int) (a2 : Int) : Option (Int):=if a1 < 0 then (some 0) else (if 0 ≤ a1 then (if a1 < (l0_0.length : Int) then (if 0 ≤ (wrap64 (Int.tdiv a2 4)) then (if (wrap64 (Int.tdiv a2 4)) < (((rd_T133 l0_0 a1).f1).length : Int) then (if (rd ((rd_T133 l0_0 a1).f1) (wrap64 (Int.tdiv a2 4))) < 0 then (some 0) else (if 0 ≤ (rd ((rd_T133 l0_0 a1).f1) (wrap64 (Int.tdiv a2 4))) then (if (rd ((rd_T133 l0_0 a1).f1) (wrap64 (Int.tdiv a2 4))) < (l0_0.length : Int) then (if 0 ≤ (Int.tmod a2 4) then (if (Int.tmod a2 4) < (((rd_T133 l0_0 (rd ((rd_T133 l0_0 a1).f1) (wrap64 (Int.tdiv a2 4)))).f1).length : Int) then (some (rd ((rd_T133 l0_0 (rd ((rd_T133 l0_0 a1).f1) (wrap64 (Int.tdiv a2 4)))).f1) (Int.tmod a2 4))) else (none)) else (none)) else (none)) else (none))) else (none)) else (none)) else (none)) else (none))
set_option maxHeartbeats 8000000 in
set_option maxRecDepth 100000 in
theorem spec_l11Get.calls (A0_0 : Option Addr) (c0_0 : Nat) (l0_0 : List (S133)) (a1 : Int) (a2 : Int) (r : Int) (w : World) (hr0_0 : Kd.C k133 w A0_0 l0_0.length l0_0) (hc0_0 : l0_0.length ≤ c0_0) (h : spec_l11Get.f l0_0 a1 a2 = some r) :
  Calls Try.prog 135 #[.agg #[.slice A0_0 l0_0.length c0_0],.int .i64 a1,.int .i64 a2] w fun e w'=>e = .returned (.int .i64 r) ∧ Below w.heap.size w w':=by
 have hu44:=Try.underlying44;have HR0_0:=Aside0.mk hr0_0;have HC0_0:=Aside0.mk hc0_0;clear hr0_0 hc0_0;have HB:=Aside0.mk (Below.refl w.heap.size w);have H : (if a1 < 0 then (some 0) else (if 0 ≤ a1 then (if a1 < (l0_0.length : Int) then (if 0 ≤ (wrap64 (Int.tdiv a2 4)) then (if (wrap64 (Int.tdiv a2 4)) < (((rd_T133 l0_0 a1).f1).length : Int) then (if (rd ((rd_T133 l0_0 a1).f1) (wrap64 (Int.tdiv a2 4))) < 0 then (some 0) else (if 0 ≤ (rd ((rd_T133 l0_0 a1).f1) (wrap64 (Int.tdiv a2 4))) then (if (rd ((rd_T133 l0_0 a1).f1) (wrap64 (Int.tdiv a2 4))) < (l0_0.length : Int) then (if 0 ≤ (Int.tmod a2 4) then (if (Int.tmod a2 4) < (((rd_T133 l0_0 (rd ((rd_T133 l0_0 a1).f1) (wrap64 (Int.tdiv a2 4)))).f1).length : Int) then (some (rd ((rd_T133 l0_0 (rd ((rd_T133 l0_0 a1).f1) (wrap64 (Int.tdiv a2 4)))).f1) (Int.tmod a2 4))) else (none)) else (none)) else (none)) else (none))) else (none)) else (none)) else (none)) else (none))) = some r:=h;clear h
 by_cases c4 : a1 < 0
 ·rw [if_pos c4] at H;have c4b0 : decide (a1 < 0) = true:=decide_eq_true c4;clear c4;obtain rfl:=Option.some.inj H
  go_enter Try.func135,Try.ntmps135
  go_wp2_with (first | ((with_reducible refine gate_dst (N:=3) rfl ?_);refine box_event ?hg (N:=3) ?hd (cs:=#[.slice A0_0 l0_0.length c0_0]) (t:=44) ?hr ?_;(case hd=>rfl);(case hg=>rfl);(case hr=>first | (go_simp;done) | (go_simp;rfl));intro gb699 hg w5 hbox hb;have n0_:=Aside0.mk (below_step (hs HB) hb);have n1_:=Aside0.mk (hbox);have n2_:=Aside0.mk ((by rw [hg];exact (below_size (hs HB)) : w.heap.size ≤ gb699));have n3_:=Aside0.mk ((by rw [hg];exact (below_size (hs HB)) : w.heap.size ≤ gb699));clear HB;have HB:=n0_;have BK699:=n1_;have GW699:=n2_;have GE699:=n3_;clear n0_ n1_ n2_ n3_;clear hb hbox hg))
  go_ret
  exact ⟨by first | rfl | (simp [errW_none,errW_some] <;> rfl) | (simp [*,errW_none,errW_some] <;> rfl),hs1 HB GE699⟩
 rw [if_neg c4] at H;have c4b0 : decide (a1 < 0) = false:=decide_eq_false c4;clear c4
 by_cases c6 : 0 ≤ a1
 ·rw [if_pos c6] at H;have c6b0 : decide (0 ≤ a1) = true:=decide_eq_true c6;clear c6
  by_cases c7 : a1 < (l0_0.length : Int)
  ·rw [if_pos c7] at H;have c7b0 : decide (a1 < (l0_0.length : Int)) = true:=decide_eq_true c7;clear c7;obtain ⟨ji8,hji8⟩ : ∃ j_ : Int,(wrap64 (Int.tdiv a2 4)) = j_:=⟨_,rfl⟩;replace H : (if 0 ≤ (ji8) then (if (ji8) < (((rd_T133 l0_0 a1).f1).length : Int) then (if (rd ((rd_T133 l0_0 a1).f1) (ji8)) < 0 then (some 0) else (if 0 ≤ (rd ((rd_T133 l0_0 a1).f1) (ji8)) then (if (rd ((rd_T133 l0_0 a1).f1) (ji8)) < (l0_0.length : Int) then (if 0 ≤ (Int.tmod a2 4) then (if (Int.tmod a2 4) < (((rd_T133 l0_0 (rd ((rd_T133 l0_0 a1).f1) (ji8))).f1).length : Int) then (some (rd ((rd_T133 l0_0 (rd ((rd_T133 l0_0 a1).f1) (ji8))).f1) (Int.tmod a2 4))) else (none)) else (none)) else (none)) else (none))) else (none)) else (none)) = some r:=by first | (rw [hji8] at H;exact H) | (simp only [hji8] at H ⊢;exact H)
   have hji8w : (IntKind.i64.wrap (Int.tdiv a2 4)) = ji8:=(i64_w _).trans hji8
   by_cases c9 : 0 ≤ (ji8)
   ·rw [if_pos c9] at H;have c9b0 : decide (0 ≤ (ji8)) = true:=decide_eq_true c9;clear c9
    by_cases c10 : (ji8) < (((rd_T133 l0_0 a1).f1).length : Int)
    ·rw [if_pos c10] at H;have c10b0 : decide ((ji8) < (((rd_T133 l0_0 a1).f1).length : Int)) = true:=decide_eq_true c10;clear c10
     by_cases c11 : (rd ((rd_T133 l0_0 a1).f1) (ji8)) < 0
     ·rw [if_pos c11] at H;have c11b0 : decide ((rd ((rd_T133 l0_0 a1).f1) (ji8)) < 0) = true:=decide_eq_true c11;clear c11;obtain rfl:=Option.some.inj H
      go_enter Try.func135,Try.ntmps135
      go_wp2_with (first | ((with_reducible refine gate_dst (N:=3) rfl ?_);refine box_event ?hg (N:=3) ?hd (cs:=#[.slice A0_0 l0_0.length c0_0]) (t:=44) ?hr ?_;(case hd=>rfl);(case hg=>rfl);(case hr=>first | (go_simp;done) | (go_simp;rfl));intro gb699 hg w12 hbox hb;have n0_:=Aside0.mk (below_step (hs HB) hb);have n1_:=Aside0.mk (hbox);have n2_:=Aside0.mk ((by rw [hg];exact (below_size (hs HB)) : w.heap.size ≤ gb699));have n3_:=Aside0.mk ((by rw [hg];exact (below_size (hs HB)) : w.heap.size ≤ gb699));clear HB;have HB:=n0_;have BK699:=n1_;have GW699:=n2_;have GE699:=n3_;clear n0_ n1_ n2_ n3_;clear hb hbox hg;have hcz13_0 : w12.cell? ⟨gb699,0,none⟩ = some (.slice A0_0 l0_0.length c0_0):=(blk_cell BK699.out 0).trans rfl;have hfz13_0:=blk_frozen BK699.out 0;have p700 : 0 ≤ (a1 : Int):=of_decide_eq_true (by first | (with_reducible assumption) | assumption);have q700 : a1 < (l0_0.length : Int):=of_decide_eq_true (by first | (with_reducible assumption) | assumption);obtain ⟨ad700,A700_1,c700_1,e700,hx700_0,hx700_1,hl700_1,hi700_1⟩:=at_T133 HR0_0.out a1 p700 q700;cases e700;replace hx700_0:=(HB.out.cell (World.block_lt_of_cell? w _ hx700_0)).trans hx700_0;replace hx700_1:=(HB.out.cell (World.block_lt_of_cell? w _ hx700_1)).trans hx700_1;have HR700_1:=Aside0.mk hi700_1;have HC700_1:=Aside0.mk hl700_1;clear hi700_1 hl700_1;replace p700:=eq_true p700;replace q700:=eq_true q700;have p701 : 0 ≤ ((ji8) : Int):=of_decide_eq_true (by first | (with_reducible assumption) | assumption);have q701 : (ji8) < (((rd_T133 l0_0 a1).f1).length : Int):=of_decide_eq_true (by first | (with_reducible assumption) | assumption);obtain ⟨ad701,e701,hx701_0⟩:=Kd.at_int HR700_1.out (ji8) p701 q701;cases e701;replace hx701_0:=(HB.out.cell (World.block_lt_of_cell? w _ hx701_0)).trans hx701_0;replace p701:=eq_true p701;replace q701:=eq_true q701))
      go_ret
      exact ⟨by first | rfl | (simp [errW_none,errW_some] <;> rfl) | (simp only [← hji8];first | rfl | (simp [errW_none,errW_some] <;> rfl)) | (simp [*,errW_none,errW_some] <;> rfl),hs1 HB GE699⟩
     rw [if_neg c11] at H;have c11b0 : decide ((rd ((rd_T133 l0_0 a1).f1) (ji8)) < 0) = false:=decide_eq_false c11;clear c11
     by_cases c14 : 0 ≤ (rd ((rd_T133 l0_0 a1).f1) (ji8))
     ·rw [if_pos c14] at H;have c14b0 : decide (0 ≤ (rd ((rd_T133 l0_0 a1).f1) (ji8))) = true:=decide_eq_true c14;clear c14
      by_cases c15 : (rd ((rd_T133 l0_0 a1).f1) (ji8)) < (l0_0.length : Int)
      ·rw [if_pos c15] at H;have c15b0 : decide ((rd ((rd_T133 l0_0 a1).f1) (ji8)) < (l0_0.length : Int)) = true:=decide_eq_true c15;clear c15;obtain ⟨ji16,hji16⟩ : ∃ j_ : Int,(Int.tmod a2 4) = j_:=⟨_,rfl⟩;replace H : (if 0 ≤ (ji16) then (if (ji16) < (((rd_T133 l0_0 (rd ((rd_T133 l0_0 a1).f1) (ji8))).f1).length : Int) then (some (rd ((rd_T133 l0_0 (rd ((rd_T133 l0_0 a1).f1) (ji8))).f1) (ji16))) else (none)) else (none)) = some r:=by first | (rw [hji16] at H;exact H) | (simp only [hji16] at H ⊢;exact H)
       by_cases c17 : 0 ≤ (ji16)
       ·rw [if_pos c17] at H;have c17b0 : decide (0 ≤ (ji16)) = true:=decide_eq_true c17;clear c17
        by_cases c18 : (ji16) < (((rd_T133 l0_0 (rd ((rd_T133 l0_0 a1).f1) (ji8))).f1).length : Int)
        ·rw [if_pos c18] at H;have c18b0 : decide ((ji16) < (((rd_T133 l0_0 (rd ((rd_T133 l0_0 a1).f1) (ji8))).f1).length : Int)) = true:=decide_eq_true c18;clear c18;obtain rfl:=Option.some.inj H
         go_enter Try.func135,Try.ntmps135
         go_wp2_with (first | ((with_reducible refine gate_dst (N:=3) rfl ?_);refine box_event ?hg (N:=3) ?hd (cs:=#[.slice A0_0 l0_0.length c0_0]) (t:=44) ?hr ?_;(case hd=>rfl);(case hg=>rfl);(case hr=>first | (go_simp;done) | (go_simp;rfl));intro gb699 hg w19 hbox hb;have n0_:=Aside0.mk (below_step (hs HB) hb);have n1_:=Aside0.mk (hbox);have n2_:=Aside0.mk ((by rw [hg];exact (below_size (hs HB)) : w.heap.size ≤ gb699));have n3_:=Aside0.mk ((by rw [hg];exact (below_size (hs HB)) : w.heap.size ≤ gb699));clear HB;have HB:=n0_;have BK699:=n1_;have GW699:=n2_;have GE699:=n3_;clear n0_ n1_ n2_ n3_;clear hb hbox hg;have hcz20_0 : w19.cell? ⟨gb699,0,none⟩ = some (.slice A0_0 l0_0.length c0_0):=(blk_cell BK699.out 0).trans rfl;have hfz20_0:=blk_frozen BK699.out 0;have p700 : 0 ≤ (a1 : Int):=of_decide_eq_true (by first | (with_reducible assumption) | assumption);have q700 : a1 < (l0_0.length : Int):=of_decide_eq_true (by first | (with_reducible assumption) | assumption);obtain ⟨ad700,A700_1,c700_1,e700,hx700_0,hx700_1,hl700_1,hi700_1⟩:=at_T133 HR0_0.out a1 p700 q700;cases e700;replace hx700_0:=(HB.out.cell (World.block_lt_of_cell? w _ hx700_0)).trans hx700_0;replace hx700_1:=(HB.out.cell (World.block_lt_of_cell? w _ hx700_1)).trans hx700_1;have HR700_1:=Aside0.mk hi700_1;have HC700_1:=Aside0.mk hl700_1;clear hi700_1 hl700_1;replace p700:=eq_true p700;replace q700:=eq_true q700;have p701 : 0 ≤ ((ji8) : Int):=of_decide_eq_true (by first | (with_reducible assumption) | assumption);have q701 : (ji8) < (((rd_T133 l0_0 a1).f1).length : Int):=of_decide_eq_true (by first | (with_reducible assumption) | assumption);obtain ⟨ad701,e701,hx701_0⟩:=Kd.at_int HR700_1.out (ji8) p701 q701;cases e701;replace hx701_0:=(HB.out.cell (World.block_lt_of_cell? w _ hx701_0)).trans hx701_0;replace p701:=eq_true p701;replace q701:=eq_true q701;have p702 : 0 ≤ ((rd ((rd_T133 l0_0 a1).f1) (ji8)) : Int):=of_decide_eq_true (by first | (with_reducible assumption) | assumption);have q702 : (rd ((rd_T133 l0_0 a1).f1) (ji8)) < (l0_0.length : Int):=of_decide_eq_true (by first | (with_reducible assumption) | assumption);obtain ⟨ad702,A702_1,c702_1,e702,hx702_0,hx702_1,hl702_1,hi702_1⟩:=at_T133 HR0_0.out (rd ((rd_T133 l0_0 a1).f1) (ji8)) p702 q702;obtain rfl : ad700 = ad702:=(by injection e702);replace hx702_0:=(HB.out.cell (World.block_lt_of_cell? w _ hx702_0)).trans hx702_0;replace hx702_1:=(HB.out.cell (World.block_lt_of_cell? w _ hx702_1)).trans hx702_1;have HR702_1:=Aside0.mk hi702_1;have HC702_1:=Aside0.mk hl702_1;clear hi702_1 hl702_1;replace p702:=eq_true p702;replace q702:=eq_true q702;have p703 : 0 ≤ ((ji16) : Int):=of_decide_eq_true (by first | (with_reducible assumption) | assumption);have q703 : (ji16) < (((rd_T133 l0_0 (rd ((rd_T133 l0_0 a1).f1) (ji8))).f1).length : Int):=of_decide_eq_true (by first | (with_reducible assumption) | assumption);obtain ⟨ad703,e703,hx703_0⟩:=Kd.at_int HR702_1.out (ji16) p703 q703;cases e703;replace hx703_0:=(HB.out.cell (World.block_lt_of_cell? w _ hx703_0)).trans hx703_0;replace p703:=eq_true p703;replace q703:=eq_true q703))
         go_ret
         exact ⟨by first | rfl | (simp [errW_none,errW_some] <;> rfl) | (simp only [← hji8,← hji16];first | rfl | (simp [errW_none,errW_some] <;> rfl)) | (simp [*,errW_none,errW_some] <;> rfl),hs1 HB GE699⟩
        rw [if_neg c18] at H;exact absurd H (by simp)
       rw [if_neg c17] at H;exact absurd H (by simp)
      rw [if_neg c15] at H;exact absurd H (by simp)
     rw [if_neg c14] at H;exact absurd H (by simp)
    rw [if_neg c10] at H;exact absurd H (by simp)
   rw [if_neg c9] at H;exact absurd H (by simp)
  rw [if_neg c7] at H;exact absurd H (by simp)
 rw [if_neg c6] at H;exact absurd H (by simp)
end Go.Proofs.Ytdolplcbokioaaa.PB

namespace Go.Proofs.Ytdolplcbokioaaa.PB
open Go.RowKit Go.Proofs.YtdolplcbokioaaaW.PrintWords Go.Proofs.YtdolplcbokioaaaW.PrintLast Go.Proofs.YtdolplcbokioaaaW.PrintMore
attribute [local go_sem] max2_int min2_int max_two min_two max_three min_three max_four min_four   -- for this text's walks alone
set_option linter.unusedVariables false
set_option linter.unusedSimpArgs false
def spec_GetAt.f (k : Nat) (l0_0 : List (S133)) (a1 : Int) (a2 : Int) : Option (Int):=(spec_ArenaOk.f k l0_0).bind fun t705=>(if t705 = true then ((spec_l11Root.f l0_0 a1).bind fun t706=>(if t706 = true then ((spec_l01In.f a2 0 15).bind fun t707=>(if t707 = true then ((spec_l11Get.f l0_0 a1 a2).bind fun t708=>(some t708)) else (some 0))) else (some 0))) else (some 0))
theorem spec_GetAt.mono : ∀ a0 a1 a2 k,LeO (spec_GetAt.f k a0 a1 a2) (spec_GetAt.f (k + 1) a0 a1 a2):=by
 intro a0 a1 a2 k;unfold spec_GetAt.f
 repeat' first
   | (with_reducible exact spec_ArenaOk.mono _ _)
   | (with_reducible exact LeO.refl _)
   | (with_reducible exact LeO.none _)
   | (with_reducible refine LeO.ite ?_ ?_)
   | (with_reducible refine LeO.bind ?_ (fun _=>?_))
   | exact spec_ArenaOk.mono _ _
   | exact LeO.none _
   | refine LeO.ite ?_ ?_
   | refine LeO.bind ?_ (fun _=>?_)
set_option maxHeartbeats 8000000 in
set_option maxRecDepth 100000 in
theorem spec_GetAt.calls (k : Nat) (A0_0 : Option Addr) (c0_0 : Nat) (l0_0 : List (S133)) (a1 : Int) (a2 : Int) (r : Int) (w : World) (hr0_0 : Kd.C k133 w A0_0 l0_0.length l0_0) (hc0_0 : l0_0.length ≤ c0_0) (h : spec_GetAt.f k l0_0 a1 a2 = some r) :
  Calls Try.prog 96 #[.agg #[.slice A0_0 l0_0.length c0_0],.int .i64 a1,.int .i64 a2] w fun e w'=>e = .returned (.int .i64 r) ∧ Below w.heap.size w w':=by
 have hu44:=Try.underlying44;have HR0_0:=Aside0.mk hr0_0;have HC0_0:=Aside0.mk hc0_0;clear hr0_0 hc0_0;have HB:=Aside0.mk (Below.refl w.heap.size w);have H : ((spec_ArenaOk.f k l0_0).bind fun t705=>(if t705 = true then ((spec_l11Root.f l0_0 a1).bind fun t706=>(if t706 = true then ((spec_l01In.f a2 0 15).bind fun t707=>(if t707 = true then ((spec_l11Get.f l0_0 a1 a2).bind fun t708=>(some t708)) else (some 0))) else (some 0))) else (some 0))) = some r:=h;clear h;replace H:=Option.bind_eq_some_iff.mp H;obtain ⟨t705,A40,H⟩:=H;replace H : (if t705 = true then ((spec_l11Root.f l0_0 a1).bind fun t706=>(if t706 = true then ((spec_l01In.f a2 0 15).bind fun t707=>(if t707 = true then ((spec_l11Get.f l0_0 a1 a2).bind fun t708=>(some t708)) else (some 0))) else (some 0))) else (some 0)) = some r:=H;have A4:=Aside0.mk A40;clear A40
 by_cases c5 : t705 = true
 ·subst c5;have H1 : ((spec_l11Root.f l0_0 a1).bind fun t706=>(if t706 = true then ((spec_l01In.f a2 0 15).bind fun t707=>(if t707 = true then ((spec_l11Get.f l0_0 a1 a2).bind fun t708=>(some t708)) else (some 0))) else (some 0))) = some r:=by rw [if_pos rfl] at H;exact H
  clear H;have H:=H1;clear H1;replace H:=Option.bind_eq_some_iff.mp H;obtain ⟨t706,A60,H⟩:=H;replace H : (if t706 = true then ((spec_l01In.f a2 0 15).bind fun t707=>(if t707 = true then ((spec_l11Get.f l0_0 a1 a2).bind fun t708=>(some t708)) else (some 0))) else (some 0)) = some r:=H;have A6:=Aside0.mk A60;clear A60
  by_cases c7 : t706 = true
  ·subst c7;have H1 : ((spec_l01In.f a2 0 15).bind fun t707=>(if t707 = true then ((spec_l11Get.f l0_0 a1 a2).bind fun t708=>(some t708)) else (some 0))) = some r:=by rw [if_pos rfl] at H;exact H
   clear H;have H:=H1;clear H1;replace H:=Option.bind_eq_some_iff.mp H;obtain ⟨t707,A80,H⟩:=H;replace H : (if t707 = true then ((spec_l11Get.f l0_0 a1 a2).bind fun t708=>(some t708)) else (some 0)) = some r:=H;have A8:=Aside0.mk A80;clear A80
   by_cases c9 : t707 = true
   ·subst c9;have H1 : ((spec_l11Get.f l0_0 a1 a2).bind fun t708=>(some t708)) = some r:=by rw [if_pos rfl] at H;exact H
    clear H;have H:=H1;clear H1;replace H:=Option.bind_eq_some_iff.mp H;obtain ⟨t708,A100,H⟩:=H;replace H : (some t708) = some r:=H;have A10:=Aside0.mk A100;clear A100;obtain rfl:=Option.some.inj H
    go_enter Try.func96,Try.ntmps96
    go_wp2_with (first | ((with_reducible refine gate_dst (N:=3) rfl ?_);refine box_event ?hg (N:=3) ?hd (cs:=#[.slice A0_0 l0_0.length c0_0]) (t:=44) ?hr ?_;(case hd=>rfl);(case hg=>rfl);(case hr=>first | (go_simp;done) | (go_simp;rfl));intro gb704 hg w11 hbox hb;have n0_:=Aside0.mk (below_step (hs HB) hb);have n1_:=Aside0.mk (hbox);have n2_:=Aside0.mk ((by rw [hg];exact (below_size (hs HB)) : w.heap.size ≤ gb704));have n3_:=Aside0.mk ((by rw [hg];exact (below_size (hs HB)) : w.heap.size ≤ gb704));clear HB;have HB:=n0_;have BK704:=n1_;have GW704:=n2_;have GE704:=n3_;clear n0_ n1_ n2_ n3_;clear hb hbox hg;have hcz12_0 : w11.cell? ⟨gb704,0,none⟩ = some (.slice A0_0 l0_0.length c0_0):=(blk_cell BK704.out 0).trans rfl;have hfz12_0:=blk_frozen BK704.out 0) | ((with_reducible refine gate_callee (f:=99) rfl ?_);refine goesL_ (some 8) rfl rfl Try.func99 (by kernel_rfl) rfl #[.agg #[.slice A0_0 l0_0.length c0_0]] rfl (by (try simp only [List.map_toArray,List.map_cons,List.map_nil]);first | done | rfl | (simp only [List.length_drop,List.length_take];rfl)) ?_;(with_reducible refine (spec_ArenaOk.calls k _ _ l0_0 true _ ?side1 ?side2 A4.out).mono ?_);(case side1=>repeat (first | exact (Kd.C_below HR0_0.out HB.out) | (with_reducible refine Kd.C_alloc ?_ _) | (with_reducible refine Kd.C_drewN ?_ _) | (with_reducible refine Kd.C_drew ?_)));(case side2=>exact HC0_0.out);rintro e w13 ⟨rfl,hb⟩;refine ⟨_,rfl,?_⟩;have n0_:=Aside0.mk (blk_below (g:=gb704) (o:=.cells #[.slice A0_0 l0_0.length c0_0] 44 (0,0)) (bs BK704) hb);have n1_:=Aside0.mk (below_step (hs1 HB GE704) hb);clear BK704;clear HB;have BK704:=n0_;have HB:=n1_;clear n0_ n1_;(try clear hb);(try clear hb2);(try clear hk);(try clear hi);have hcz14_0 : w13.cell? ⟨gb704,0,none⟩ = some (.slice A0_0 l0_0.length c0_0):=(blk_cell BK704.out 0).trans rfl;have hfz14_0:=blk_frozen BK704.out 0) | (go_at_call 100;(with_reducible refine (spec_l11Root.calls _ _ l0_0 a1 true _ ?side1 ?side2 A6.out).mono ?_);(case side1=>repeat (first | exact (Kd.C_below HR0_0.out HB.out) | (with_reducible refine Kd.C_alloc ?_ _) | (with_reducible refine Kd.C_drewN ?_ _) | (with_reducible refine Kd.C_drew ?_)));(case side2=>exact HC0_0.out);rintro e w15 ⟨rfl,hb⟩;have n0_:=Aside0.mk (blk_below (g:=gb704) (o:=.cells #[.slice A0_0 l0_0.length c0_0] 44 (0,0)) (bs BK704) hb);have n1_:=Aside0.mk (below_step (hs1 HB GE704) hb);clear BK704;clear HB;have BK704:=n0_;have HB:=n1_;clear n0_ n1_;(try clear hb);(try clear hb2);(try clear hk);(try clear hi)) | (go_at_call 86;(with_reducible refine (spec_l01In.calls a2 0 15 true _ A8.out).mono ?_);rintro e w' ⟨rfl,⟨nd,rfl⟩⟩;have hcz16_0 : w15.cell? ⟨gb704,0,none⟩ = some (.slice A0_0 l0_0.length c0_0):=(blk_cell BK704.out 0).trans rfl;have hfz16_0:=blk_frozen BK704.out 0) | ((with_reducible refine gate_callee (f:=135) rfl ?_);refine goesL_ (some 24) rfl rfl Try.func135 (by kernel_rfl) rfl #[.agg #[.slice A0_0 l0_0.length c0_0],.int .i64 a1,.int .i64 a2] rfl (by (try simp only [List.map_toArray,List.map_cons,List.map_nil]);first | done | rfl | (simp only [List.length_drop,List.length_take];rfl)) ?_;(with_reducible refine (spec_l11Get.calls _ _ l0_0 a1 a2 t708 _ ?side1 ?side2 A10.out).mono ?_);(case side1=>repeat (first | exact (Kd.C_below HR0_0.out (hs1 HB GE704)) | (with_reducible refine Kd.C_alloc ?_ _) | (with_reducible refine Kd.C_drewN ?_ _) | (with_reducible refine Kd.C_drew ?_)));(case side2=>exact HC0_0.out);rintro e w17 ⟨rfl,hb⟩;refine ⟨_,rfl,?_⟩;have n0_:=Aside0.mk (blk_below (g:=gb704) (o:=.cells #[.slice A0_0 l0_0.length c0_0] 44 (0,0)) (bs BK704) hb);have n1_:=Aside0.mk (below_step (hs1 HB GE704) hb);clear BK704;clear HB;have BK704:=n0_;have HB:=n1_;clear n0_ n1_;(try clear hb);(try clear hb2);(try clear hk);(try clear hi)))
    go_ret
    exact ⟨by first | rfl | (simp [errW_none,errW_some] <;> rfl) | (simp [*,errW_none,errW_some] <;> rfl),hs1 HB GE704⟩
   replace c9:=Bool.eq_false_iff.mpr c9;subst c9;have H1 : (some 0) = some r:=by rw [if_neg (show ¬ (false = true) by decide)] at H;exact H
   clear H;have H:=H1;clear H1;obtain rfl:=Option.some.inj H
   go_enter Try.func96,Try.ntmps96
   go_wp2_with (first | ((with_reducible refine gate_dst (N:=3) rfl ?_);refine box_event ?hg (N:=3) ?hd (cs:=#[.slice A0_0 l0_0.length c0_0]) (t:=44) ?hr ?_;(case hd=>rfl);(case hg=>rfl);(case hr=>first | (go_simp;done) | (go_simp;rfl));intro gb704 hg w18 hbox hb;have n0_:=Aside0.mk (below_step (hs HB) hb);have n1_:=Aside0.mk (hbox);have n2_:=Aside0.mk ((by rw [hg];exact (below_size (hs HB)) : w.heap.size ≤ gb704));have n3_:=Aside0.mk ((by rw [hg];exact (below_size (hs HB)) : w.heap.size ≤ gb704));clear HB;have HB:=n0_;have BK704:=n1_;have GW704:=n2_;have GE704:=n3_;clear n0_ n1_ n2_ n3_;clear hb hbox hg;have hcz19_0 : w18.cell? ⟨gb704,0,none⟩ = some (.slice A0_0 l0_0.length c0_0):=(blk_cell BK704.out 0).trans rfl;have hfz19_0:=blk_frozen BK704.out 0) | ((with_reducible refine gate_callee (f:=99) rfl ?_);refine goesL_ (some 8) rfl rfl Try.func99 (by kernel_rfl) rfl #[.agg #[.slice A0_0 l0_0.length c0_0]] rfl (by (try simp only [List.map_toArray,List.map_cons,List.map_nil]);first | done | rfl | (simp only [List.length_drop,List.length_take];rfl)) ?_;(with_reducible refine (spec_ArenaOk.calls k _ _ l0_0 true _ ?side1 ?side2 A4.out).mono ?_);(case side1=>repeat (first | exact (Kd.C_below HR0_0.out HB.out) | (with_reducible refine Kd.C_alloc ?_ _) | (with_reducible refine Kd.C_drewN ?_ _) | (with_reducible refine Kd.C_drew ?_)));(case side2=>exact HC0_0.out);rintro e w20 ⟨rfl,hb⟩;refine ⟨_,rfl,?_⟩;have n0_:=Aside0.mk (blk_below (g:=gb704) (o:=.cells #[.slice A0_0 l0_0.length c0_0] 44 (0,0)) (bs BK704) hb);have n1_:=Aside0.mk (below_step (hs1 HB GE704) hb);clear BK704;clear HB;have BK704:=n0_;have HB:=n1_;clear n0_ n1_;(try clear hb);(try clear hb2);(try clear hk);(try clear hi);have hcz21_0 : w20.cell? ⟨gb704,0,none⟩ = some (.slice A0_0 l0_0.length c0_0):=(blk_cell BK704.out 0).trans rfl;have hfz21_0:=blk_frozen BK704.out 0) | (go_at_call 100;(with_reducible refine (spec_l11Root.calls _ _ l0_0 a1 true _ ?side1 ?side2 A6.out).mono ?_);(case side1=>repeat (first | exact (Kd.C_below HR0_0.out HB.out) | (with_reducible refine Kd.C_alloc ?_ _) | (with_reducible refine Kd.C_drewN ?_ _) | (with_reducible refine Kd.C_drew ?_)));(case side2=>exact HC0_0.out);rintro e w22 ⟨rfl,hb⟩;have n0_:=Aside0.mk (blk_below (g:=gb704) (o:=.cells #[.slice A0_0 l0_0.length c0_0] 44 (0,0)) (bs BK704) hb);have n1_:=Aside0.mk (below_step (hs1 HB GE704) hb);clear BK704;clear HB;have BK704:=n0_;have HB:=n1_;clear n0_ n1_;(try clear hb);(try clear hb2);(try clear hk);(try clear hi)) | (go_at_call 86;(with_reducible refine (spec_l01In.calls a2 0 15 false _ A8.out).mono ?_);rintro e w' ⟨rfl,⟨nd,rfl⟩⟩))
   go_ret
   exact ⟨by first | rfl | (simp [errW_none,errW_some] <;> rfl) | (simp [*,errW_none,errW_some] <;> rfl),hs1 HB GE704⟩
  replace c7:=Bool.eq_false_iff.mpr c7;subst c7;have H1 : (some 0) = some r:=by rw [if_neg (show ¬ (false = true) by decide)] at H;exact H
  clear H;have H:=H1;clear H1;obtain rfl:=Option.some.inj H
  go_enter Try.func96,Try.ntmps96
  go_wp2_with (first | ((with_reducible refine gate_dst (N:=3) rfl ?_);refine box_event ?hg (N:=3) ?hd (cs:=#[.slice A0_0 l0_0.length c0_0]) (t:=44) ?hr ?_;(case hd=>rfl);(case hg=>rfl);(case hr=>first | (go_simp;done) | (go_simp;rfl));intro gb704 hg w23 hbox hb;have n0_:=Aside0.mk (below_step (hs HB) hb);have n1_:=Aside0.mk (hbox);have n2_:=Aside0.mk ((by rw [hg];exact (below_size (hs HB)) : w.heap.size ≤ gb704));have n3_:=Aside0.mk ((by rw [hg];exact (below_size (hs HB)) : w.heap.size ≤ gb704));clear HB;have HB:=n0_;have BK704:=n1_;have GW704:=n2_;have GE704:=n3_;clear n0_ n1_ n2_ n3_;clear hb hbox hg;have hcz24_0 : w23.cell? ⟨gb704,0,none⟩ = some (.slice A0_0 l0_0.length c0_0):=(blk_cell BK704.out 0).trans rfl;have hfz24_0:=blk_frozen BK704.out 0) | ((with_reducible refine gate_callee (f:=99) rfl ?_);refine goesL_ (some 8) rfl rfl Try.func99 (by kernel_rfl) rfl #[.agg #[.slice A0_0 l0_0.length c0_0]] rfl (by (try simp only [List.map_toArray,List.map_cons,List.map_nil]);first | done | rfl | (simp only [List.length_drop,List.length_take];rfl)) ?_;(with_reducible refine (spec_ArenaOk.calls k _ _ l0_0 true _ ?side1 ?side2 A4.out).mono ?_);(case side1=>repeat (first | exact (Kd.C_below HR0_0.out HB.out) | (with_reducible refine Kd.C_alloc ?_ _) | (with_reducible refine Kd.C_drewN ?_ _) | (with_reducible refine Kd.C_drew ?_)));(case side2=>exact HC0_0.out);rintro e w25 ⟨rfl,hb⟩;refine ⟨_,rfl,?_⟩;have n0_:=Aside0.mk (blk_below (g:=gb704) (o:=.cells #[.slice A0_0 l0_0.length c0_0] 44 (0,0)) (bs BK704) hb);have n1_:=Aside0.mk (below_step (hs1 HB GE704) hb);clear BK704;clear HB;have BK704:=n0_;have HB:=n1_;clear n0_ n1_;(try clear hb);(try clear hb2);(try clear hk);(try clear hi);have hcz26_0 : w25.cell? ⟨gb704,0,none⟩ = some (.slice A0_0 l0_0.length c0_0):=(blk_cell BK704.out 0).trans rfl;have hfz26_0:=blk_frozen BK704.out 0) | (go_at_call 100;(with_reducible refine (spec_l11Root.calls _ _ l0_0 a1 false _ ?side1 ?side2 A6.out).mono ?_);(case side1=>repeat (first | exact (Kd.C_below HR0_0.out HB.out) | (with_reducible refine Kd.C_alloc ?_ _) | (with_reducible refine Kd.C_drewN ?_ _) | (with_reducible refine Kd.C_drew ?_)));(case side2=>exact HC0_0.out);rintro e w27 ⟨rfl,hb⟩;have n0_:=Aside0.mk (blk_below (g:=gb704) (o:=.cells #[.slice A0_0 l0_0.length c0_0] 44 (0,0)) (bs BK704) hb);have n1_:=Aside0.mk (below_step (hs1 HB GE704) hb);clear BK704;clear HB;have BK704:=n0_;have HB:=n1_;clear n0_ n1_;(try clear hb);(try clear hb2);(try clear hk);(try clear hi)))
  go_ret
  exact ⟨by first | rfl | (simp [errW_none,errW_some] <;> rfl) | (simp [*,errW_none,errW_some] <;> rfl),hs1 HB GE704⟩
 replace c5:=Bool.eq_false_iff.mpr c5;subst c5;have H1 : (some 0) = some r:=by rw [if_neg (show ¬ (false = true) by decide)] at H;exact H
 clear H;have H:=H1;clear H1;obtain rfl:=Option.some.inj H
 go_enter Try.func96,Try.ntmps96
 go_wp2_with (first | ((with_reducible refine gate_dst (N:=3) rfl ?_);refine box_event ?hg (N:=3) ?hd (cs:=#[.slice A0_0 l0_0.length c0_0]) (t:=44) ?hr ?_;(case hd=>rfl);(case hg=>rfl);(case hr=>first | (go_simp;done) | (go_simp;rfl));intro gb704 hg w28 hbox hb;have n0_:=Aside0.mk (below_step (hs HB) hb);have n1_:=Aside0.mk (hbox);have n2_:=Aside0.mk ((by rw [hg];exact (below_size (hs HB)) : w.heap.size ≤ gb704));have n3_:=Aside0.mk ((by rw [hg];exact (below_size (hs HB)) : w.heap.size ≤ gb704));clear HB;have HB:=n0_;have BK704:=n1_;have GW704:=n2_;have GE704:=n3_;clear n0_ n1_ n2_ n3_;clear hb hbox hg;have hcz29_0 : w28.cell? ⟨gb704,0,none⟩ = some (.slice A0_0 l0_0.length c0_0):=(blk_cell BK704.out 0).trans rfl;have hfz29_0:=blk_frozen BK704.out 0) | ((with_reducible refine gate_callee (f:=99) rfl ?_);refine goesL_ (some 8) rfl rfl Try.func99 (by kernel_rfl) rfl #[.agg #[.slice A0_0 l0_0.length c0_0]] rfl (by (try simp only [List.map_toArray,List.map_cons,List.map_nil]);first | done | rfl | (simp only [List.length_drop,List.length_take];rfl)) ?_;(with_reducible refine (spec_ArenaOk.calls k _ _ l0_0 false _ ?side1 ?side2 A4.out).mono ?_);(case side1=>repeat (first | exact (Kd.C_below HR0_0.out HB.out) | (with_reducible refine Kd.C_alloc ?_ _) | (with_reducible refine Kd.C_drewN ?_ _) | (with_reducible refine Kd.C_drew ?_)));(case side2=>exact HC0_0.out);rintro e w30 ⟨rfl,hb⟩;refine ⟨_,rfl,?_⟩;have n0_:=Aside0.mk (blk_below (g:=gb704) (o:=.cells #[.slice A0_0 l0_0.length c0_0] 44 (0,0)) (bs BK704) hb);have n1_:=Aside0.mk (below_step (hs1 HB GE704) hb);clear BK704;clear HB;have BK704:=n0_;have HB:=n1_;clear n0_ n1_;(try clear hb);(try clear hb2);(try clear hk);(try clear hi)))
 go_ret
 exact ⟨by first | rfl | (simp [errW_none,errW_some] <;> rfl) | (simp [*,errW_none,errW_some] <;> rfl),hs1 HB GE704⟩
end Go.Proofs.Ytdolplcbokioaaa.PB

/- The number of a sector of a tree, as one function; the program's and the reference's GetAt answer it. -/
namespace Go.Proofs.Ytdolplcbokioaaa.Pu
set_option linter.unusedVariables false
set_option linter.unusedSimpArgs false
open Go.RowKit Go.Proofs.Ytdolplcbokioaaa.PB Go.Proofs.YtdolplcbokioaaaW.PrintWords

def rootB (a : List S133) (r : Int) : Bool := decide (0 ≤ r ∧ r ≤ (a.length : Int) - 1) && !(a.getD r.toNat z133).f0
def numB (a : List S133) (r s : Int) : Int := if (a.getD r.toNat z133).f1.getD (s / 4).toNat 0 < 0 then 0 else (a.getD ((a.getD r.toNat z133).f1.getD (s / 4).toNat 0).toNat z133).f1.getD (s % 4).toNat 0
def getB (a : List S133) (r s : Int) : Int := if (0 ≤ s ∧ s ≤ 15) ∧ rootB a r = true ∧ arenaB a = true then numB a r s else 0

theorem knot_of {a : List S133} (h : arenaB a = true) {i : Nat} (hi : i < a.length) : (a.getD i z133).f1.length = 4 ∧ ∀ n ∈ (a.getD i z133).f1, kidB a i (a.getD i z133).f0 n = true := by
  unfold arenaB at h
  rw [List.all_eq_true] at h
  have h1 := h i (by simp; omega)
  unfold knotB at h1
  rw [Bool.and_eq_true, decide_eq_true_eq, List.all_eq_true] at h1
  exact h1
theorem getD_mem {α : Type} {l : List α} {i : Nat} {z : α} (hi : i < l.length) : l.getD i z ∈ l := by
  rw [List.getD_eq_getElem?_getD, List.getElem?_eq_getElem hi]; exact List.getElem_mem hi
/-- A kid of a knot that is no leaf: -1, or the place of a leaf. -/
theorem kid_of {a : List S133} (h : arenaB a = true) {r : Nat} (hr : r < a.length) (hf : (a.getD r z133).f0 = false) {j : Nat} (hj : j < 4) :
    (a.getD r z133).f1.getD j 0 = -1 ∨ (0 ≤ (a.getD r z133).f1.getD j 0 ∧ (a.getD r z133).f1.getD j 0 < r ∧ (a.getD ((a.getD r z133).f1.getD j 0).toNat z133).f0 = true) := by
  obtain ⟨h4, hk⟩ := knot_of h hr
  have h1 := hk _ (getD_mem (i := j) (z := 0) (by omega))
  unfold kidB at h1
  rw [hf] at h1
  simp only [Bool.false_eq_true, if_false, Bool.or_eq_true, decide_eq_true_eq, Bool.and_eq_true] at h1
  rcases h1 with h1 | ⟨h1, h2⟩
  · exact .inl h1
  · exact .inr ⟨h1.1, by omega, h2⟩
theorem iRoot_eq (a : List S133) (r : Int) (hn : a.length ≤ 9223372036854775807) : impl_isRoot.f a r = some (rootB a r) := by
  unfold impl_isRoot.f rootB
  rw [w64 (by omega) (by omega), in_eq]
  simp only [Option.bind_some]
  by_cases h : 0 ≤ r ∧ r ≤ (a.length : Int) - 1
  · rw [decide_eq_true h, if_pos rfl, if_pos h.1, if_pos (by omega), Bool.true_and]; rfl
  · rw [decide_eq_false h, if_neg (by decide), Bool.false_and]
theorem sRoot_eq (a : List S133) (r : Int) (hn : a.length ≤ 9223372036854775807) : spec_l11Root.f a r = some (decide (r = -1) || rootB a r) := by
  unfold spec_l11Root.f rootB
  by_cases h0 : r = -1
  · rw [if_pos h0, decide_eq_true h0, Bool.true_or]
  · rw [if_neg h0, decide_eq_false h0, Bool.false_or, w64 (by omega) (by omega), l01In_eq]
    simp only [Option.bind_some]
    by_cases h : 0 ≤ r ∧ r ≤ (a.length : Int) - 1
    · rw [decide_eq_true h, if_pos rfl, if_pos h.1, if_pos (by omega), Bool.true_and]; rfl
    · rw [decide_eq_false h, if_neg (by decide), Bool.false_and]
theorem div4 {s : Int} (h0 : 0 ≤ s) (h1 : s ≤ 15) : wrap64 (Int.tdiv s 4) = s / 4 ∧ Int.tmod s 4 = s % 4 ∧ 0 ≤ s / 4 ∧ s / 4 < 4 ∧ 0 ≤ s % 4 ∧ s % 4 < 4 := by
  rw [Int.tdiv_eq_ediv_of_nonneg h0, Int.tmod_eq_emod_of_nonneg h0, w64 (by omega) (by omega)]
  omega
theorem root_lt {a : List S133} {r : Int} (h : rootB a r = true) : 0 ≤ r ∧ r.toNat < a.length ∧ (a.getD r.toNat z133).f0 = false := by
  unfold rootB at h
  rw [Bool.and_eq_true, decide_eq_true_eq, Bool.not_eq_true'] at h
  exact ⟨h.1.1, by omega, h.2⟩
theorem iNumber_eq (a : List S133) (r s : Int) (ha : arenaB a = true) (hr : rootB a r = true) (h0 : 0 ≤ s) (h1 : s ≤ 15) : impl_numberAt.f a r s = some (numB a r s) := by
  obtain ⟨r0, rl, rf⟩ := root_lt hr
  obtain ⟨d1, d2, d3, d4, d5, d6⟩ := div4 h0 h1
  have h4 := (knot_of ha rl).1
  have hk := kid_of ha rl rf (j := (s / 4).toNat) (by omega)
  unfold impl_numberAt.f numB
  simp only [d1, d2]
  show (if 0 ≤ r then if r < (a.length : Int) then if 0 ≤ s / 4 then if s / 4 < (((a.getD r.toNat z133).f1.length : Nat) : Int) then if (a.getD r.toNat z133).f1.getD (s / 4).toNat 0 < 0 then some 0 else if 0 ≤ (a.getD r.toNat z133).f1.getD (s / 4).toNat 0 then if (a.getD r.toNat z133).f1.getD (s / 4).toNat 0 < (a.length : Int) then if 0 ≤ s % 4 then if s % 4 < (((a.getD ((a.getD r.toNat z133).f1.getD (s / 4).toNat 0).toNat z133).f1.length : Nat) : Int) then some ((a.getD ((a.getD r.toNat z133).f1.getD (s / 4).toNat 0).toNat z133).f1.getD (s % 4).toNat 0) else none else none else none else none else none else none else none else none) = _
  rw [if_pos r0, if_pos (by omega), if_pos d3, if_pos (by omega)]
  rcases hk with hk | ⟨k0, k1, _⟩
  · rw [if_pos (by omega), if_pos (by omega)]
  · have h5 := (knot_of ha (i := ((a.getD r.toNat z133).f1.getD (s / 4).toNat 0).toNat) (by omega)).1
    rw [if_neg (by omega), if_pos k0, if_pos (by omega), if_pos d5, if_pos (by omega), if_neg (by omega)]
theorem sGet_eq (a : List S133) (r s : Int) (ha : arenaB a = true) (hr : rootB a r = true) (h0 : 0 ≤ s) (h1 : s ≤ 15) : spec_l11Get.f a r s = some (numB a r s) := by
  obtain ⟨r0, rl, rf⟩ := root_lt hr
  have h := iNumber_eq a r s ha hr h0 h1
  unfold impl_numberAt.f at h
  unfold spec_l11Get.f
  rw [if_neg (by omega)]
  exact h
theorem iGetAt_ev (a : List S133) (r s : Int) (hn : a.length ≤ 9223372036854775807) : Ev (fun k => impl_GetAt.f k a r s) (getB a r s) := by
  unfold impl_GetAt.f getB
  simp only [in_eq, iRoot_eq a r hn, Option.bind_some, decide_eq_true_eq]
  by_cases h1 : 0 ≤ s ∧ s ≤ 15
  · by_cases h2 : rootB a r = true
    · simp only [if_pos h1, if_pos h2]
      refine ev_bind (iArena_ev a hn) ?_
      by_cases h3 : arenaB a = true
      · simp only [if_pos h3, if_pos (show (0 ≤ s ∧ s ≤ 15) ∧ rootB a r = true ∧ arenaB a = true from ⟨h1, h2, h3⟩)]
        rw [iNumber_eq a r s h3 h2 h1.1 h1.2]
        exact Ev.now _
      · simp only [if_neg h3, if_neg (show ¬ ((0 ≤ s ∧ s ≤ 15) ∧ rootB a r = true ∧ arenaB a = true) from fun h => h3 h.2.2)]
        exact Ev.now _
    · simp only [if_pos h1, if_neg h2, if_neg (show ¬ ((0 ≤ s ∧ s ≤ 15) ∧ rootB a r = true ∧ arenaB a = true) from fun h => h2 h.2.1)]
      exact Ev.now _
  · simp only [if_neg h1, if_neg (show ¬ ((0 ≤ s ∧ s ≤ 15) ∧ rootB a r = true ∧ arenaB a = true) from fun h => h1 h.1)]
    exact Ev.now _
theorem sGetAt_ev (a : List S133) (r s : Int) (hn : a.length ≤ 9223372036854775807) : Ev (fun k => spec_GetAt.f k a r s) (getB a r s) := by
  unfold spec_GetAt.f getB
  refine ev_bind (sArena_ev a hn) ?_
  by_cases h3 : arenaB a = true
  · simp only [if_pos h3, l01In_eq, sRoot_eq a r hn, Option.bind_some]
    by_cases h2 : rootB a r = true
    · simp only [h2, Bool.or_true, if_true]
      by_cases h1 : 0 ≤ s ∧ s ≤ 15
      · simp only [decide_eq_true h1, if_true, if_pos (show (0 ≤ s ∧ s ≤ 15) ∧ True ∧ arenaB a = true from ⟨h1, trivial, h3⟩)]
        rw [sGet_eq a r s h3 h2 h1.1 h1.2]
        exact Ev.now _
      · simp only [decide_eq_false h1, Bool.false_eq_true, if_false, if_neg (show ¬ ((0 ≤ s ∧ s ≤ 15) ∧ True ∧ arenaB a = true) from fun h => h1 h.1)]
        exact Ev.now _
    · have e : getB a r s = 0 := by unfold getB; exact if_neg fun h => h2 h.2.1
      unfold getB at e
      rw [e]
      by_cases h0 : r = -1
      · simp only [decide_eq_true h0, Bool.true_or, if_true]
        by_cases h1 : 0 ≤ s ∧ s ≤ 15
        · simp only [decide_eq_true h1, if_true]
          unfold spec_l11Get.f
          simp only [if_pos (show r < 0 by omega), Option.bind_some]
          exact Ev.now _
        · simp only [decide_eq_false h1, Bool.false_eq_true, if_false]
          exact Ev.now _
      · simp only [decide_eq_false h0, Bool.eq_false_iff.mpr h2, Bool.or_self, Bool.false_eq_true, if_false]
        exact Ev.now _
  · simp only [if_neg h3, if_neg (show ¬ ((0 ≤ s ∧ s ≤ 15) ∧ rootB a r = true ∧ arenaB a = true) from fun h => h3 h.2.2)]
    exact Ev.now _
end Go.Proofs.Ytdolplcbokioaaa.Pu

/- The copies of an arena. -/
namespace Go.Proofs.Ytdolplcbokioaaa.Pu
set_option linter.unusedVariables false
set_option linter.unusedSimpArgs false
open Go.RowKit Go.Proofs.Ytdolplcbokioaaa.PB Go.Proofs.YtdolplcbokioaaaW.PrintWords

theorem drop_cons {α : Type} {l : List α} {i : Nat} (z : α) (h : i < l.length) : l.drop i = l.getD i z :: l.drop (i + 1) := by
  rw [List.drop_eq_getElem_cons h, List.getD_eq_getElem?_getD, List.getElem?_eq_getElem h]; rfl
theorem sCopyArena_ev (a : List S133) (hn : a.length ≤ 1048576) (hx : ∀ x ∈ a, x.f1.length ≤ 1048576) : Ev (fun k => spec_l11Copy.f k a) a := by
  have main : ∀ (d i : Nat) (acc : List S133), i + d = a.length → acc.length = i → Ev (fun k => spec_l11Copy.l0 k (i : Int) a acc) (acc ++ a.drop i) := by
    intro d
    induction d with
    | zero => intro i acc hi hl; exact ev_some fun k => by simp only [spec_l11Copy.l0]; rw [if_neg (by omega), List.drop_eq_nil_of_le (by omega), List.append_nil]
    | succ d ih =>
      intro i acc hi hl
      have hil : i < a.length := by omega
      have hm := hx _ (getD_mem (z := z133) hil)
      have h := ih (i + 1) (acc ++ [a.getD i z133]) (by omega) (by simp; omega)
      rw [List.append_assoc, List.singleton_append, ← drop_cons z133 hil] at h
      refine Ev.step (fun k => ?_) h
      simp only [spec_l11Copy.l0]
      rw [if_pos (by omega), if_pos (by omega), rdIK_nat, Option.bind_some, if_pos (show ([] : List Int).length + (a.getD i z133).f1.length < 17592186044416 by rw [List.length_nil]; omega), if_pos (by omega), wsucc (n := a.length) hil (by omega), List.nil_append]
  have h := main a.length 0 [] (by omega) rfl
  rw [List.nil_append, List.drop_zero] at h
  exact h
theorem iCopyInts_eq {l : List Int} (h : l.length ≤ 1048576) : impl_copyInts.f l = some l := by
  unfold impl_copyInts.f
  rw [if_pos (by simp; omega), List.nil_append]
theorem app_ok {α : Type} (l : List α) {c : Nat} : l ++ [] = l := List.append_nil l
theorem iCopyArena_ev (a : List S133) (hn : a.length ≤ 1048576) (hx : ∀ x ∈ a, x.f1.length ≤ 1048576) : Ev (fun k => impl_copyArena.f k a) a := by
  have main : ∀ (d i : Nat) (acc : List S133), i + d = a.length → acc.length = i → Ev (fun k => impl_copyArena.l0 k a a.length (i : Int) acc) (acc ++ a.drop i) := by
    intro d
    induction d with
    | zero => intro i acc hi hl; exact ev_some fun k => by simp only [impl_copyArena.l0]; rw [if_neg (by omega), List.drop_eq_nil_of_le (by omega), List.append_nil]
    | succ d ih =>
      intro i acc hi hl
      have hil : i < a.length := by omega
      have h := ih (i + 1) (acc ++ [a.getD i z133]) (by omega) (by simp; omega)
      rw [List.append_assoc, List.singleton_append, ← drop_cons z133 hil] at h
      refine Ev.step (fun k => ?_) h
      simp only [impl_copyArena.l0]
      rw [if_pos (by omega), if_pos (by omega), if_pos (by omega), rdIK_nat, iCopyInts_eq (hx _ (getD_mem hil)), Option.bind_some, if_pos (by omega), wsucc (n := a.length) hil (by omega)]
  have h := main a.length 0 [] (by omega) rfl
  rw [List.nil_append, List.drop_zero] at h
  exact h
end Go.Proofs.Ytdolplcbokioaaa.Pu

/- What is put into a tree, as one function; the program's and the reference's PutAt answer it. -/
namespace Go.Proofs.Ytdolplcbokioaaa.Pu
set_option linter.unusedVariables false
set_option linter.unusedSimpArgs false
open Go.RowKit Go.Proofs.Ytdolplcbokioaaa.PB Go.Proofs.YtdolplcbokioaaaW.PrintWords

def topB (a : List S133) (r : Int) : List Int := if r = -1 then [-1, -1, -1, -1] else (a.getD r.toNat z133).f1
def leafB (a : List S133) (r s : Int) : List Int := if 0 ≤ (topB a r).getD (s / 4).toNat 0 then (a.getD ((topB a r).getD (s / 4).toNat 0).toNat z133).f1 else List.replicate 4 0
def canPut (a : List S133) (r s n : Int) : Prop := arenaB a = true ∧ (r = -1 ∨ rootB a r = true) ∧ (0 ≤ s ∧ s ≤ 15) ∧ 0 ≤ n
instance (a : List S133) (r s n : Int) : Decidable (canPut a r s n) := by unfold canPut; infer_instance
def putB (a : List S133) (r s n : Int) : List S133 × Int :=
  if canPut a r s n then (a ++ [⟨true, (leafB a r s).set (s % 4).toNat n⟩, ⟨false, (topB a r).set (s / 4).toNat (a.length : Int)⟩], (a.length : Int) + 1) else (a, r)
theorem putB_no {a : List S133} {r s n : Int} (h : ¬ canPut a r s n) : putB a r s n = (a, r) := if_neg h
theorem putB_yes {a : List S133} {r s n : Int} {t l : List Int} (h : canPut a r s n) (ht : topB a r = t) (hl : leafB a r s = l) :
    putB a r s n = (a ++ [⟨true, l.set (s % 4).toNat n⟩, ⟨false, t.set (s / 4).toNat (a.length : Int)⟩], (a.length : Int) + 1) := by
  unfold putB; rw [if_pos h, ht, hl]
theorem none4 : ∀ j : Nat, j < 4 → ([-1, -1, -1, -1] : List Int).getD j 0 = -1 := by decide
theorem rd_toNat (l : List Int) (i : Int) : rd l i = l.getD i.toNat 0 := Eq.trans rfl rfl
theorem rdK_toNat (l : List S133) (i : Int) : rd_T133 l i = l.getD i.toNat z133 := Eq.trans rfl rfl
theorem rep4_len : (List.replicate 4 (0 : Int)).length = 4 := rfl
theorem leaf_new {a : List S133} {r s : Int} {t : List Int} (ht : topB a r = t) (h : ¬ 0 ≤ t.getD (s / 4).toNat 0) : leafB a r s = List.replicate 4 0 := by
  unfold leafB; rw [ht, if_neg h]
theorem leaf_old {a : List S133} {r s : Int} {t : List Int} (ht : topB a r = t) (h : 0 ≤ t.getD (s / 4).toNat 0) : leafB a r s = (a.getD (t.getD (s / 4).toNat 0).toNat z133).f1 := by
  unfold leafB; rw [ht, if_pos h]
theorem top_none {a : List S133} {r : Int} (h : r = -1) : topB a r = [-1, -1, -1, -1] := if_pos h
theorem top_some {a : List S133} {r : Int} (h : ¬ r = -1) : topB a r = (a.getD r.toNat z133).f1 := if_neg h
theorem putB_bound {a : List S133} {r s n : Int} (hn : a.length ≤ 1048576) (hx : ∀ x ∈ a, x.f1.length ≤ 1048576) : (putB a r s n).1.length ≤ 1048578 ∧ ∀ x ∈ (putB a r s n).1, x.f1.length ≤ 1048576 := by
  by_cases h : canPut a r s n
  · have top : (topB a r).length ≤ 1048576 := by
      by_cases h0 : r = -1
      · rw [top_none h0]; decide
      · rw [top_some h0]
        obtain ⟨_, h2, _⟩ := h
        obtain ⟨_, rl, _⟩ := root_lt (h2.resolve_left h0)
        exact hx _ (getD_mem rl)
    have leaf : (leafB a r s).length ≤ 1048576 := by
      unfold leafB
      split
      · by_cases hi : ((topB a r).getD (s / 4).toNat 0).toNat < a.length
        · exact hx _ (getD_mem hi)
        · rw [List.getD_eq_getElem?_getD, List.getElem?_eq_none (by omega)]; exact Nat.zero_le _
      · rw [List.length_replicate]; omega
    rw [putB_yes h rfl rfl]
    refine ⟨by simp only [List.length_append, List.length_cons, List.length_nil]; omega, fun x hx' => ?_⟩
    rcases List.mem_append.1 hx' with hx' | hx'
    · exact hx _ hx'
    · rcases List.mem_cons.1 hx' with rfl | hx'
      · show (List.set _ _ _).length ≤ _
        rw [List.length_set]; exact leaf
      · obtain rfl := List.mem_singleton.1 hx'
        show (List.set _ _ _).length ≤ _
        rw [List.length_set]; exact top
  · rw [putB_no h]; exact ⟨by show a.length ≤ _; omega, hx⟩
theorem iPut_ev (a : List S133) (r s n : Int) (hn : a.length ≤ 1048576) (hx : ∀ x ∈ a, x.f1.length ≤ 1048576) : Ev (fun k => impl_PutAt.f k a r s n) (putB a r s n) := by
  unfold impl_PutAt.f
  refine ev_bind (iCopyArena_ev a hn hx) ?_
  by_cases h0 : r = -1
  · simp only [if_pos h0, in_eq, Option.bind_some, decide_eq_true_eq]
    by_cases h1 : 0 ≤ s ∧ s ≤ 15
    · obtain ⟨d1, d2, d3, d4, d5, d6⟩ := div4 h1.1 h1.2
      simp only [if_pos h1]
      by_cases h2 : n < 0
      · simp only [if_pos h2]; rw [putB_no (fun h => by have := h.2.2.2; omega)]; exact Ev.now _
      · simp only [if_neg h2]
        refine ev_bind (iArena_ev a (by omega)) ?_
        by_cases h3 : arenaB a = true
        · have hc : canPut a r s n := ⟨h3, .inl h0, h1, by omega⟩
          have ht := top_none (a := a) h0
          have hq : ¬ 0 ≤ ([-1, -1, -1, -1] : List Int).getD (s / 4).toNat 0 := by rw [none4 _ (by omega)]; decide
          rw [putB_yes hc ht (leaf_new ht hq)]
          simp only [if_pos h3, d1, d2, rd_toNat]
          rw [if_pos d3, if_pos d4, if_neg hq, if_pos d5, if_pos d6, if_pos (by omega), w64 (by omega) (by omega)]
          exact Ev.now _
        · simp only [if_neg h3]; rw [putB_no (fun h => h3 h.1)]; exact Ev.now _
    · simp only [if_neg h1]; rw [putB_no (fun h => h1 h.2.2.1)]; exact Ev.now _
  · simp only [if_neg h0, iRoot_eq a r (by omega), in_eq, Option.bind_some, decide_eq_true_eq]
    by_cases hr : rootB a r = true
    · obtain ⟨r0, rl, rf⟩ := root_lt hr
      simp only [if_pos hr]
      by_cases h1 : 0 ≤ s ∧ s ≤ 15
      · obtain ⟨d1, d2, d3, d4, d5, d6⟩ := div4 h1.1 h1.2
        simp only [if_pos h1]
        by_cases h2 : n < 0
        · simp only [if_pos h2]; rw [putB_no (fun h => by have := h.2.2.2; omega)]; exact Ev.now _
        · simp only [if_neg h2]
          refine ev_bind (iArena_ev a (by omega)) ?_
          by_cases h3 : arenaB a = true
          · have hc : canPut a r s n := ⟨h3, .inr hr, h1, by omega⟩
            have ht := top_some (a := a) h0
            have h4 := (knot_of h3 rl).1
            have hk := kid_of h3 rl rf (j := (s / 4).toNat) (by omega)
            simp only [if_pos h3, d1, d2, rdK_toNat]
            rw [if_pos r0, if_pos (by omega), iCopyInts_eq (hx _ (getD_mem rl)), Option.bind_some, if_pos d3, if_pos (by omega)]
            simp only [rd_toNat]
            rcases hk with hk | ⟨k0, k1, _⟩
            · have hq : ¬ 0 ≤ (a.getD r.toNat z133).f1.getD (s / 4).toNat 0 := by omega
              rw [putB_yes hc ht (leaf_new ht hq), if_neg hq, if_pos d5, if_pos d6, if_pos (by omega), w64 (by omega) (by omega)]
              exact Ev.now _
            · have hi : ((a.getD r.toNat z133).f1.getD (s / 4).toNat 0).toNat < a.length := by omega
              have h5 := (knot_of h3 hi).1
              rw [putB_yes hc ht (leaf_old ht k0), if_pos k0, if_pos (by omega), iCopyInts_eq (hx _ (getD_mem hi)), Option.bind_some, if_pos d5, if_pos (by omega), if_pos (by omega), w64 (by omega) (by omega)]
              exact Ev.now _
          · simp only [if_neg h3]; rw [putB_no (fun h => h3 h.1)]; exact Ev.now _
      · simp only [if_neg h1]; rw [putB_no (fun h => h1 h.2.2.1)]; exact Ev.now _
    · simp only [if_neg hr]; rw [putB_no (fun h => hr (h.2.1.resolve_left h0))]; exact Ev.now _
theorem sPut_ev (a : List S133) (r s n : Int) (hn : a.length ≤ 1048576) (hx : ∀ x ∈ a, x.f1.length ≤ 1048576) : Ev (fun k => spec_PutAt.f k a r s n) (putB a r s n) := by
  unfold spec_PutAt.f
  refine ev_bind (sCopyArena_ev a hn hx) (ev_bind (sArena_ev a (by omega)) ?_)
  by_cases h3 : arenaB a = true
  · simp only [if_pos h3, sRoot_eq a r (by omega), l01In_eq, Option.bind_some, Bool.or_eq_true, decide_eq_true_eq]
    by_cases hr : r = -1 ∨ rootB a r = true
    · simp only [if_pos hr]
      by_cases h1 : 0 ≤ s ∧ s ≤ 15
      · obtain ⟨d1, d2, d3, d4, d5, d6⟩ := div4 h1.1 h1.2
        simp only [if_pos h1]
        by_cases h2 : n < 0
        · simp only [if_pos h2]; rw [putB_no (fun h => by have := h.2.2.2; omega)]; exact Ev.now _
        · simp only [if_neg h2]
          have hc : canPut a r s n := ⟨h3, hr, h1, by omega⟩
          by_cases h0 : r = -1
          · have ht := top_none (a := a) h0
            have hq : ¬ 0 ≤ ([-1, -1, -1, -1] : List Int).getD (s / 4).toNat 0 := by rw [none4 _ (by omega)]; decide
            simp only [d1, d2]
            rw [putB_yes hc ht (leaf_new ht hq), if_neg (by omega), if_pos d3, if_pos d4, if_pos d5, if_pos d6, if_pos (by omega), w64 (by omega) (by omega), show (a.length : Int) + 2 - 1 = a.length + 1 by omega]
            exact Ev.now _
          · have ht := top_some (a := a) h0
            obtain ⟨r0, rl, rf⟩ := root_lt (hr.resolve_left h0)
            have h4 := (knot_of h3 rl).1
            have hk := kid_of h3 rl rf (j := (s / 4).toNat) (by omega)
            simp only [d1, d2, rdK_toNat]
            rw [if_pos r0, if_pos (by omega), if_pos (by omega), if_pos d3, if_pos (by omega)]
            simp only [rd_toNat]
            rcases hk with hk | ⟨k0, k1, _⟩
            · have hq : ¬ 0 ≤ (a.getD r.toNat z133).f1.getD (s / 4).toNat 0 := by omega
              rw [putB_yes hc ht (leaf_new ht hq), if_neg hq, if_pos d5, if_pos d6, if_pos (by omega), w64 (by omega) (by omega), show (a.length : Int) + 2 - 1 = a.length + 1 by omega]
              exact Ev.now _
            · have hi : ((a.getD r.toNat z133).f1.getD (s / 4).toNat 0).toNat < a.length := by omega
              have h5 := (knot_of h3 hi).1
              rw [putB_yes hc ht (leaf_old ht k0), if_pos k0, if_pos (by omega), if_pos (by omega), if_pos d5, if_pos (by omega), if_pos (by omega), w64 (by omega) (by omega), show (a.length : Int) + 2 - 1 = a.length + 1 by omega]
              exact Ev.now _
      · simp only [if_neg h1]; rw [putB_no (fun h => h1 h.2.2.1)]; exact Ev.now _
    · simp only [if_neg hr]; rw [putB_no (fun h => hr h.2.1)]; exact Ev.now _
  · simp only [if_neg h3]; rw [putB_no (fun h => h3 h.1)]; exact Ev.now _
end Go.Proofs.Ytdolplcbokioaaa.Pu

/- Marks: what a row's places are marked with is held there again, and the count goes on alike. -/
namespace Go.Proofs.Ytdolplcbokioaaa.Pu
set_option linter.unusedVariables false
set_option linter.unusedSimpArgs false
open Go.RowKit Go.Proofs.Ytdolplcbokioaaa.PB Go.Proofs.YtdolplcbokioaaaW.PrintWords

theorem getD_set_self {α : Type} {xs : List α} {i : Nat} {x z : α} (h : i < xs.length) : (xs.set i x).getD i z = x := by
  rw [List.getD_eq_getElem?_getD, List.getElem?_set_self h]; rfl
theorem getD_set_ne {α : Type} {xs : List α} {i j : Nat} {x z : α} (h : i ≠ j) : (xs.set i x).getD j z = xs.getD j z := by
  rw [List.getD_eq_getElem?_getD, List.getD_eq_getElem?_getD, List.getElem?_set_ne h]
/-- A row that is marked place by place, and held so. -/
theorem ev_mark {α : Type} (z : α) {L : Nat → List α → Int → Int → Option (Int × List α)} {Hd : Nat → List α → Int → Int → Option Int} (E : Nat → α → Int → Option (Int × α)) (G : Nat → α → Int → Option Int) (c : Int) (P : α → Prop)
    (hL : ∀ k (xs : List α) (a : Int) (i : Nat), i < xs.length → 0 ≤ a → a + c ≤ 4611686018427387904 → L (k + 1) xs a (i : Int) = (E k (xs.getD i z) a).bind fun b => L k (xs.set i b.2) b.1 (wrap64 ((i : Int) + 1)))
    (hL0 : ∀ k (xs : List α) (a : Int) (i : Nat), xs.length ≤ i → L (k + 1) xs a (i : Int) = some (a, xs))
    (hH : ∀ k (xs : List α) (a : Int) (i : Nat), i < xs.length → 0 ≤ a → a + c ≤ 4611686018427387904 → Hd (k + 1) xs a (i : Int) = (G k (xs.getD i z) a).bind fun t => if t < 0 then some (-1) else Hd k xs t (wrap64 ((i : Int) + 1)))
    (hH0 : ∀ k (xs : List α) (a : Int) (i : Nat), xs.length ≤ i → Hd (k + 1) xs a (i : Int) = some a)
    (hc : 0 ≤ c)
    (hE : ∀ x a, P x → 0 ≤ a → a + c ≤ 4611686018427387904 → ∃ a' x', Ev (fun k => E k x a) (a', x') ∧ Ev (fun k => G k x' a) a' ∧ a ≤ a' ∧ a' ≤ a + c) :
    ∀ (d i : Nat) (xs : List α) (a : Int), i + d = xs.length → xs.length ≤ 9223372036854775807 → (∀ j, i ≤ j → j < xs.length → P (xs.getD j z)) → 0 ≤ a → a + d * c ≤ 4611686018427387904 →
      ∃ a' xs', xs'.length = xs.length ∧ (∀ j, j < i → xs'.getD j z = xs.getD j z) ∧ Ev (fun k => L k xs a (i : Int)) (a', xs') ∧ Ev (fun k => Hd k xs' a (i : Int)) a' ∧ a ≤ a' ∧ a' ≤ a + d * c := by
  intro d
  induction d with
  | zero =>
    intro i xs a hi hn hP ha hM
    exact ⟨a, xs, rfl, fun _ _ => rfl, ev_some fun k => hL0 k xs a i (by omega), ev_some fun k => hH0 k xs a i (by omega), Int.le_refl _, by simp⟩
  | succ d ih =>
    intro i xs a hi hn hP ha hM
    have hdc : 0 ≤ (d : Int) * c := Int.mul_nonneg (by omega) hc
    have hds : ((d + 1 : Nat) : Int) * c = (d : Int) * c + c := by rw [Int.natCast_add, Int.add_mul]; simp
    rw [hds] at hM
    obtain ⟨a1, x1, hE1, hG1, h1, h2⟩ := hE (xs.getD i z) a (hP i (Nat.le_refl _) (by omega)) ha (by omega)
    have hlen : (xs.set i x1).length = xs.length := List.length_set
    obtain ⟨a', xs', hl', hb', hL', hH', h3, h4⟩ := ih (i + 1) (xs.set i x1) a1 (by rw [hlen]; omega) (by rw [hlen]; exact hn) (fun j hj hj2 => by
      rw [hlen] at hj2
      rw [getD_set_ne (by omega)]
      exact hP j (by omega) hj2) (by omega) (by omega)
    have hxi : xs'.getD i z = x1 := by rw [hb' i (by omega), getD_set_self (by omega)]
    refine ⟨a', xs', by rw [hl', hlen], fun j hj => by rw [hb' j (by omega), getD_set_ne (by omega)], ?_, ?_, by omega, by rw [hds]; omega⟩
    · refine Ev.step (fun k => hL k xs a i (by omega) ha (by omega)) (ev_bind hE1 ?_)
      simp only [wsucc (n := xs.length) (i := i) (by omega) hn]
      exact hL'
    · refine Ev.step (fun k => hH k xs' a i (by rw [hl', hlen]; omega) ha (by omega)) ?_
      rw [hxi]
      refine ev_bind hG1 ?_
      simp only [if_neg (show ¬ a1 < 0 by omega), wsucc (n := xs.length) (i := i) (by omega) hn]
      exact hH'

/-- A row that is marked place by place. -/
theorem ev_mark1 {α : Type} (z : α) {L : Nat → List α → Int → Int → Option (Int × List α)} (E : Nat → α → Int → Option (Int × α)) (c : Int)
    (hL : ∀ k (xs : List α) (a : Int) (i : Nat), i < xs.length → 0 ≤ a → a + c ≤ 4611686018427387904 → L (k + 1) xs a (i : Int) = (E k (xs.getD i z) a).bind fun b => L k (xs.set i b.2) b.1 (wrap64 ((i : Int) + 1)))
    (hL0 : ∀ k (xs : List α) (a : Int) (i : Nat), xs.length ≤ i → L (k + 1) xs a (i : Int) = some (a, xs)) (hc : 0 ≤ c)
    (hE : ∀ x a, 0 ≤ a → a + c ≤ 4611686018427387904 → ∃ a' x', Ev (fun k => E k x a) (a', x') ∧ a ≤ a' ∧ a' ≤ a + c) :
    ∀ (d i : Nat) (xs : List α) (a : Int), i + d = xs.length → xs.length ≤ 9223372036854775807 → 0 ≤ a → a + d * c ≤ 4611686018427387904 →
      ∃ a' xs', Ev (fun k => L k xs a (i : Int)) (a', xs') ∧ a ≤ a' ∧ a' ≤ a + d * c := by
  intro d
  induction d with
  | zero =>
    intro i xs a hi hn ha hM
    exact ⟨a, xs, ev_some fun k => hL0 k xs a i (by omega), Int.le_refl _, by simp⟩
  | succ d ih =>
    intro i xs a hi hn ha hM
    have hdc : 0 ≤ (d : Int) * c := Int.mul_nonneg (by omega) hc
    have hds : ((d + 1 : Nat) : Int) * c = (d : Int) * c + c := by rw [Int.natCast_add, Int.add_mul]; simp
    rw [hds] at hM
    obtain ⟨a1, x1, hE1, h1, h2⟩ := hE (xs.getD i z) a ha (by omega)
    have hlen : (xs.set i x1).length = xs.length := List.length_set
    obtain ⟨a', xs', hL', h3, h4⟩ := ih (i + 1) (xs.set i x1) a1 (by rw [hlen]; omega) (by rw [hlen]; exact hn) (by omega) (by omega)
    refine ⟨a', xs', ?_, by omega, by rw [hds]; omega⟩
    refine Ev.step (fun k => hL k xs a i (by omega) ha (by omega)) (ev_bind hE1 ?_)
    simp only [wsucc (n := xs.length) (i := i) (by omega) hn]
    exact hL'

/-- Whole numbers. -/
theorem mark_int (l : List Int) (a : Int) (hn : (l.length : Int) ≤ 1099511627776) (ha : 0 ≤ a) (hM : a + l.length ≤ 4611686018427387904) :
    ∃ a' l', l'.length = l.length ∧ Ev (fun k => laws_markIntS.f k l a) (a', l') ∧ Ev (fun k => laws_heldIntS.f k l' a) a' ∧ a ≤ a' ∧ a' ≤ a + l.length := by
  obtain ⟨a', l', h1, _, h2, h3, h4, h5⟩ := ev_mark (0 : Int) (L := fun k xs a i => laws_markIntS.l0 k xs a i) (Hd := fun k xs a i => laws_heldIntS.l0 k xs a i)
    (fun _ _ a => some (wrap64 (a + 1), a)) (fun _ x a => if x = a then some (wrap64 (a + 1)) else some (-1)) 1 (fun _ => True)
    (fun k xs a i hi _ _ => by
      simp only [laws_markIntS.l0]
      rw [if_pos (by omega), if_pos (by omega)]
      rfl)
    (fun k xs a i hi => by
      simp only [laws_markIntS.l0]
      rw [if_neg (by omega)])
    (fun k xs a i hi h0 h1 => by
      simp only [laws_heldIntS.l0]
      rw [if_pos (by omega), if_pos (by omega)]
      show (if xs.getD i 0 = a then _ else _) = _
      by_cases h : xs.getD i 0 = a
      · rw [if_pos h, if_pos h, w64 (by omega) (by omega)]
        simp only [Option.bind_some]
        rw [if_neg (by omega)]
      · rw [if_neg h, if_neg h]
        rfl)
    (fun k xs a i hi => by
      simp only [laws_heldIntS.l0]
      rw [if_neg (by omega)])
    (by omega)
    (fun x a _ h0 h1 => ⟨a + 1, a, ev_const (by rw [w64 (by omega) (by omega)]), ev_const (by rw [if_pos rfl, w64 (by omega) (by omega)]), by omega, by omega⟩)
    l.length 0 l a (by omega) (by omega) (fun _ _ _ => trivial) ha (by omega)
  exact ⟨a', l', h1, h2, h3, h4, by omega⟩
end Go.Proofs.Ytdolplcbokioaaa.Pu

/- Marks of an arena. -/
namespace Go.Proofs.Ytdolplcbokioaaa.Pu
set_option linter.unusedVariables false
set_option linter.unusedSimpArgs false
open Go.RowKit Go.Proofs.Ytdolplcbokioaaa.PB Go.Proofs.YtdolplcbokioaaaW.PrintWords

theorem mark_knots2 (l : List S133) (a : Int) (hn : l.length ≤ 2097152) (hk : ∀ x ∈ l, x.f1.length ≤ 1048576) (ha : 0 ≤ a) (hM : a ≤ 1099511627776) :
    ∃ a' l', l'.length = l.length ∧ Ev (fun k => laws_markKnotS.f k l a) (a', l') ∧ Ev (fun k => laws_heldKnotS.f k l' a) a' ∧ a ≤ a' ∧ a' ≤ a + l.length * 1048577 := by
  obtain ⟨a', l', h1, _, h2, h3, h4, h5⟩ := ev_mark z133 (L := fun k xs a i => laws_markKnotS.l0 k xs a i) (Hd := fun k xs a i => laws_heldKnotS.l0 k xs a i)
    (fun k x a => (laws_markIntS.f k x.f1 (wrap64 (a + 1))).bind fun b => some (b.1, (⟨Int.tmod a 3 == 0, b.2⟩ : S133))) (fun k x a => if (x.f0 != (Int.tmod a 3 == 0)) = true then some (-1) else laws_heldIntS.f k x.f1 (wrap64 (a + 1))) 1048577 (fun x => x.f1.length ≤ 1048576)
    (fun k xs a i hi _ _ => by
      have e1 : rd_T133 (xs.set i (⟨Int.tmod a 3 == 0, (rd_T133 xs (i : Int)).f1⟩ : S133)) (i : Int) = ⟨Int.tmod a 3 == 0, (rd_T133 xs (i : Int)).f1⟩ := getD_set_self hi
      simp only [laws_markKnotS.l0]
      rw [if_pos (by omega), if_pos (by omega)]
      simp only [Option.bind_some, Int.toNat_natCast, e1, List.set_set, Option.bind_assoc]
      rfl)
    (fun k xs a i hi => by
      simp only [laws_markKnotS.l0]
      rw [if_neg (by omega)])
    (fun k xs a i hi h0 h1 => by
      simp only [laws_heldKnotS.l0]
      rw [if_pos (by omega), if_pos (by omega)]
      show (if ((xs.getD i z133).f0 != (Int.tmod a 3 == 0)) = true then some (-1) else (laws_heldIntS.f k (xs.getD i z133).f1 (wrap64 (a + 1))).bind _) = _
      by_cases h : ((xs.getD i z133).f0 != (Int.tmod a 3 == 0)) = true
      · simp only [if_pos h]; rfl
      · simp only [if_neg h])
    (fun k xs a i hi => by
      simp only [laws_heldKnotS.l0]
      rw [if_neg (by omega)])
    (by omega)
    (fun x a hx h0 h1 => by
      obtain ⟨a1, l1, g1, g2, g3, g4, g5⟩ := mark_int x.f1 (a + 1) (by omega) (by omega) (by omega)
      refine ⟨a1, ⟨Int.tmod a 3 == 0, l1⟩, ?_, ?_, by omega, by omega⟩
      · simp only [w64 (x := a + 1) (by omega) (by omega)]
        exact ev_bind g2 (Ev.now _)
      · simp only [w64 (x := a + 1) (by omega) (by omega), bne_self_eq_false]
        exact g3)
    l.length 0 l a (by omega) (by omega) (fun j _ hj => hk _ (by rw [List.getD_eq_getElem?_getD, List.getElem?_eq_getElem hj]; exact List.getElem_mem hj)) ha (by omega)
  exact ⟨a', l', h1, h2, h3, h4, h5⟩
theorem mark_arena2 (l : List S133) (a : Int) (hn : l.length ≤ 2097152) (hk : ∀ x ∈ l, x.f1.length ≤ 1048576) (ha : 0 ≤ a) (hM : a ≤ 1099511627776) :
    ∃ a' l', l'.length = l.length ∧ Ev (fun k => laws_markArena.f k l a) (a', l') ∧ Ev (fun k => laws_heldArena.f k l' a) a' ∧ a ≤ a' ∧ a' ≤ a + l.length * 1048577 := by
  obtain ⟨a', l', h1, h2, h3, h4, h5⟩ := mark_knots2 l a hn hk ha hM
  refine ⟨a', l', h1, ?_, ?_, h4, h5⟩
  · unfold laws_markArena.f; exact ev_bind h2 (Ev.now _)
  · unfold laws_heldArena.f; exact ev_bind h3 (by simp only [if_neg (show ¬ a' < 0 by omega)]; exact Ev.now _)
theorem mark_knots (l : List S133) (a : Int) (hn : l.length ≤ 1048576) (hk : ∀ x ∈ l, x.f1.length ≤ 1048576) (ha : 0 ≤ a) (hM : a ≤ 1099511627776) :
    ∃ a' l', l'.length = l.length ∧ Ev (fun k => laws_markKnotS.f k l a) (a', l') ∧ Ev (fun k => laws_heldKnotS.f k l' a) a' ∧ a ≤ a' ∧ a' ≤ a + l.length * 1048577 := mark_knots2 l a (by omega) hk ha hM
theorem mark_arena (l : List S133) (a : Int) (hn : l.length ≤ 1048576) (hk : ∀ x ∈ l, x.f1.length ≤ 1048576) (ha : 0 ≤ a) (hM : a ≤ 1099511627776) :
    ∃ a' l', l'.length = l.length ∧ Ev (fun k => laws_markArena.f k l a) (a', l') ∧ Ev (fun k => laws_heldArena.f k l' a) a' ∧ a ≤ a' ∧ a' ≤ a + l.length * 1048577 := mark_arena2 l a (by omega) hk ha hM
end Go.Proofs.Ytdolplcbokioaaa.Pu

/- FnExactPutAt: what the program and the reference put into a tree is one, and the program's result is its own. -/
namespace Go.Proofs.Ytdolplcbokioaaa.Pure
set_option linter.unusedVariables false
set_option linter.unusedSimpArgs false
open Go.RowKit Go.Proofs.Ytdolplcbokioaaa.PB Go.Proofs.YtdolplcbokioaaaW.PrintWords Go.Proofs.Ytdolplcbokioaaa.Pu

theorem FnExactPutAt : ∀ (l0_0 : List S175) (a1 : Int) (a2 : Int) (a3 : Int), (l0_0.length ≤ maxLen ∧ ∀ x_l0_0 ∈ l0_0, (True ∧ (x_l0_0.f1.length ≤ maxLen ∧ ∀ x_x_l0_0f1 ∈ x_l0_0.f1, (Lit.int .i64 x_x_l0_0f1).wf = true))) → (Lit.int .i64 a1).wf = true → (Lit.int .i64 a2).wf = true → (Lit.int .i64 a3).wf = true → ∃ k, laws_FnExactPutAt.f k l0_0 a1 a2 a3 = some true := by
  intro l r s n ⟨hl, hx⟩ _ _ _
  refine Ev.rounds (g := fun k => laws_FnExactPutAt.f k l r s n) ?_
  unfold maxLen at hl
  unfold laws_FnExactPutAt.f
  obtain ⟨u, hrr, hr1, hq⟩ := szArena_ev l 1048576 (by omega) (by omega) (by omega) (fun x h => by have := (hx x h).2.1; unfold maxLen at this; omega)
  refine ev_bind hrr ?_
  by_cases h : u < 0
  · simp only [if_pos h]; exact Ev.now _
  · simp only [if_neg h]
    obtain ⟨h1, h2⟩ := hq (by omega)
    have hlen : (toA l).length = l.length := by unfold toA; exact List.length_map _
    have hmem : ∀ x ∈ toA l, x.f1.length ≤ 1048576 := fun x h => by
      unfold toA at h
      obtain ⟨y, hy, rfl⟩ := List.mem_map.1 h
      have := h2 y hy
      show y.f1.length ≤ _
      omega
    have hn : (toA l).length ≤ 1048576 := by omega
    have hto := toArena_ev l (by omega) (fun x h => by have := h2 x h; omega)
    have eqq := eqArena_ev (toA l) (by omega) (fun x h => by have := hmem x h; omega)
    have hs := sPut_ev (toA l) r s n hn hmem
    have hi := iPut_ev (toA l) r s n hn hmem
    obtain ⟨b1, b2⟩ := putB_bound (r := r) (s := s) (n := n) hn hmem
    have eqg0 := eqArena_ev (putB (toA l) r s n).1 (by omega) (fun x h => by have := b2 x h; omega)
    obtain ⟨ka, A', _, hmk, _, hk0, hka⟩ := mark_arena (toA l) 1 hn hmem (by omega) (by omega)
    obtain ⟨m, g', _, hm1, hm2, hm0, hmm⟩ := mark_arena2 (putB (toA l) r s n).1 1 (by omega) b2 (by omega) (by omega)
    refine ev_bind hto (ev_bind hs (ev_bind hto (ev_bind hi (ev_bind eqg0 ?_))))
    simp only [if_true]
    refine ev_bind hto (ev_bind eqq ?_)
    simp only [if_true]
    refine ev_bind hmk (ev_bind eqg0 ?_)
    simp only [if_true, if_neg (show ¬ ka < 0 by omega)]
    refine ev_bind hm1 (ev_bind hm2 ?_)
    simp only [if_true, if_neg (show ¬ m < 0 by omega)]
    refine ev_bind hto (ev_bind hi (ev_bind eqg0 ?_))
    simp only [if_true]
    refine ev_bind hm2 ?_
    simp only [if_true, if_neg (show ¬ m < 0 by omega)]
    exact Ev.now _
end Go.Proofs.Ytdolplcbokioaaa.Pure
