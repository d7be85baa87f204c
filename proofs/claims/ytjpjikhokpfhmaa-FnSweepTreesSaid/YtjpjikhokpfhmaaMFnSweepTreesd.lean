/- FnSweepTrees: functions of the translation as Lean functions with what their calls come to, plain lemmas on them, and, at the end, the row. Parts of one proof, merged by a program of this session; each part's own sentence stands at its head. -/
import Derived.Test.YtjpjikhokpfhmaaMFnSweepTreesc
namespace Go.Proofs.Ytjpjikhokpfhmaa.PT
open Go.RowKit Go.Proofs.YtjpjikhokpfhmaaW.PrintWords Go.Proofs.YtjpjikhokpfhmaaW.PrintLast Go.Proofs.YtjpjikhokpfhmaaW.PrintMore
attribute [local go_sem] max2_int min2_int max_two min_two max_three min_three max_four min_four   -- for this text's walks alone
set_option linter.unusedVariables false
set_option linter.unusedSimpArgs false
def impl_copyInts.f (l0 : List Int) : Option (List Int):=if ([] : List Int).length + l0.length < 17592186044416 then (some (([] : List Int) ++ l0)) else (none)
set_option maxHeartbeats 8000000 in
set_option maxRecDepth 100000 in
theorem impl_copyInts.calls (A0 : Option Addr) (c0 : Nat) (l0 : List Int) (r : List Int) (w : World) (hr0 : Kd.C (Kd.int .i64) w A0 l0.length l0) (hc0 : l0.length ≤ c0) (h : impl_copyInts.f l0 = some r) :
  Calls Try.prog 26 #[.slice A0 l0.length c0] w fun e w'=>∃ v0_ : Value,e = .returned (v0_) ∧ Kd.R (Kd.int .i64) 3 w' w.heap.size (fun _=>True) v0_ r ∧ Below w.heap.size w w':=by
 have HR0:=zMk hr0;have HC0:=zMk hc0;clear hr0 hc0;have HB:=zMk (Below.refl w.heap.size w);have H : (if ([] : List Int).length + l0.length < 17592186044416 then (some (([] : List Int) ++ l0)) else (none)) = some r:=h;clear h
 by_cases c2 : ([] : List Int).length + l0.length < 17592186044416
 ·rw [if_pos c2] at H;have LMc2:=zMk c2;clear c2;obtain ⟨y204,hy204⟩ : ∃ y_ : List Int,y_ = (([] : List Int) ++ l0):=⟨_,rfl⟩;replace H : (some y204) = some r:=by first | (rw [hy204];with_reducible exact H) | (have H2_:=(Option.bind_some _ _).symm.trans H;rw [hy204];with_reducible exact H2_) | (have H2_:=(Option.bind_some _ _).symm.trans H;with_reducible exact H2_) | with_reducible exact H | (rw [hy204];exact H) | exact H
  have Ny204:=zMk hy204;clear hy204;obtain rfl:=Option.some.inj H
  go_enter Try.func26,Try.ntmps26
  go_wp2_with (first | ((with_reducible refine gate_builtin (b:=.append) (xs:=#[(.const (.slice none 0 0)),.tmp 3]) rfl ?_);at_builtin;refine Kd.R_append_rows (Kd.int .i64) (w0:=w) w.heap.size rfl (.const (.slice none 0 0)) (.tmp 3) 27 3 (.int .i64 0) 8 rfl Try.underlying27 info3 rfl (by decide) (by omega) (.slice none 0 0) ([] : List Int) l0 _ _ _ (fun _=>True) (fun _=>False) rfl rfl ?aO ?aR (fun _ _ h=>h) (fun _ h=>h.elim) ?aF ?aB ?aS ?aL ?_;(case aR=>repeat (first | exact HR0.out | (with_reducible refine Kd.C_alloc ?_ _) | (with_reducible refine Kd.C_drewN ?_ _) | (with_reducible refine Kd.C_drew ?_)));(case aB=>exact (hs HB));(case aF=>exact (fun _ _=>trivial));(case aO=>exact ((Kd.R_nil _ _ _ _ (fun _=>True))));(case aS=>exact (below_size (hs HB)));(case aL=>have:=LMc2.out;omega);intro v205 w3 ho hb hg hat;rw [← Ny204.out] at ho;have n0_:=zMk (hb);have n1_:=zMk (ho);clear HB;have HB:=n0_;have HO206:=n1_;clear n0_ n1_;clear ho hb hg hat))
  go_ret
  exact ⟨_,by first | rfl | (simp [errW_none,errW_some] <;> rfl) | (simp [*,errW_none,errW_some] <;> rfl),rs HO206,hs HB⟩
 rw [if_neg c2] at H;exact absurd H (by simp)
end Go.Proofs.Ytjpjikhokpfhmaa.PT

namespace Go.Proofs.Ytjpjikhokpfhmaa.PT
open Go.RowKit Go.Proofs.YtjpjikhokpfhmaaW.PrintWords Go.Proofs.YtjpjikhokpfhmaaW.PrintLast Go.Proofs.YtjpjikhokpfhmaaW.PrintMore
attribute [local go_sem] max2_int min2_int max_two min_two max_three min_three max_four min_four   -- for this text's walks alone
set_option linter.unusedVariables false
set_option linter.unusedSimpArgs false
def impl_copyArena.l0 : Nat → List (S47) → Int → Int → List (S47) → Option ((List (S47)))
 | 0,_,_,_,_=>none
 | k + 1,x7,x8,x9,x210000=>if x9 < x8 then (if 0 ≤ x9 then (if x9 < (x7.length : Int) then ((impl_copyInts.f ((rd_T47 x7 x9).f1)).bind fun t212=>(if x210000.length < 4398046511104 then (impl_copyArena.l0 k x7 x8 (wrap64 (x9 + 1)) (x210000 ++ [(⟨(rd_T47 x7 x9).f0,t212⟩ : S47)])) else (none))) else (none)) else (none)) else (some x210000)
def impl_copyArena.f (k : Nat) (l0_0 : List (S47)) : Option ((List (S47))):=impl_copyArena.l0 k l0_0 (l0_0.length : Int) 0 ([] : List (S47))
theorem impl_copyArena.mono_l : ∀ k,(∀ y0 y1 y2 y3,LeO (impl_copyArena.l0 k y0 y1 y2 y3) (impl_copyArena.l0 (k + 1) y0 y1 y2 y3))
 | 0=>fun _ _ _ _ r h=>by simp [impl_copyArena.l0] at h
 | k + 1=>by
  have ih0:=impl_copyArena.mono_l k;intro y0 y1 y2 y3;unfold impl_copyArena.l0
  repeat' first
  | (with_reducible exact ih0 _ _ _ _)
  | (with_reducible exact LeO.refl _)
  | (with_reducible exact LeO.none _)
  | (with_reducible refine LeO.ite ?_ ?_)
  | (with_reducible refine LeO.bind ?_ (fun _=>?_))
  | exact ih0 _ _ _ _
  | exact LeO.none _
  | refine LeO.ite ?_ ?_
  | refine LeO.bind ?_ (fun _=>?_)
theorem impl_copyArena.mono : ∀ a0 k,LeO (impl_copyArena.f k a0) (impl_copyArena.f (k + 1) a0):=by
 intro a0 k;have ih0:=impl_copyArena.mono_l k;unfold impl_copyArena.f
 repeat' first
   | (with_reducible exact ih0 _ _ _ _)
   | (with_reducible exact LeO.refl _)
   | (with_reducible exact LeO.none _)
   | (with_reducible refine LeO.ite ?_ ?_)
   | (with_reducible refine LeO.bind ?_ (fun _=>?_))
   | exact ih0 _ _ _ _
   | exact LeO.none _
   | refine LeO.ite ?_ ?_
   | refine LeO.bind ?_ (fun _=>?_)
set_option maxHeartbeats 8000000 in
set_option maxRecDepth 100000 in
theorem impl_copyArena.calls (k : Nat) (A0_0 : Option Addr) (c0_0 : Nat) (l0_0 : List (S47)) (r : List (S47)) (w : World) (hr0_0 : Kd.C k47 w A0_0 l0_0.length l0_0) (hc0_0 : l0_0.length ≤ c0_0) (h : impl_copyArena.f k l0_0 = some r) :
  Calls Try.prog 23 #[.agg #[.slice A0_0 l0_0.length c0_0]] w fun e w'=>∃ v0_ : Value,e = .returned (.agg #[v0_]) ∧ Kd.S k47 47 w' w.heap.size (fun _=>True) v0_ r ∧ Below w.heap.size w w':=by
 have hu26:=Try.underlying26;have hu47:=Try.underlying47;have HR0_0:=zMk hr0_0;have HC0_0:=zMk hc0_0;clear hr0_0 hc0_0;have HB:=zMk (Below.refl w.heap.size w);have H : (impl_copyArena.l0 k l0_0 (l0_0.length : Int) 0 ([] : List (S47))) = some r:=h;clear h;have H':=zMk H;clear H
 go_enter Try.func23,Try.ntmps23
 go_wp2_with (first | ((with_reducible refine gate_dst (N:=1) rfl ?_);refine box_event ?hg (N:=1) ?hd (cs:=#[.slice A0_0 l0_0.length c0_0]) (t:=26) ?hr ?_;(case hd=>rfl);(case hg=>rfl);(case hr=>first | (go_simp;done) | (go_simp;rfl));intro gb207 hg w2 hbox hb;have n0_:=zMk (below_step (hs HB) hb);have n1_:=zMk (hbox);have n2_:=zMk ((by rw [hg];exact (below_size (hs HB)) : w.heap.size ≤ gb207));have n3_:=zMk ((by rw [hg];exact (below_size (hs HB)) : w.heap.size ≤ gb207));clear HB;have HB:=n0_;have BK207:=n1_;have GW207:=n2_;have GE207:=n3_;clear n0_ n1_ n2_ n3_;clear hb hbox hg) | ((with_reducible refine gate_dst (N:=2) rfl ?_);refine box_event ?hg (N:=2) ?hd (cs:=#[.slice none 0 0]) (t:=26) ?hr ?_;(case hd=>rfl);(case hg=>rfl);(case hr=>first | (go_simp;done) | (go_simp;rfl));intro gb208 hg w3 hbox hb;have n0_:=zMk (blk_below (g:=gb207) (o:=.cells #[.slice A0_0 l0_0.length c0_0] 26 (0,0)) (bs BK207) hb);have n1_:=zMk (below_step (hs1 HB GE207) hb);have n2_:=zMk (hbox);have n3_:=zMk ((by rw [hg];exact (below_size (hs1 HB GE207)) : w.heap.size ≤ gb208));have n4_:=zMk ((by rw [hg];exact (below_size (hs1 HB GE207)) : w.heap.size ≤ gb208));have n5_:=zMk ((by rw [hg];exact Nat.ne_of_lt (blk_lt (g:=gb207) (o:=.cells #[.slice A0_0 l0_0.length c0_0] 26 (0,0)) (bs BK207)) : gb207 ≠ gb208));have n6_:=zMk ((by rw [hg];exact Nat.ne_of_gt (blk_lt (g:=gb207) (o:=.cells #[.slice A0_0 l0_0.length c0_0] 26 (0,0)) (bs BK207)) : gb208 ≠ gb207));clear BK207;clear HB;have BK207:=n0_;have HB:=n1_;have BK208:=n2_;have GW208:=n3_;have GE208:=n4_;have NB207_208:=n5_;have NB208_207:=n6_;clear n0_ n1_ n2_ n3_ n4_ n5_ n6_;clear hb hbox hg) | ((with_reducible refine gate_dst (N:=3) rfl ?_);refine box_event ?hg (N:=3) ?hd (cs:=#[.slice none 0 0]) (t:=26) ?hr ?_;(case hd=>rfl);(case hg=>rfl);(case hr=>first | (go_simp;done) | (go_simp;rfl));intro gb209 hg w4 hbox hb;have n0_:=zMk (blk_below (g:=gb207) (o:=.cells #[.slice A0_0 l0_0.length c0_0] 26 (0,0)) (bs BK207) hb);have n1_:=zMk (blk_below (g:=gb208) (o:=.cells #[.slice none 0 0] 26 (0,0)) (bs BK208) hb);have n2_:=zMk (below_step (hs2 HB GE207 GE208) hb);have n3_:=zMk (hbox);have n4_:=zMk ((by rw [hg];exact (below_size (hs2 HB GE207 GE208)) : w.heap.size ≤ gb209));have n5_:=zMk ((by rw [hg];exact (below_size (hs2 HB GE207 GE208)) : w.heap.size ≤ gb209));have n6_:=zMk ((by rw [hg];exact Nat.ne_of_lt (blk_lt (g:=gb207) (o:=.cells #[.slice A0_0 l0_0.length c0_0] 26 (0,0)) (bs BK207)) : gb207 ≠ gb209));have n7_:=zMk ((by rw [hg];exact Nat.ne_of_gt (blk_lt (g:=gb207) (o:=.cells #[.slice A0_0 l0_0.length c0_0] 26 (0,0)) (bs BK207)) : gb209 ≠ gb207));have n8_:=zMk ((by rw [hg];exact Nat.ne_of_lt (blk_lt (g:=gb208) (o:=.cells #[.slice none 0 0] 26 (0,0)) (bs BK208)) : gb208 ≠ gb209));have n9_:=zMk ((by rw [hg];exact Nat.ne_of_gt (blk_lt (g:=gb208) (o:=.cells #[.slice none 0 0] 26 (0,0)) (bs BK208)) : gb209 ≠ gb208));clear BK207;clear BK208;clear HB;have BK207:=n0_;have BK208:=n1_;have HB:=n2_;have BK209:=n3_;have GW209:=n4_;have GE209:=n5_;have NB207_209:=n6_;have NB209_207:=n7_;have NB208_209:=n8_;have NB209_208:=n9_;clear n0_ n1_ n2_ n3_ n4_ n5_ n6_ n7_ n8_ n9_;clear hb hbox hg;have hnb5:=NB207_208.out;have hnc5:=NB208_207.out;have hnb6:=NB207_209.out;have hnc6:=NB209_207.out;have hcz7_0 : w4.cell? ⟨gb207,0,none⟩ = some (.slice A0_0 l0_0.length c0_0):=(zCl BK207.out 0).trans rfl;have hfz7_0:=zFr BK207.out 0));go_loopg [9] k (fun kq v9 w'=>∃ (x9_1 : Int) (x210000_1 : List (S47)) (u210000 : Value),v9 = .int .i64 x9_1 ∧ Aside0 (impl_copyArena.l0 kq l0_0 (l0_0.length : Int) x9_1 x210000_1 = some r) ∧ Aside0 (kq ≤ k) ∧ Aside0 (Kd.S k47 47 w' w.heap.size (fun _=>True) u210000 x210000_1) ∧ Aside0 (w'.heap[gb207]? = some (.cells #[(.slice A0_0 l0_0.length c0_0)] 26 (0,0))) ∧ Aside0 (w'.heap[gb208]? = some (.cells #[(.slice none 0 0)] 26 (0,0))) ∧ Aside0 (w'.heap[gb209]? = some (.cells #[u210000] 26 (0,0))) ∧ Aside0 (Below w.heap.size w w'));case atStart=>exact ⟨(0),(([] : List (S47))),(.slice none 0 0),(by first | rfl | (simp;done) | (simp [*];done)),H',⟨Nat.le_refl _⟩,⟨by first | exact Kd.S_nil _ _ _ _ _ | exact Kd.N_nil _ _ _ _ _ | exact Kd.V_nil _ _ _ _ _ | exact Kd.Q_nil _ _ _ _ _ | exact Kd.R_nil _ _ _ _ _⟩,⟨bs BK207⟩,⟨bs BK208⟩,⟨bs BK209⟩,⟨hs3 HB GE207 GE208 GE209⟩⟩
 case round =>
  clear H'
  try clear c2
  try clear p2
  try clear c5
  try clear c6
  try clear hcz7_0
  try clear hfz7_0
  obtain ⟨x9_1,x210000_1,u210000,rfl,HA,HK1,HO_210000,BK207,BK208,BK209,HB⟩:=hrel;cases gk with
  | zero=>exact absurd HA.out (by simp [impl_copyArena.l0])
  | succ k1 =>
   have H:=HA.out;clear HA;simp only [impl_copyArena.l0] at H
   by_cases c8 : x9_1 < (l0_0.length : Int)
   ·rw [if_pos c8] at H;have c8b0 : decide (x9_1 < (l0_0.length : Int)) = true:=decide_eq_true c8;clear c8
    by_cases c9 : 0 ≤ x9_1
    ·rw [if_pos c9] at H;have c9b0 : decide (0 ≤ x9_1) = true:=decide_eq_true c9;clear c9
     by_cases c10 : x9_1 < (l0_0.length : Int)
     ·rw [if_pos c10] at H;have c10b0 : decide (x9_1 < (l0_0.length : Int)) = true:=decide_eq_true c10;clear c10;replace H:=Option.bind_eq_some_iff.mp H;obtain ⟨t212,A110,H⟩:=H;replace H : (if x210000_1.length < 4398046511104 then (impl_copyArena.l0 k1 l0_0 (l0_0.length : Int) (wrap64 (x9_1 + 1)) (x210000_1 ++ [(⟨(rd_T47 l0_0 x9_1).f0,t212⟩ : S47)])) else (none)) = some r:=H;have A11:=zMk A110;clear A110
      by_cases c12 : x210000_1.length < 4398046511104
      ·rw [if_pos c12] at H;have LMc12:=zMk c12;clear c12;obtain ⟨y215,hy215⟩ : ∃ y_ : List (S47),y_ = (x210000_1 ++ [(⟨(rd_T47 l0_0 x9_1).f0,t212⟩ : S47)]):=⟨_,rfl⟩;replace H : (impl_copyArena.l0 k1 l0_0 (l0_0.length : Int) (wrap64 (x9_1 + 1)) y215) = some r:=by first | (rw [hy215];with_reducible exact H) | (have H2_:=(Option.bind_some _ _).symm.trans H;rw [hy215];with_reducible exact H2_) | (have H2_:=(Option.bind_some _ _).symm.trans H;with_reducible exact H2_) | with_reducible exact H | (rw [hy215];exact H) | exact H
       have Ny215:=zMk hy215;clear hy215;have H':=zMk H;clear H;have p210 : 0 ≤ (x9_1 : Int):=of_decide_eq_true (by first | (with_reducible assumption) | assumption);have q210 : x9_1 < (l0_0.length : Int):=of_decide_eq_true (by first | (with_reducible assumption) | assumption);obtain ⟨ad210,A210_1,c210_1,e210,hx210_0,hx210_1,hl210_1,hi210_1⟩:=at_T47 HR0_0.out x9_1 p210 q210;cases e210;replace hx210_0:=(HB.out.cell (World.block_lt_of_cell? w _ hx210_0)).trans hx210_0;replace hx210_1:=(HB.out.cell (World.block_lt_of_cell? w _ hx210_1)).trans hx210_1;have HR210_1:=zMk hi210_1;have HC210_1:=zMk hl210_1;clear hi210_1 hl210_1;replace p210:=eq_true p210;replace q210:=eq_true q210;go_wp2_with (first | ((with_reducible refine gate_dst (N:=5) rfl ?_);refine box_event ?hg (N:=5) ?hd (cs:=#[.bool false,.slice none 0 0]) (t:=47) ?hr ?_;(case hd=>rfl);(case hg=>rfl);(case hr=>first | (go_simp;done) | (go_simp;rfl));intro gb211 hg w13 hbox hb;have n0_:=zMk (Kd.S_below (Kd.S_elderB (ss HO_210000) gb211 (Nat.le_of_eq hg.symm)) hb);have n1_:=zMk (blk_below (g:=gb207) (o:=.cells #[.slice (some ad210) l0_0.length c0_0] 26 (0,0)) (bs BK207) hb);have n2_:=zMk (blk_below (g:=gb208) (o:=.cells #[.slice none 0 0] 26 (0,0)) (bs BK208) hb);have n3_:=zMk (blk_below (g:=gb209) (o:=.cells #[u210000] 26 (0,0)) (bs BK209) hb);have n4_:=zMk (below_step (hs3 HB GE207 GE208 GE209) hb);have n5_:=zMk (hbox);have n6_:=zMk ((by rw [hg];exact (below_size (hs3 HB GE207 GE208 GE209)) : w.heap.size ≤ gb211));have n7_:=zMk ((by rw [hg];exact (below_size (hs3 HB GE207 GE208 GE209)) : w.heap.size ≤ gb211));have n8_:=zMk ((by rw [hg];exact Nat.ne_of_lt (blk_lt (g:=gb207) (o:=.cells #[.slice (some ad210) l0_0.length c0_0] 26 (0,0)) (bs BK207)) : gb207 ≠ gb211));have n9_:=zMk ((by rw [hg];exact Nat.ne_of_gt (blk_lt (g:=gb207) (o:=.cells #[.slice (some ad210) l0_0.length c0_0] 26 (0,0)) (bs BK207)) : gb211 ≠ gb207));have n10_:=zMk ((by rw [hg];exact Nat.ne_of_lt (blk_lt (g:=gb208) (o:=.cells #[.slice none 0 0] 26 (0,0)) (bs BK208)) : gb208 ≠ gb211));have n11_:=zMk ((by rw [hg];exact Nat.ne_of_gt (blk_lt (g:=gb208) (o:=.cells #[.slice none 0 0] 26 (0,0)) (bs BK208)) : gb211 ≠ gb208));have n12_:=zMk ((by rw [hg];exact Nat.ne_of_lt (blk_lt (g:=gb209) (o:=.cells #[u210000] 26 (0,0)) (bs BK209)) : gb209 ≠ gb211));have n13_:=zMk ((by rw [hg];exact Nat.ne_of_gt (blk_lt (g:=gb209) (o:=.cells #[u210000] 26 (0,0)) (bs BK209)) : gb211 ≠ gb209));clear HO_210000;clear BK207;clear BK208;clear BK209;clear HB;have HO_210000:=n0_;have BK207:=n1_;have BK208:=n2_;have BK209:=n3_;have HB:=n4_;have BK211:=n5_;have GW211:=n6_;have GE211:=n7_;have NB207_211:=n8_;have NB211_207:=n9_;have NB208_211:=n10_;have NB211_208:=n11_;have NB209_211:=n12_;have NB211_209:=n13_;clear n0_ n1_ n2_ n3_ n4_ n5_ n6_ n7_ n8_ n9_ n10_ n11_ n12_ n13_;clear hb hbox hg;have hnb14:=NB211_207.out;have hnc14:=NB207_211.out;have hnb15:=NB211_208.out;have hnc15:=NB208_211.out;have hnb16:=NB211_209.out;have hnc16:=NB209_211.out;have hcz17_0 : w13.cell? ⟨gb211,0,none⟩ = some (.bool false):=(zCl BK211.out 0).trans rfl;have hcz17_1 : w13.cell? ⟨gb211,1,none⟩ = some (.slice none 0 0):=(zCl BK211.out 1).trans rfl;have hfz17_0:=zFr BK211.out 0;have hfz17_1:=zFr BK211.out 1) | ((with_reducible refine gate_callee (f:=26) rfl ?_);refine goesL_ (some 15) rfl rfl Try.func26 (by kernel_rfl) rfl #[.slice A210_1 ((rd_T47 l0_0 x9_1).f1).length c210_1] rfl (by (try simp only [List.map_toArray,List.map_cons,List.map_nil]);first | done | rfl | (simp only [List.length_drop,List.length_take];rfl)) ?_;(with_reducible refine (impl_copyInts.calls _ _ ((rd_T47 l0_0 x9_1).f1) t212 _ ?side1 ?side2 A11.out).mono ?_);(case side1=>exact Kd.C_below HR210_1.out (hs4 HB GE207 GE208 GE209 GE211));(case side2=>exact HC210_1.out);rintro e w18 ⟨v213,rfl,ho0,hb⟩;refine ⟨_,rfl,?_⟩;have n0_:=zMk (Kd.S_elder' (by (with_reducible repeat (first | apply Kd.S_alloc | apply Kd.S_drewN | apply Kd.S_drew));exact (Kd.S_mono (Kd.S_far (p:=⟨gb211,1,none⟩) (Kd.S_far (p:=⟨gb211,0,none⟩) (Kd.S_mono HO_210000.out (fun k_ hk=>(⟨hk,hk.2⟩ : _ ∧ k_ ≠ gb211))) (fun _ hk=>hk.2) (.bool ((rd_T47 l0_0 x9_1).f0))) (fun _ hk=>hk.2) (.slice A210_1 ((rd_T47 l0_0 x9_1).f1).length c210_1)) (fun _ h_=>h_.1))) (Kd.R_base ho0) hb);have n1_:=zMk (Kd.R_lower ho0 (below_size (hs4 HB GE207 GE208 GE209 GE211)));have n2_:=zMk (blk_below (g:=gb207) (o:=.cells #[.slice (some ad210) l0_0.length c0_0] 26 (0,0)) (by (with_reducible repeat (first | refine blk_drewN ?_ _ | refine blk_drew ?_ | refine blk_alloc ?_ _));refine blk_far ?_ NB207_211.out _;(with_reducible repeat (first | refine blk_drewN ?_ _ | refine blk_drew ?_ | refine blk_alloc ?_ _));refine blk_far ?_ NB207_211.out _;(with_reducible repeat (first | refine blk_drewN ?_ _ | refine blk_drew ?_ | refine blk_alloc ?_ _));exact BK207.out) hb);have n3_:=zMk (blk_below (g:=gb208) (o:=.cells #[.slice none 0 0] 26 (0,0)) (by (with_reducible repeat (first | refine blk_drewN ?_ _ | refine blk_drew ?_ | refine blk_alloc ?_ _));refine blk_far ?_ NB208_211.out _;(with_reducible repeat (first | refine blk_drewN ?_ _ | refine blk_drew ?_ | refine blk_alloc ?_ _));refine blk_far ?_ NB208_211.out _;(with_reducible repeat (first | refine blk_drewN ?_ _ | refine blk_drew ?_ | refine blk_alloc ?_ _));exact BK208.out) hb);have n4_:=zMk (blk_below (g:=gb209) (o:=.cells #[u210000] 26 (0,0)) (by (with_reducible repeat (first | refine blk_drewN ?_ _ | refine blk_drew ?_ | refine blk_alloc ?_ _));refine blk_far ?_ NB209_211.out _;(with_reducible repeat (first | refine blk_drewN ?_ _ | refine blk_drew ?_ | refine blk_alloc ?_ _));refine blk_far ?_ NB209_211.out _;(with_reducible repeat (first | refine blk_drewN ?_ _ | refine blk_drew ?_ | refine blk_alloc ?_ _));exact BK209.out) hb);have n5_:=zMk (blk_below (g:=gb211) (o:=.cells #[.bool ((rd_T47 l0_0 x9_1).f0),.slice A210_1 ((rd_T47 l0_0 x9_1).f1).length c210_1] 47 (0,0)) (by (with_reducible repeat (first | refine blk_drewN ?_ _ | refine blk_drew ?_ | refine blk_alloc ?_ _));refine blk_put (cs:=#[.bool ((rd_T47 l0_0 x9_1).f0),.slice none 0 0]) ?_ 1 _ rfl;(with_reducible repeat (first | refine blk_drewN ?_ _ | refine blk_drew ?_ | refine blk_alloc ?_ _));refine blk_put (cs:=#[.bool false,.slice none 0 0]) ?_ 0 _ rfl;(with_reducible repeat (first | refine blk_drewN ?_ _ | refine blk_drew ?_ | refine blk_alloc ?_ _));exact BK211.out) hb);have n6_:=zMk (below_step (hs4 HB GE207 GE208 GE209 GE211) hb);clear HO_210000;clear BK207;clear BK208;clear BK209;clear BK211;clear HB;have HO_210000:=n0_;have HO214:=n1_;have BK207:=n2_;have BK208:=n3_;have BK209:=n4_;have BK211:=n5_;have HB:=n6_;clear n0_ n1_ n2_ n3_ n4_ n5_ n6_;(try clear hb);(try clear hb2);(try clear hk);(try clear hi);(try clear ho0);obtain ⟨Ao19,co19,eo19⟩:=Kd.R_slice HO214.out;subst eo19;have hcz20_0 : w18.cell? ⟨gb211,0,none⟩ = some (.bool ((rd_T47 l0_0 x9_1).f0)):=(zCl BK211.out 0).trans rfl;have hcz20_1 : w18.cell? ⟨gb211,1,none⟩ = some (.slice A210_1 ((rd_T47 l0_0 x9_1).f1).length c210_1):=(zCl BK211.out 1).trans rfl;have hfz20_0:=zFr BK211.out 0;have hfz20_1:=zFr BK211.out 1) | ((with_reducible refine gate_store (t:=27) (p:=16) rfl ?_);refine store_event (t:=27) (p:=16) (v:=?vo_w21) (w1:=(w18.setCell ⟨gb211,1,none⟩ (.slice Ao19 t212.length co19))) ?hg ?ho ?hn ?hr ?_;(case ho=>rfl);(case hg=>rfl);(case hn=>rfl);(case hr=>first | (go_simp;done) | (go_simp;rfl));intro w21 hw;have n0_ : Aside0 (Kd.S k47 47 w21 w.heap.size (fun k_=>some k_ ≠ (.slice Ao19 t212.length co19 : Value).ownBlock ∧ k_ ≠ gb211) u210000 x210000_1):=⟨(by rw [hw];exact (by (with_reducible repeat (first | apply Kd.S_alloc | apply Kd.S_drewN | apply Kd.S_drew));exact Kd.S_mono (Kd.S_far (p:=⟨gb211,1,none⟩) (Kd.S_mono HO_210000.out (fun k_ hk=>(⟨hk,hk.1.2⟩ : _ ∧ k_ ≠ gb211))) (fun _ hk=>hk.2) (.slice Ao19 t212.length co19)) (fun _ hk=>⟨hk.1.2,hk.1.1.2⟩)))⟩;have n1_ : Aside0 (Kd.R (Kd.int .i64) 3 w21 w.heap.size (fun _=>True) (.slice Ao19 t212.length co19) t212):=⟨(by rw [hw];exact (by (with_reducible repeat (first | apply Kd.R_alloc | apply Kd.R_drewN | apply Kd.R_drew));exact Kd.R_mono (Kd.R_far (p:=⟨gb211,1,none⟩) (Kd.R_types HO214.out BK211.out (by decide)) (fun _ hk=>hk.2) (.slice Ao19 t212.length co19)) (fun _ hk=>trivial)))⟩;have n2_ : Aside0 (w21.heap[gb207]? = some (.cells #[.slice (some ad210) l0_0.length c0_0] 26 (0,0))):=⟨(by rw [hw];exact (by (with_reducible repeat (first | refine blk_drewN ?_ _ | refine blk_drew ?_ | refine blk_alloc ?_ _));refine blk_far ?_ NB207_211.out _;(with_reducible repeat (first | refine blk_drewN ?_ _ | refine blk_drew ?_ | refine blk_alloc ?_ _));exact BK207.out))⟩;have n3_ : Aside0 (w21.heap[gb208]? = some (.cells #[.slice none 0 0] 26 (0,0))):=⟨(by rw [hw];exact (by (with_reducible repeat (first | refine blk_drewN ?_ _ | refine blk_drew ?_ | refine blk_alloc ?_ _));refine blk_far ?_ NB208_211.out _;(with_reducible repeat (first | refine blk_drewN ?_ _ | refine blk_drew ?_ | refine blk_alloc ?_ _));exact BK208.out))⟩;have n4_ : Aside0 (w21.heap[gb209]? = some (.cells #[u210000] 26 (0,0))):=⟨(by rw [hw];exact (by (with_reducible repeat (first | refine blk_drewN ?_ _ | refine blk_drew ?_ | refine blk_alloc ?_ _));refine blk_far ?_ NB209_211.out _;(with_reducible repeat (first | refine blk_drewN ?_ _ | refine blk_drew ?_ | refine blk_alloc ?_ _));exact BK209.out))⟩;have n5_ : Aside0 (w21.heap[gb211]? = some (.cells #[.bool ((rd_T47 l0_0 x9_1).f0),.slice Ao19 t212.length co19] 47 (0,0))):=⟨(by rw [hw];exact (by (with_reducible repeat (first | refine blk_drewN ?_ _ | refine blk_drew ?_ | refine blk_alloc ?_ _));refine blk_put (cs:=#[.bool ((rd_T47 l0_0 x9_1).f0),.slice A210_1 ((rd_T47 l0_0 x9_1).f1).length c210_1]) ?_ 1 _ rfl;(with_reducible repeat (first | refine blk_drewN ?_ _ | refine blk_drew ?_ | refine blk_alloc ?_ _));exact BK211.out))⟩;have n6_ : Aside0 (Below w.heap.size w w21):=⟨(by rw [hw];exact (hs4 HB GE207 GE208 GE209 GE211))⟩;clear hw;clear HO_210000;clear HO214;clear BK207;clear BK208;clear BK209;clear BK211;clear HB;have HO_210000:=n0_;have HO214:=n1_;have BK207:=n2_;have BK208:=n3_;have BK209:=n4_;have BK211:=n5_;have HB:=n6_;clear n0_ n1_ n2_ n3_ n4_ n5_ n6_;have hnb22:=NB209_207.out;have hnc22:=NB207_209.out;have hnb23:=NB209_208.out;have hnc23:=NB208_209.out;have hcz24_0 : w21.cell? ⟨gb209,0,none⟩ = some (u210000):=(zCl BK209.out 0).trans rfl;have hfz24_0:=zFr BK209.out 0;have hcz25_0 : w21.cell? ⟨gb211,0,none⟩ = some (.bool ((rd_T47 l0_0 x9_1).f0)):=(zCl BK211.out 0).trans rfl;have hcz25_1 : w21.cell? ⟨gb211,1,none⟩ = some (.slice Ao19 t212.length co19):=(zCl BK211.out 1).trans rfl;have hfz25_0:=zFr BK211.out 0;have hfz25_1:=zFr BK211.out 1) | ((with_reducible refine gate_builtin (b:=.append) (xs:=#[.tmp 18,.tmp 20]) rfl ?_);at_builtin;refine Kd.S_append k47 (w0:=w) w.heap.size rfl (.tmp 18) (.tmp 20) 24 47 (.agg #[(.bool false),(.slice none 0 0)]) 32 rfl Try.underlying24 info47 rfl (by decide) (by omega) u210000 x210000_1 (⟨(rd_T47 l0_0 x9_1).f0,t212⟩ : S47) [.bool ((rd_T47 l0_0 x9_1).f0),.slice Ao19 t212.length co19] (fun k_=>k_ ≠ gb211) (fun k_=>some k_ = (.slice Ao19 t212.length co19 : Value).ownBlock) rfl rfl ?aP (fun k_ hk_=>((Kd.R_mono (ok':=fun k_=>((fun k_=>k_ ≠ gb211)) k_ ∧ some k_ ≠ (u210000 : Value).ownBlock) (Kd.R_types (Kd.R_apart' (HO214.out) (Kd.S_typed HO_210000.out) (by decide)) BK211.out (by decide)) (fun k_ hk=>⟨hk.2,hk.1.2⟩))).1 k_ hk_.symm) ?aF ?aO ?aB ?aS ?aL ?_;(case aP=>exact k47_mkM _ _ _ (⟨(rd_T47 l0_0 x9_1).f0,t212⟩ : S47) (Kd.R_mono (Kd.R_tight rfl (Kd.R_mono (ok':=fun k_=>((fun k_=>k_ ≠ gb211)) k_ ∧ some k_ ≠ (u210000 : Value).ownBlock) (Kd.R_types (Kd.R_apart' (HO214.out) (Kd.S_typed HO_210000.out) (by decide)) BK211.out (by decide)) (fun k_ hk=>⟨hk.2,hk.1.2⟩))) (fun _ h_=>h_)));(case aB=>exact (hs4 HB GE207 GE208 GE209 GE211));(case aF=>exact (fun k_ hk=>Kd.freshB (g:=gb211) (o:=.cells #[.bool ((rd_T47 l0_0 x9_1).f0),.slice Ao19 t212.length co19] 47 (0,0)) (bs BK211) k_ hk));(case aO=>exact (by (with_reducible repeat (first | apply Kd.S_alloc | apply Kd.S_drewN | apply Kd.S_drew));exact Kd.S_mono HO_210000.out (fun k_ hk=>⟨hk.2,fun e_=>hk.1 e_⟩)));(case aS=>exact (below_size (hs4 HB GE207 GE208 GE209 GE211)));(case aL=>have:=LMc12.out;omega);intro v216 w26 ho hb hg hat;rw [← Ny215.out] at ho;have n0_:=zMk (blk_grown (g:=gb207) (o:=.cells #[.slice (some ad210) l0_0.length c0_0] 26 (0,0)) (bs BK207) hg (Kd.S_ne HO_210000.out BK207.out (by decide)));have n1_:=zMk (blk_grown (g:=gb208) (o:=.cells #[.slice none 0 0] 26 (0,0)) (bs BK208) hg (Kd.S_ne HO_210000.out BK208.out (by decide)));have n2_:=zMk (blk_grown (g:=gb209) (o:=.cells #[u210000] 26 (0,0)) (bs BK209) hg (Kd.S_ne HO_210000.out BK209.out (by decide)));have n3_:=zMk (blk_grown (g:=gb211) (o:=.cells #[.bool ((rd_T47 l0_0 x9_1).f0),.slice Ao19 t212.length co19] 47 (0,0)) (bs BK211) hg (Kd.S_away HO_210000.out (fun _ hk=>hk.2)));have n4_:=zMk (hb);have n5_:=zMk (ho);clear BK207;clear BK208;clear BK209;clear BK211;clear HB;clear HO_210000;clear HO214;have BK207:=n0_;have BK208:=n1_;have BK209:=n2_;have BK211:=n3_;have HB:=n4_;have HO217:=n5_;clear n0_ n1_ n2_ n3_ n4_ n5_;clear ho hb hg hat;obtain ⟨Ao27,co27,eo27⟩:=Kd.S_slice HO217.out;subst eo27;have hcz28_0 : w26.cell? ⟨gb209,0,none⟩ = some (u210000):=(zCl BK209.out 0).trans rfl;have hfz28_0:=zFr BK209.out 0));go_roundg k1;case measure=>have:=HK1.out;omega
       case rel=>exact ⟨(wrap64 (x9_1 + 1)),(y215),(.slice Ao27 y215.length co27),(by first | rfl | (simp;done) | (simp [*];done)),H',⟨by have:=HK1.out;omega⟩,⟨by (with_reducible repeat (first | apply Kd.S_alloc | apply Kd.S_drewN | apply Kd.S_drew));exact Kd.S_mono (Kd.S_far (p:=⟨gb209,0,none⟩) (Kd.S_types HO217.out BK209.out (by decide)) (fun _ hk=>hk.2) (.slice Ao27 y215.length co27)) (fun _ hk=>trivial)⟩,⟨by (with_reducible repeat (first | refine blk_drewN ?_ _ | refine blk_drew ?_ | refine blk_alloc ?_ _));refine blk_far ?_ NB207_209.out _;(with_reducible repeat (first | refine blk_drewN ?_ _ | refine blk_drew ?_ | refine blk_alloc ?_ _));exact BK207.out⟩,⟨by (with_reducible repeat (first | refine blk_drewN ?_ _ | refine blk_drew ?_ | refine blk_alloc ?_ _));refine blk_far ?_ NB208_209.out _;(with_reducible repeat (first | refine blk_drewN ?_ _ | refine blk_drew ?_ | refine blk_alloc ?_ _));exact BK208.out⟩,⟨by (with_reducible repeat (first | refine blk_drewN ?_ _ | refine blk_drew ?_ | refine blk_alloc ?_ _));refine blk_put (cs:=#[u210000]) ?_ 0 _ rfl;(with_reducible repeat (first | refine blk_drewN ?_ _ | refine blk_drew ?_ | refine blk_alloc ?_ _));exact BK209.out⟩,⟨hs4 HB GE207 GE208 GE209 GE211⟩⟩
      rw [if_neg c12] at H;exact absurd H (by simp)
     rw [if_neg c10] at H;exact absurd H (by simp)
    rw [if_neg c9] at H;exact absurd H (by simp)
   rw [if_neg c8] at H;have c8b0 : decide (x9_1 < (l0_0.length : Int)) = false:=decide_eq_false c8;clear c8;obtain rfl:=Option.some.inj H;have hnb29:=NB209_207.out;have hnc29:=NB207_209.out;have hnb30:=NB209_208.out;have hnc30:=NB208_209.out;have hcz31_0 : wr.cell? ⟨gb209,0,none⟩ = some (u210000):=(zCl BK209.out 0).trans rfl;have hfz31_0:=zFr BK209.out 0;obtain ⟨Ao32,co32,eo32⟩:=Kd.S_slice HO_210000.out;subst eo32;have hnb33:=NB208_207.out;have hnc33:=NB207_208.out;have hcz34_0 : wr.cell? ⟨gb208,0,none⟩ = some (.slice none 0 0):=(zCl BK208.out 0).trans rfl;have hfz34_0:=zFr BK208.out 0
   go_wp2
   refine bodyPost_ret (results_cell_row rfl _ _ gb208 26 #[.slice Ao32 x210000_1.length co32] (0,0) _ rfl (by (with_reducible repeat (first | refine blk_drewN ?_ _ | refine blk_drew ?_ | refine blk_alloc ?_ _));refine blk_put (cs:=#[.slice none 0 0]) ?_ 0 _ rfl;(with_reducible repeat (first | refine blk_drewN ?_ _ | refine blk_drew ?_ | refine blk_alloc ?_ _));exact BK208.out) Try.underlying26 rfl (by kernel_rfl)) rfl ?_;exact ⟨_,by first | rfl | (simp [errW_none,errW_some] <;> rfl) | (simp [*,errW_none,errW_some] <;> rfl),by (with_reducible repeat (first | apply Kd.S_alloc | apply Kd.S_drewN | apply Kd.S_drew));exact Kd.S_mono (Kd.S_far (p:=⟨gb208,0,none⟩) (Kd.S_types HO_210000.out BK208.out (by decide)) (fun _ hk=>hk.2) (.slice Ao32 x210000_1.length co32)) (fun _ hk=>trivial),hs3 HB GE207 GE208 GE209⟩
end Go.Proofs.Ytjpjikhokpfhmaa.PT

namespace Go.Proofs.Ytjpjikhokpfhmaa.PT
open Go.RowKit Go.Proofs.YtjpjikhokpfhmaaW.PrintWords Go.Proofs.YtjpjikhokpfhmaaW.PrintLast Go.Proofs.YtjpjikhokpfhmaaW.PrintMore
attribute [local go_sem] max2_int min2_int max_two min_two max_three min_three max_four min_four   -- for this text's walks alone
set_option linter.unusedVariables false
set_option linter.unusedSimpArgs false
def impl_hasInt.l0 : Nat → Int → List Int → Int → Int → Option (Bool)
 | 0,_,_,_,_=>none
 | k + 1,x1,x7,x8,x9=>if x9 < x8 then (if 0 ≤ x9 then (if x9 < (x7.length : Int) then (if (rd x7 x9) = x1 then (some true) else (impl_hasInt.l0 k x1 x7 x8 (wrap64 (x9 + 1)))) else (none)) else (none)) else (some false)
def impl_hasInt.f (k : Nat) (l0 : List Int) (a1 : Int) : Option (Bool):=impl_hasInt.l0 k a1 l0 (l0.length : Int) 0
theorem impl_hasInt.mono_l : ∀ k,(∀ y0 y1 y2 y3,LeO (impl_hasInt.l0 k y0 y1 y2 y3) (impl_hasInt.l0 (k + 1) y0 y1 y2 y3))
 | 0=>fun _ _ _ _ r h=>by simp [impl_hasInt.l0] at h
 | k + 1=>by
  have ih0:=impl_hasInt.mono_l k;intro y0 y1 y2 y3;unfold impl_hasInt.l0
  repeat' first
  | (with_reducible exact ih0 _ _ _ _)
  | (with_reducible exact LeO.refl _)
  | (with_reducible exact LeO.none _)
  | (with_reducible refine LeO.ite ?_ ?_)
  | (with_reducible refine LeO.bind ?_ (fun _=>?_))
  | exact ih0 _ _ _ _
  | exact LeO.none _
  | refine LeO.ite ?_ ?_
  | refine LeO.bind ?_ (fun _=>?_)
theorem impl_hasInt.mono : ∀ a0 a1 k,LeO (impl_hasInt.f k a0 a1) (impl_hasInt.f (k + 1) a0 a1):=by
 intro a0 a1 k;have ih0:=impl_hasInt.mono_l k;unfold impl_hasInt.f
 repeat' first
   | (with_reducible exact ih0 _ _ _ _)
   | (with_reducible exact LeO.refl _)
   | (with_reducible exact LeO.none _)
   | (with_reducible refine LeO.ite ?_ ?_)
   | (with_reducible refine LeO.bind ?_ (fun _=>?_))
   | exact ih0 _ _ _ _
   | exact LeO.none _
   | refine LeO.ite ?_ ?_
   | refine LeO.bind ?_ (fun _=>?_)
set_option maxHeartbeats 8000000 in
set_option maxRecDepth 100000 in
theorem impl_hasInt.calls (k : Nat) (A0 : Option Addr) (c0 : Nat) (l0 : List Int) (a1 : Int) (r : Bool) (w : World) (hr0 : Kd.C (Kd.int .i64) w A0 l0.length l0) (hc0 : l0.length ≤ c0) (h : impl_hasInt.f k l0 a1 = some r) :
  Calls Try.prog 33 #[.slice A0 l0.length c0,.int .i64 a1] w fun e w'=>e = .returned (.bool r) ∧ Drawn0 w w':=by
 have HR0:=zMk hr0;have HC0:=zMk hc0;clear hr0 hc0;have H : (impl_hasInt.l0 k a1 l0 (l0.length : Int) 0) = some r:=h;clear h;have H':=zMk H;clear H
 go_enter Try.func33,Try.ntmps33
 go_wp2
 go_loopg [9] k (fun kq v9 w'=>∃ (x9_1 : Int),v9 = .int .i64 x9_1 ∧ Aside0 (impl_hasInt.l0 kq a1 l0 (l0.length : Int) x9_1 = some r) ∧ Aside0 (kq ≤ k) ∧ Drawn0 w w');case atStart=>exact ⟨(0),(by first | rfl | (simp;done) | (simp [*];done)),H',⟨Nat.le_refl _⟩,by repeat (first | exact Drawn0.refl _ | apply Drawn0.step)⟩
 case round =>
  clear H'
  try clear p2
  obtain ⟨x9_1,rfl,HA,HK1,⟨m1,rfl⟩⟩:=hrel;cases gk with
  | zero=>exact absurd HA.out (by simp [impl_hasInt.l0])
  | succ k1 =>
   have H:=HA.out;clear HA;simp only [impl_hasInt.l0] at H
   by_cases c3 : x9_1 < (l0.length : Int)
   ·rw [if_pos c3] at H;have c3b0 : decide (x9_1 < (l0.length : Int)) = true:=decide_eq_true c3;clear c3
    by_cases c4 : 0 ≤ x9_1
    ·rw [if_pos c4] at H;have c4b0 : decide (0 ≤ x9_1) = true:=decide_eq_true c4;clear c4
     by_cases c5 : x9_1 < (l0.length : Int)
     ·rw [if_pos c5] at H;have c5b0 : decide (x9_1 < (l0.length : Int)) = true:=decide_eq_true c5;clear c5
      by_cases c6 : (rd l0 x9_1) = a1
      ·rw [if_pos c6] at H;have c6b0 : ((rd l0 x9_1) == a1) = true:=beq_iff_eq.mpr c6;have c6b1 : ((rd l0 x9_1) != a1) = false:=bne_eq_false_iff_eq.mpr c6;clear c6;obtain rfl:=Option.some.inj H;have p256 : 0 ≤ (x9_1 : Int):=of_decide_eq_true (by first | (with_reducible assumption) | assumption);have q256 : x9_1 < (l0.length : Int):=of_decide_eq_true (by first | (with_reducible assumption) | assumption);obtain ⟨ad256,e256,hx256_0⟩:=Kd.at_int HR0.out x9_1 p256 q256;cases e256;replace p256:=eq_true p256;replace q256:=eq_true q256
       go_wp2
       go_ret
       exact ⟨by first | rfl | (simp;done) | (simp [*];done),by repeat (first | exact Drawn0.refl _ | apply Drawn0.step)⟩
      rw [if_neg c6] at H;have c6b0 : ((rd l0 x9_1) == a1) = false:=beq_eq_false_iff_ne.mpr c6;have c6b1 : ((rd l0 x9_1) != a1) = true:=bne_iff_ne.mpr c6;have H':=zMk H;clear H;have p256 : 0 ≤ (x9_1 : Int):=of_decide_eq_true (by first | (with_reducible assumption) | assumption);have q256 : x9_1 < (l0.length : Int):=of_decide_eq_true (by first | (with_reducible assumption) | assumption);obtain ⟨ad256,e256,hx256_0⟩:=Kd.at_int HR0.out x9_1 p256 q256;cases e256;replace p256:=eq_true p256;replace q256:=eq_true q256
      go_wp2
      go_roundg k1;case measure=>have:=HK1.out;omega
      case rel=>exact ⟨(wrap64 (x9_1 + 1)),(by first | rfl | (simp;done) | (simp [*];done)),H',⟨by have:=HK1.out;omega⟩,by repeat (first | exact Drawn0.refl _ | apply Drawn0.step)⟩
     rw [if_neg c5] at H;exact absurd H (by simp)
    rw [if_neg c4] at H;exact absurd H (by simp)
   rw [if_neg c3] at H;have c3b0 : decide (x9_1 < (l0.length : Int)) = false:=decide_eq_false c3;clear c3;obtain rfl:=Option.some.inj H
   go_wp2
   go_ret
   exact ⟨by first | rfl | (simp;done) | (simp [*];done),by repeat (first | exact Drawn0.refl _ | apply Drawn0.step)⟩
end Go.Proofs.Ytjpjikhokpfhmaa.PT

namespace Go.Proofs.Ytjpjikhokpfhmaa.PT
open Go.RowKit Go.Proofs.YtjpjikhokpfhmaaW.PrintWords Go.Proofs.YtjpjikhokpfhmaaW.PrintLast Go.Proofs.YtjpjikhokpfhmaaW.PrintMore
attribute [local go_sem] max2_int min2_int max_two min_two max_three min_three max_four min_four   -- for this text's walks alone
set_option linter.unusedVariables false
set_option linter.unusedSimpArgs false
def impl_knotsOf.l0 : Nat → List Int → List Int → Int → Int → List (S47) → Option (List Int)
 | 0,_,_,_,_,_=>none
 | k + 1,x5,x19,x20,x21,x258000=>if x21 < x20 then (if 0 ≤ x21 then (if x21 < (x19.length : Int) then ((impl_in.f (rd x19 x21) 0 (wrap64 ((x258000.length : Int) - 1))).bind fun t264=>(if t264 = true then ((impl_hasInt.f k x5 (rd x19 x21)).bind fun t265=>(if t265 = true then (impl_knotsOf.l0 k x5 x19 x20 (wrap64 (x21 + 1)) x258000) else (if x5.length < 17592186044416 then (impl_knotsOf.l0 k (x5 ++ [rd x19 x21]) x19 x20 (wrap64 (x21 + 1)) x258000) else (none)))) else (impl_knotsOf.l0 k x5 x19 x20 (wrap64 (x21 + 1)) x258000))) else (none)) else (none)) else (some x5)
def impl_knotsOf.f (k : Nat) (l0_0 : List (S47)) (a1 : Int) : Option (List Int):=(impl_isRoot.f l0_0 a1).bind fun t258=>(if t258 = true then (if 0 ≤ a1 then (if a1 < (l0_0.length : Int) then (impl_knotsOf.l0 k (([a1] : List Int)) ((rd_T47 l0_0 a1).f1) (((rd_T47 l0_0 a1).f1).length : Int) 0 l0_0) else (none)) else (none)) else (some ([] : List Int)))
theorem impl_knotsOf.mono_l : ∀ k,(∀ y0 y1 y2 y3 y4,LeO (impl_knotsOf.l0 k y0 y1 y2 y3 y4) (impl_knotsOf.l0 (k + 1) y0 y1 y2 y3 y4))
 | 0=>fun _ _ _ _ _ r h=>by simp [impl_knotsOf.l0] at h
 | k + 1=>by
  have ih0:=impl_knotsOf.mono_l k;intro y0 y1 y2 y3 y4;unfold impl_knotsOf.l0
  repeat' first
  | (with_reducible exact ih0 _ _ _ _ _)
  | (with_reducible exact impl_hasInt.mono _ _ _)
  | (with_reducible exact LeO.refl _)
  | (with_reducible exact LeO.none _)
  | (with_reducible refine LeO.ite ?_ ?_)
  | (with_reducible refine LeO.bind ?_ (fun _=>?_))
  | exact ih0 _ _ _ _ _
  | exact impl_hasInt.mono _ _ _
  | exact LeO.none _
  | refine LeO.ite ?_ ?_
  | refine LeO.bind ?_ (fun _=>?_)
theorem impl_knotsOf.mono : ∀ a0 a1 k,LeO (impl_knotsOf.f k a0 a1) (impl_knotsOf.f (k + 1) a0 a1):=by
 intro a0 a1 k;have ih0:=impl_knotsOf.mono_l k;unfold impl_knotsOf.f
 repeat' first
   | (with_reducible exact ih0 _ _ _ _ _)
   | (with_reducible exact impl_hasInt.mono _ _ _)
   | (with_reducible exact LeO.refl _)
   | (with_reducible exact LeO.none _)
   | (with_reducible refine LeO.ite ?_ ?_)
   | (with_reducible refine LeO.bind ?_ (fun _=>?_))
   | exact ih0 _ _ _ _ _
   | exact impl_hasInt.mono _ _ _
   | exact LeO.none _
   | refine LeO.ite ?_ ?_
   | refine LeO.bind ?_ (fun _=>?_)
set_option maxHeartbeats 8000000 in
set_option maxRecDepth 100000 in
theorem impl_knotsOf.calls (k : Nat) (A0_0 : Option Addr) (c0_0 : Nat) (l0_0 : List (S47)) (a1 : Int) (r : List Int) (w : World) (hr0_0 : Kd.C k47 w A0_0 l0_0.length l0_0) (hc0_0 : l0_0.length ≤ c0_0) (h : impl_knotsOf.f k l0_0 a1 = some r) :
  Calls Try.prog 32 #[.agg #[.slice A0_0 l0_0.length c0_0],.int .i64 a1] w fun e w'=>∃ v0_ : Value,e = .returned (v0_) ∧ Kd.R (Kd.int .i64) 3 w' w.heap.size (fun _=>True) v0_ r ∧ Below w.heap.size w w':=by
 have hu26:=Try.underlying26;have HR0_0:=zMk hr0_0;have HC0_0:=zMk hc0_0;clear hr0_0 hc0_0;have HB:=zMk (Below.refl w.heap.size w);have H : ((impl_isRoot.f l0_0 a1).bind fun t258=>(if t258 = true then (if 0 ≤ a1 then (if a1 < (l0_0.length : Int) then (impl_knotsOf.l0 k (([a1] : List Int)) ((rd_T47 l0_0 a1).f1) (((rd_T47 l0_0 a1).f1).length : Int) 0 l0_0) else (none)) else (none)) else (some ([] : List Int)))) = some r:=h;clear h;replace H:=Option.bind_eq_some_iff.mp H;obtain ⟨t258,A30,H⟩:=H;replace H : (if t258 = true then (if 0 ≤ a1 then (if a1 < (l0_0.length : Int) then (impl_knotsOf.l0 k (([a1] : List Int)) ((rd_T47 l0_0 a1).f1) (((rd_T47 l0_0 a1).f1).length : Int) 0 l0_0) else (none)) else (none)) else (some ([] : List Int))) = some r:=H;have A3:=zMk A30;clear A30
 by_cases c4 : t258 = true
 ·subst c4;have H1 : (if 0 ≤ a1 then (if a1 < (l0_0.length : Int) then (impl_knotsOf.l0 k (([a1] : List Int)) ((rd_T47 l0_0 a1).f1) (((rd_T47 l0_0 a1).f1).length : Int) 0 l0_0) else (none)) else (none)) = some r:=by rw [if_pos rfl] at H;exact H
  clear H;have H:=H1;clear H1;obtain ⟨y259,hy259⟩ : ∃ y_ : List Int,y_ = (([a1] : List Int)):=⟨_,rfl⟩;replace H : (if 0 ≤ a1 then (if a1 < (l0_0.length : Int) then (impl_knotsOf.l0 k y259 ((rd_T47 l0_0 a1).f1) (((rd_T47 l0_0 a1).f1).length : Int) 0 l0_0) else (none)) else (none)) = some r:=by first | (rw [hy259];with_reducible exact H) | (have H2_:=(Option.bind_some _ _).symm.trans H;rw [hy259];with_reducible exact H2_) | (have H2_:=(Option.bind_some _ _).symm.trans H;with_reducible exact H2_) | with_reducible exact H | (rw [hy259];exact H) | exact H
  have Ny259:=zMk hy259;clear hy259
  by_cases c5 : 0 ≤ a1
  ·rw [if_pos c5] at H;have c5b0 : decide (0 ≤ a1) = true:=decide_eq_true c5;clear c5
   by_cases c6 : a1 < (l0_0.length : Int)
   ·rw [if_pos c6] at H;have c6b0 : decide (a1 < (l0_0.length : Int)) = true:=decide_eq_true c6;clear c6;have H':=zMk H;clear H
    go_enter Try.func32,Try.ntmps32
    go_wp2_with (first | ((with_reducible refine gate_dst (N:=2) rfl ?_);refine box_event ?hg (N:=2) ?hd (cs:=#[.slice A0_0 l0_0.length c0_0]) (t:=26) ?hr ?_;(case hd=>rfl);(case hg=>rfl);(case hr=>first | (go_simp;done) | (go_simp;rfl));intro gb257 hg w7 hbox hb;have n0_:=zMk (below_step (hs HB) hb);have n1_:=zMk (hbox);have n2_:=zMk ((by rw [hg];exact (below_size (hs HB)) : w.heap.size ≤ gb257));have n3_:=zMk ((by rw [hg];exact (below_size (hs HB)) : w.heap.size ≤ gb257));clear HB;have HB:=n0_;have BK257:=n1_;have GW257:=n2_;have GE257:=n3_;clear n0_ n1_ n2_ n3_;clear hb hbox hg;have hcz8_0 : w7.cell? ⟨gb257,0,none⟩ = some (.slice A0_0 l0_0.length c0_0):=(zCl BK257.out 0).trans rfl;have hfz8_0:=zFr BK257.out 0) | ((with_reducible refine gate_callee (f:=24) rfl ?_);refine goesL_ (some 10) rfl rfl Try.func24 (by kernel_rfl) rfl #[.agg #[.slice A0_0 l0_0.length c0_0],.int .i64 a1] rfl (by (try simp only [List.map_toArray,List.map_cons,List.map_nil]);first | done | rfl | (simp only [List.length_drop,List.length_take];rfl)) ?_;(with_reducible refine (impl_isRoot.calls _ _ l0_0 a1 true _ ?side1 ?side2 A3.out).mono ?_);(case side1=>repeat (first | exact (Kd.C_below HR0_0.out HB.out) | (with_reducible refine Kd.C_alloc ?_ _) | (with_reducible refine Kd.C_drewN ?_ _) | (with_reducible refine Kd.C_drew ?_)));(case side2=>exact HC0_0.out);rintro e w9 ⟨rfl,hb⟩;refine ⟨_,rfl,?_⟩;have n0_:=zMk (blk_below (g:=gb257) (o:=.cells #[.slice A0_0 l0_0.length c0_0] 26 (0,0)) (bs BK257) hb);have n1_:=zMk (below_step (hs1 HB GE257) hb);clear BK257;clear HB;have BK257:=n0_;have HB:=n1_;clear n0_ n1_;(try clear hb);(try clear hb2);(try clear hk);(try clear hi)) | ((with_reducible refine gate_dst (N:=13) rfl ?_);refine Kd.R_lit (Kd.int .i64) _ 3 ?hg (N:=13) ?hd (xs:=([a1] : List Int)) (inner:=[.int .i64 a1]) (ok:=fun _=>True) (okp:=fun _=>True) ?hr ?hp (fun _ hk=>hk) trivial (Below.refl _ _) (Nat.le_refl _) (by simp) ?_;(case hd=>rfl);(case hg=>rfl);(case hr=>first | (go_simp;done) | (go_simp;rfl));(case hp=>exact (Reps.one (show Kd.M (Kd.int .i64) _ _ _ a1 [.int .i64 a1] from rfl) (Reps.none _ _)));intro v260 w10 ho11 hb hg_ hnew_;clear hg_ hnew_;(first | rw [← Ny259.out] at ho11 | (simp only [Int.reduceToNat] at ho11;rw [← Ny259.out] at ho11));have n0_:=zMk (Kd.R_lower ho11 (below_size (hs1 HB GE257)));have n1_:=zMk (blk_below (g:=gb257) (o:=.cells #[.slice A0_0 l0_0.length c0_0] 26 (0,0)) (bs BK257) hb);have n2_:=zMk (below_step (hs1 HB GE257) hb);clear BK257;clear HB;have HO261:=n0_;have BK257:=n1_;have HB:=n2_;clear n0_ n1_ n2_;clear hb ho11;have hcz12_0 : w10.cell? ⟨gb257,0,none⟩ = some (.slice A0_0 l0_0.length c0_0):=(zCl BK257.out 0).trans rfl;have hfz12_0:=zFr BK257.out 0;have p262 : 0 ≤ (a1 : Int):=of_decide_eq_true (by first | (with_reducible assumption) | assumption);have q262 : a1 < (l0_0.length : Int):=of_decide_eq_true (by first | (with_reducible assumption) | assumption);obtain ⟨ad262,A262_1,c262_1,e262,hx262_0,hx262_1,hl262_1,hi262_1⟩:=at_T47 HR0_0.out a1 p262 q262;cases e262;replace hx262_0:=(HB.out.cell (World.block_lt_of_cell? w _ hx262_0)).trans hx262_0;replace hx262_1:=(HB.out.cell (World.block_lt_of_cell? w _ hx262_1)).trans hx262_1;have HR262_1:=zMk hi262_1;have HC262_1:=zMk hl262_1;clear hi262_1 hl262_1;replace p262:=eq_true p262;replace q262:=eq_true q262));go_loopg [5,21] k (fun kq v5 v21 w'=>∃ (x5_1 : List Int) (x21_1 : Int),v21 = .int .i64 x21_1 ∧ Aside0 (impl_knotsOf.l0 kq x5_1 ((rd_T47 l0_0 a1).f1) (((rd_T47 l0_0 a1).f1).length : Int) x21_1 l0_0 = some r) ∧ Aside0 (kq ≤ k) ∧ Aside0 (Kd.R (Kd.int .i64) 3 w' w.heap.size (fun _=>True) v5 x5_1) ∧ Aside0 (w'.heap[gb257]? = some (.cells #[(.slice (some ad262) l0_0.length c0_0)] 26 (0,0))) ∧ Aside0 (Below w.heap.size w w'));case atStart=>exact ⟨(y259),(0),(by first | rfl | (simp;done) | (simp [*];done)),H',⟨Nat.le_refl _⟩,⟨rs HO261⟩,⟨bs BK257⟩,⟨hs1 HB GE257⟩⟩
    case round =>
     clear H'
     try clear c2
     try clear p2
     try clear q2
     try clear hx2
     try clear c3
     try clear c4
     try clear c5
     try clear c5b0
     try clear c6
     try clear c6b0
     try clear hcz12_0
     try clear hcz8_0
     try clear hfz12_0
     try clear hfz8_0
     try clear hx262_0
     try clear hx262_1
     try clear p262
     try clear q262
     obtain ⟨x5_1,x21_1,rfl,HA,HK1,HO_5,BK257,HB⟩:=hrel;cases gk with
     | zero=>exact absurd HA.out (by simp [impl_knotsOf.l0])
     | succ k1 =>
      have H:=HA.out;clear HA;simp only [impl_knotsOf.l0] at H
      by_cases c13 : x21_1 < (((rd_T47 l0_0 a1).f1).length : Int)
      ·rw [if_pos c13] at H;have c13b0 : decide (x21_1 < (((rd_T47 l0_0 a1).f1).length : Int)) = true:=decide_eq_true c13;clear c13
       by_cases c14 : 0 ≤ x21_1
       ·rw [if_pos c14] at H;have c14b0 : decide (0 ≤ x21_1) = true:=decide_eq_true c14;clear c14
        by_cases c15 : x21_1 < (((rd_T47 l0_0 a1).f1).length : Int)
        ·rw [if_pos c15] at H;have c15b0 : decide (x21_1 < (((rd_T47 l0_0 a1).f1).length : Int)) = true:=decide_eq_true c15;clear c15;replace H:=Option.bind_eq_some_iff.mp H;obtain ⟨t264,A160,H⟩:=H;replace H : (if t264 = true then ((impl_hasInt.f k1 x5_1 (rd ((rd_T47 l0_0 a1).f1) x21_1)).bind fun t265=>(if t265 = true then (impl_knotsOf.l0 k1 x5_1 ((rd_T47 l0_0 a1).f1) (((rd_T47 l0_0 a1).f1).length : Int) (wrap64 (x21_1 + 1)) l0_0) else (if x5_1.length < 17592186044416 then (impl_knotsOf.l0 k1 (x5_1 ++ [rd ((rd_T47 l0_0 a1).f1) x21_1]) ((rd_T47 l0_0 a1).f1) (((rd_T47 l0_0 a1).f1).length : Int) (wrap64 (x21_1 + 1)) l0_0) else (none)))) else (impl_knotsOf.l0 k1 x5_1 ((rd_T47 l0_0 a1).f1) (((rd_T47 l0_0 a1).f1).length : Int) (wrap64 (x21_1 + 1)) l0_0)) = some r:=H;have A16:=zMk A160;clear A160
         by_cases c17 : t264 = true
         ·subst c17;have H1 : ((impl_hasInt.f k1 x5_1 (rd ((rd_T47 l0_0 a1).f1) x21_1)).bind fun t265=>(if t265 = true then (impl_knotsOf.l0 k1 x5_1 ((rd_T47 l0_0 a1).f1) (((rd_T47 l0_0 a1).f1).length : Int) (wrap64 (x21_1 + 1)) l0_0) else (if x5_1.length < 17592186044416 then (impl_knotsOf.l0 k1 (x5_1 ++ [rd ((rd_T47 l0_0 a1).f1) x21_1]) ((rd_T47 l0_0 a1).f1) (((rd_T47 l0_0 a1).f1).length : Int) (wrap64 (x21_1 + 1)) l0_0) else (none)))) = some r:=by rw [if_pos rfl] at H;exact H
          clear H;have H:=H1;clear H1;replace H:=Option.bind_eq_some_iff.mp H;obtain ⟨t265,A180,H⟩:=H;replace H : (if t265 = true then (impl_knotsOf.l0 k1 x5_1 ((rd_T47 l0_0 a1).f1) (((rd_T47 l0_0 a1).f1).length : Int) (wrap64 (x21_1 + 1)) l0_0) else (if x5_1.length < 17592186044416 then (impl_knotsOf.l0 k1 (x5_1 ++ [rd ((rd_T47 l0_0 a1).f1) x21_1]) ((rd_T47 l0_0 a1).f1) (((rd_T47 l0_0 a1).f1).length : Int) (wrap64 (x21_1 + 1)) l0_0) else (none))) = some r:=H;have A18:=zMk A180;clear A180
          by_cases c19 : t265 = true
          ·subst c19;have H1 : (impl_knotsOf.l0 k1 x5_1 ((rd_T47 l0_0 a1).f1) (((rd_T47 l0_0 a1).f1).length : Int) (wrap64 (x21_1 + 1)) l0_0) = some r:=by rw [if_pos rfl] at H;exact H
           clear H;have H:=H1;clear H1;have H':=zMk H;clear H;have p263 : 0 ≤ (x21_1 : Int):=of_decide_eq_true (by first | (with_reducible assumption) | assumption);have q263 : x21_1 < (((rd_T47 l0_0 a1).f1).length : Int):=of_decide_eq_true (by first | (with_reducible assumption) | assumption);obtain ⟨ad263,e263,hx263_0⟩:=Kd.at_int HR262_1.out x21_1 p263 q263;cases e263;replace hx263_0:=(HB.out.cell (World.block_lt_of_cell? w _ hx263_0)).trans hx263_0;replace p263:=eq_true p263;replace q263:=eq_true q263;have hcz20_0 : wr.cell? ⟨gb257,0,none⟩ = some (.slice (some ad262) l0_0.length c0_0):=(zCl BK257.out 0).trans rfl;have hfz20_0:=zFr BK257.out 0;go_wp2_with (first | ((with_reducible refine gate_callee (f:=25) rfl ?_);refine goesL_ (some 30) rfl rfl Try.func25 (by kernel_rfl) rfl #[.int .i64 (rd ((rd_T47 l0_0 a1).f1) x21_1),.int .i64 0,.int .i64 (wrap64 ((l0_0.length : Int) - 1))] rfl (by (try simp only [List.map_toArray,List.map_cons,List.map_nil]);first | done | rfl | (simp only [List.length_drop,List.length_take];rfl)) ?_;(with_reducible refine (impl_in.calls (rd ((rd_T47 l0_0 a1).f1) x21_1) 0 (wrap64 ((l0_0.length : Int) - 1)) true _ A16.out).mono ?_);rintro e w' ⟨rfl,⟨nd,rfl⟩⟩;refine ⟨_,rfl,?_⟩;obtain ⟨Ao21,co21,eo21⟩:=Kd.R_slice HO_5.out;subst eo21) | (go_at_call 33;(with_reducible refine (impl_hasInt.calls k1 _ _ x5_1 (rd ((rd_T47 l0_0 a1).f1) x21_1) true _ ?side1 ?side2 A18.out).mono ?_);(case side1=>repeat (first | exact (Kd.R_reads' HO_5.out).2.2 | (with_reducible refine Kd.C_alloc ?_ _) | (with_reducible refine Kd.C_drewN ?_ _) | (with_reducible refine Kd.C_drew ?_)));(case side2=>exact (Kd.R_reads' HO_5.out).2.1);rintro e w' ⟨rfl,⟨nd,rfl⟩⟩));go_roundg k1;case measure=>have:=HK1.out;omega
           case rel=>exact ⟨(x5_1),(wrap64 (x21_1 + 1)),(by first | rfl | (simp;done) | (simp [*];done)),H',⟨by have:=HK1.out;omega⟩,⟨rs HO_5⟩,⟨bs BK257⟩,⟨hs1 HB GE257⟩⟩
          replace c19:=Bool.eq_false_iff.mpr c19;subst c19;have H1 : (if x5_1.length < 17592186044416 then (impl_knotsOf.l0 k1 (x5_1 ++ [rd ((rd_T47 l0_0 a1).f1) x21_1]) ((rd_T47 l0_0 a1).f1) (((rd_T47 l0_0 a1).f1).length : Int) (wrap64 (x21_1 + 1)) l0_0) else (none)) = some r:=by rw [if_neg (show ¬ (false = true) by decide)] at H;exact H
          clear H;have H:=H1;clear H1
          by_cases c22 : x5_1.length < 17592186044416
          ·rw [if_pos c22] at H;have LMc22:=zMk c22;clear c22;obtain ⟨y266,hy266⟩ : ∃ y_ : List Int,y_ = (x5_1 ++ [rd ((rd_T47 l0_0 a1).f1) x21_1]):=⟨_,rfl⟩;replace H : (impl_knotsOf.l0 k1 y266 ((rd_T47 l0_0 a1).f1) (((rd_T47 l0_0 a1).f1).length : Int) (wrap64 (x21_1 + 1)) l0_0) = some r:=by first | (rw [hy266];with_reducible exact H) | (have H2_:=(Option.bind_some _ _).symm.trans H;rw [hy266];with_reducible exact H2_) | (have H2_:=(Option.bind_some _ _).symm.trans H;with_reducible exact H2_) | with_reducible exact H | (rw [hy266];exact H) | exact H
           have Ny266:=zMk hy266;clear hy266;have H':=zMk H;clear H;have p263 : 0 ≤ (x21_1 : Int):=of_decide_eq_true (by first | (with_reducible assumption) | assumption);have q263 : x21_1 < (((rd_T47 l0_0 a1).f1).length : Int):=of_decide_eq_true (by first | (with_reducible assumption) | assumption);obtain ⟨ad263,e263,hx263_0⟩:=Kd.at_int HR262_1.out x21_1 p263 q263;cases e263;replace hx263_0:=(HB.out.cell (World.block_lt_of_cell? w _ hx263_0)).trans hx263_0;replace p263:=eq_true p263;replace q263:=eq_true q263;have hcz23_0 : wr.cell? ⟨gb257,0,none⟩ = some (.slice (some ad262) l0_0.length c0_0):=(zCl BK257.out 0).trans rfl;have hfz23_0:=zFr BK257.out 0;go_wp2_with (first | ((with_reducible refine gate_callee (f:=25) rfl ?_);refine goesL_ (some 30) rfl rfl Try.func25 (by kernel_rfl) rfl #[.int .i64 (rd ((rd_T47 l0_0 a1).f1) x21_1),.int .i64 0,.int .i64 (wrap64 ((l0_0.length : Int) - 1))] rfl (by (try simp only [List.map_toArray,List.map_cons,List.map_nil]);first | done | rfl | (simp only [List.length_drop,List.length_take];rfl)) ?_;(with_reducible refine (impl_in.calls (rd ((rd_T47 l0_0 a1).f1) x21_1) 0 (wrap64 ((l0_0.length : Int) - 1)) true _ A16.out).mono ?_);rintro e w' ⟨rfl,⟨nd,rfl⟩⟩;refine ⟨_,rfl,?_⟩;obtain ⟨Ao24,co24,eo24⟩:=Kd.R_slice HO_5.out;subst eo24) | (go_at_call 33;(with_reducible refine (impl_hasInt.calls k1 _ _ x5_1 (rd ((rd_T47 l0_0 a1).f1) x21_1) false _ ?side1 ?side2 A18.out).mono ?_);(case side1=>repeat (first | exact (Kd.R_reads' HO_5.out).2.2 | (with_reducible refine Kd.C_alloc ?_ _) | (with_reducible refine Kd.C_drewN ?_ _) | (with_reducible refine Kd.C_drew ?_)));(case side2=>exact (Kd.R_reads' HO_5.out).2.1);rintro e w' ⟨rfl,⟨nd,rfl⟩⟩) | ((with_reducible refine gate_builtin (b:=.append) (xs:=#[.tmp 37,.tmp 39]) rfl ?_);at_builtin;refine Kd.R_append (Kd.int .i64) (w0:=w) w.heap.size rfl (.tmp 37) (.tmp 39) 27 3 (.int .i64 0) 8 rfl Try.underlying27 info3 rfl (by decide) (by omega) (.slice Ao24 x5_1.length co24) x5_1 (rd ((rd_T47 l0_0 a1).f1) x21_1) [.int .i64 (rd ((rd_T47 l0_0 a1).f1) x21_1)] (fun _=>True) (fun _=>False) rfl rfl ?aP (fun _ hk=>hk.elim) ?aF ?aO ?aB ?aS ?aL ?_;(case aP=>exact rfl);(case aB=>exact (hs1 HB GE257));(case aF=>exact (fun _ _=>trivial));(case aO=>exact (rs HO_5));(case aS=>exact (below_size (hs1 HB GE257)));(case aL=>have:=LMc22.out;omega);intro v267 w25 ho hb hg hat;rw [← Ny266.out] at ho;have n0_:=zMk (blk_grown (g:=gb257) (o:=.cells #[.slice (some ad262) l0_0.length c0_0] 26 (0,0)) (bs BK257) hg (Kd.R_ne HO_5.out BK257.out (by decide)));have n1_:=zMk (hb);have n2_:=zMk (ho);clear BK257;clear HB;clear HO_5;have BK257:=n0_;have HB:=n1_;have HO268:=n2_;clear n0_ n1_ n2_;clear ho hb hg hat));go_roundg k1;case measure=>have:=HK1.out;omega
           case rel=>exact ⟨(y266),(wrap64 (x21_1 + 1)),(by first | rfl | (simp;done) | (simp [*];done)),H',⟨by have:=HK1.out;omega⟩,⟨rs HO268⟩,⟨bs BK257⟩,⟨hs1 HB GE257⟩⟩
          rw [if_neg c22] at H;exact absurd H (by simp)
         replace c17:=Bool.eq_false_iff.mpr c17;subst c17;have H1 : (impl_knotsOf.l0 k1 x5_1 ((rd_T47 l0_0 a1).f1) (((rd_T47 l0_0 a1).f1).length : Int) (wrap64 (x21_1 + 1)) l0_0) = some r:=by rw [if_neg (show ¬ (false = true) by decide)] at H;exact H
         clear H;have H:=H1;clear H1;have H':=zMk H;clear H;have p263 : 0 ≤ (x21_1 : Int):=of_decide_eq_true (by first | (with_reducible assumption) | assumption);have q263 : x21_1 < (((rd_T47 l0_0 a1).f1).length : Int):=of_decide_eq_true (by first | (with_reducible assumption) | assumption);obtain ⟨ad263,e263,hx263_0⟩:=Kd.at_int HR262_1.out x21_1 p263 q263;cases e263;replace hx263_0:=(HB.out.cell (World.block_lt_of_cell? w _ hx263_0)).trans hx263_0;replace p263:=eq_true p263;replace q263:=eq_true q263;have hcz26_0 : wr.cell? ⟨gb257,0,none⟩ = some (.slice (some ad262) l0_0.length c0_0):=(zCl BK257.out 0).trans rfl;have hfz26_0:=zFr BK257.out 0;go_wp2_with (first | ((with_reducible refine gate_callee (f:=25) rfl ?_);refine goesL_ (some 30) rfl rfl Try.func25 (by kernel_rfl) rfl #[.int .i64 (rd ((rd_T47 l0_0 a1).f1) x21_1),.int .i64 0,.int .i64 (wrap64 ((l0_0.length : Int) - 1))] rfl (by (try simp only [List.map_toArray,List.map_cons,List.map_nil]);first | done | rfl | (simp only [List.length_drop,List.length_take];rfl)) ?_;(with_reducible refine (impl_in.calls (rd ((rd_T47 l0_0 a1).f1) x21_1) 0 (wrap64 ((l0_0.length : Int) - 1)) false _ A16.out).mono ?_);rintro e w' ⟨rfl,⟨nd,rfl⟩⟩;refine ⟨_,rfl,?_⟩));go_roundg k1;case measure=>have:=HK1.out;omega
         case rel=>exact ⟨(x5_1),(wrap64 (x21_1 + 1)),(by first | rfl | (simp;done) | (simp [*];done)),H',⟨by have:=HK1.out;omega⟩,⟨rs HO_5⟩,⟨bs BK257⟩,⟨hs1 HB GE257⟩⟩
        rw [if_neg c15] at H;exact absurd H (by simp)
       rw [if_neg c14] at H;exact absurd H (by simp)
      rw [if_neg c13] at H;have c13b0 : decide (x21_1 < (((rd_T47 l0_0 a1).f1).length : Int)) = false:=decide_eq_false c13;clear c13;obtain rfl:=Option.some.inj H
      go_wp2
      go_ret
      exact ⟨_,by first | rfl | (simp [errW_none,errW_some] <;> rfl) | (simp [*,errW_none,errW_some] <;> rfl),rs HO_5,hs1 HB GE257⟩
   rw [if_neg c6] at H;exact absurd H (by simp)
  rw [if_neg c5] at H;exact absurd H (by simp)
 replace c4:=Bool.eq_false_iff.mpr c4;subst c4;have H1 : (some ([] : List Int)) = some r:=by rw [if_neg (show ¬ (false = true) by decide)] at H;exact H
 clear H;have H:=H1;clear H1;obtain rfl:=Option.some.inj H
 go_enter Try.func32,Try.ntmps32
 go_wp2_with (first | ((with_reducible refine gate_dst (N:=2) rfl ?_);refine box_event ?hg (N:=2) ?hd (cs:=#[.slice A0_0 l0_0.length c0_0]) (t:=26) ?hr ?_;(case hd=>rfl);(case hg=>rfl);(case hr=>first | (go_simp;done) | (go_simp;rfl));intro gb257 hg w27 hbox hb;have n0_:=zMk (below_step (hs HB) hb);have n1_:=zMk (hbox);have n2_:=zMk ((by rw [hg];exact (below_size (hs HB)) : w.heap.size ≤ gb257));have n3_:=zMk ((by rw [hg];exact (below_size (hs HB)) : w.heap.size ≤ gb257));clear HB;have HB:=n0_;have BK257:=n1_;have GW257:=n2_;have GE257:=n3_;clear n0_ n1_ n2_ n3_;clear hb hbox hg;have hcz28_0 : w27.cell? ⟨gb257,0,none⟩ = some (.slice A0_0 l0_0.length c0_0):=(zCl BK257.out 0).trans rfl;have hfz28_0:=zFr BK257.out 0) | ((with_reducible refine gate_callee (f:=24) rfl ?_);refine goesL_ (some 10) rfl rfl Try.func24 (by kernel_rfl) rfl #[.agg #[.slice A0_0 l0_0.length c0_0],.int .i64 a1] rfl (by (try simp only [List.map_toArray,List.map_cons,List.map_nil]);first | done | rfl | (simp only [List.length_drop,List.length_take];rfl)) ?_;(with_reducible refine (impl_isRoot.calls _ _ l0_0 a1 false _ ?side1 ?side2 A3.out).mono ?_);(case side1=>repeat (first | exact (Kd.C_below HR0_0.out HB.out) | (with_reducible refine Kd.C_alloc ?_ _) | (with_reducible refine Kd.C_drewN ?_ _) | (with_reducible refine Kd.C_drew ?_)));(case side2=>exact HC0_0.out);rintro e w29 ⟨rfl,hb⟩;refine ⟨_,rfl,?_⟩;have n0_:=zMk (blk_below (g:=gb257) (o:=.cells #[.slice A0_0 l0_0.length c0_0] 26 (0,0)) (bs BK257) hb);have n1_:=zMk (below_step (hs1 HB GE257) hb);clear BK257;clear HB;have BK257:=n0_;have HB:=n1_;clear n0_ n1_;(try clear hb);(try clear hb2);(try clear hk);(try clear hi)))
 go_ret
 exact ⟨_,by first | rfl | (simp [errW_none,errW_some] <;> rfl) | (simp [*,errW_none,errW_some] <;> rfl),by first | exact Kd.R_nil _ _ _ _ _ | exact Kd.N_nil _ _ _ _ _ | exact Kd.V_nil _ _ _ _ _ | exact Kd.Q_nil _ _ _ _ _ | exact Kd.S_nil _ _ _ _ _,hs1 HB GE257⟩
end Go.Proofs.Ytjpjikhokpfhmaa.PT

namespace Go.Proofs.Ytjpjikhokpfhmaa.PT
open Go.RowKit Go.Proofs.YtjpjikhokpfhmaaW.PrintWords Go.Proofs.YtjpjikhokpfhmaaW.PrintLast Go.Proofs.YtjpjikhokpfhmaaW.PrintMore
attribute [local go_sem] max2_int min2_int max_two min_two max_three min_three max_four min_four   -- for this text's walks alone
set_option linter.unusedVariables false
set_option linter.unusedSimpArgs false
mutual
def impl_SweepArena.l0 : Nat → List Int → List Int → List Int → List Int → Int → Int → List (S47) → Option ((List (S47)) × List Int)
 | 0,_,_,_,_,_,_,_=>none
 | k + 1,x1,x6,x7,x21,x22,x23,x396000=>if x23 < x22 then (if 0 ≤ x23 then (if x23 < (x21.length : Int) then (if (rd x21 x23) = (-1) then (impl_SweepArena.j1 k x1 x6 x7 (rd x21 x23) x21 x22 x23 false x396000) else ((impl_isRoot.f x396000 (rd x21 x23)).bind fun t401=>(impl_SweepArena.j1 k x1 x6 x7 (rd x21 x23) x21 x22 x23 (!t401) x396000))) else (none)) else (none)) else ((impl_ArenaOk.f k x396000).bind fun t411=>(if t411 = true then (if 0 ≤ (x396000.length : Int) then (if ((x396000.length : Int) : Int).toNat ≤ 35184372088832 then (impl_SweepArena.l1 k x1 x6 x7 (List.replicate ((x396000.length : Int) : Int).toNat 0) x396000 (x396000.length : Int) 0 ([] : List (S47))) else (none)) else (none)) else ((impl_copyArena.f k x396000).bind fun t412=>(some (t412,x6)))))
def impl_SweepArena.j1 : Nat → List Int → List Int → List Int → Int → List Int → Int → Int → Bool → List (S47) → Option ((List (S47)) × List Int)
 | 0,_,_,_,_,_,_,_,_,_=>none
 | k + 1,x1,x6,x7,x9,x21,x22,x23,x34,x396000=>if x34 = true then ((impl_copyArena.f k x396000).bind fun t402=>(some (t402,x6))) else ((impl_knotsOf.f k x396000 x9).bind fun t405=>(if x7.length + t405.length < 17592186044416 then (impl_SweepArena.l0 k x1 x6 (x7 ++ t405) x21 x22 (wrap64 (x23 + 1)) x396000) else (none)))
def impl_SweepArena.l1 : Nat → List Int → List Int → List Int → List Int → List (S47) → Int → Int → List (S47) → Option ((List (S47)) × List Int)
 | 0,_,_,_,_,_,_,_,_=>none
 | k + 1,x1,x6,x7,x11,x55,x56,x57,x416000=>if x57 < x56 then (if 0 ≤ x57 then (if x57 < (x55.length : Int) then ((impl_hasInt.f k x7 x57).bind fun t421=>(if t421 = true then (if x57 < (x11.length : Int) then ((impl_copyInts.f ((rd_T47 x55 x57).f1)).bind fun t423=>(impl_SweepArena.l2 k x1 x6 x7 (x11.set (x57 : Int).toNat (x416000.length : Int)) x55 x56 x57 ((rd_T47 x55 x57).f1) (((rd_T47 x55 x57).f1).length : Int) 0 x416000 ((rd_T47 x55 x57).f0) ((rd_T47 x55 x57).f1) ((rd_T47 x55 x57).f0) t423)) else (none)) else (impl_SweepArena.l1 k x1 x6 x7 x11 x55 x56 (wrap64 (x57 + 1)) x416000))) else (none)) else (none)) else (impl_SweepArena.l3 k x6 x11 x1 (x1.length : Int) 0 x416000)
def impl_SweepArena.l2 : Nat → List Int → List Int → List Int → List Int → List (S47) → Int → Int → List Int → Int → Int → List (S47) → Bool → List Int → Bool → List Int → Option ((List (S47)) × List Int)
 | 0,_,_,_,_,_,_,_,_,_,_,_,_,_,_,_=>none
 | k + 1,x1,x6,x7,x11,x55,x56,x57,x79,x80,x81,x416000,x421000,x421001,x427000,x427001=>if x81 < x80 then (if 0 ≤ x81 then (if x81 < (x79.length : Int) then (if x421000 = true then (impl_SweepArena.l2 k x1 x6 x7 x11 x55 x56 x57 x79 x80 (wrap64 (x81 + 1)) x416000 x421000 x421001 x427000 x427001) else (if (rd x79 x81) ≥ 0 then (if 0 ≤ (rd x79 x81) then (if (rd x79 x81) < (x11.length : Int) then (if x81 < (x427001.length : Int) then (impl_SweepArena.l2 k x1 x6 x7 x11 x55 x56 x57 x79 x80 (wrap64 (x81 + 1)) x416000 x421000 x421001 x427000 (x427001.set (x81 : Int).toNat (rd x11 (rd x79 x81)))) else (none)) else (none)) else (none)) else (impl_SweepArena.l2 k x1 x6 x7 x11 x55 x56 x57 x79 x80 (wrap64 (x81 + 1)) x416000 x421000 x421001 x427000 x427001))) else (none)) else (none)) else (if x416000.length < 4398046511104 then (impl_SweepArena.l1 k x1 x6 x7 x11 x55 x56 (wrap64 (x57 + 1)) (x416000 ++ [(⟨x427000,x427001⟩ : S47)])) else (none))
def impl_SweepArena.l3 : Nat → List Int → List Int → List Int → Int → Int → List (S47) → Option ((List (S47)) × List Int)
 | 0,_,_,_,_,_,_=>none
 | k + 1,x6,x11,x109,x110,x111,x416000=>if x111 < x110 then (if 0 ≤ x111 then (if x111 < (x109.length : Int) then (if (rd x109 x111) ≥ 0 then (if 0 ≤ (rd x109 x111) then (if (rd x109 x111) < (x11.length : Int) then (if x111 < (x6.length : Int) then (impl_SweepArena.l3 k (x6.set (x111 : Int).toNat (rd x11 (rd x109 x111))) x11 x109 x110 (wrap64 (x111 + 1)) x416000) else (none)) else (none)) else (none)) else (impl_SweepArena.l3 k x6 x11 x109 x110 (wrap64 (x111 + 1)) x416000)) else (none)) else (none)) else (some (x416000,x6))
end
def impl_SweepArena.f (k : Nat) (l0_0 : List (S47)) (l1 : List Int) : Option ((List (S47)) × List Int):=(impl_copyInts.f l1).bind fun t397=>(impl_SweepArena.l0 k l1 t397 ([] : List Int) l1 (l1.length : Int) 0 l0_0)
theorem impl_SweepArena.mono_l : ∀ k,(∀ y0 y1 y2 y3 y4 y5 y6,LeO (impl_SweepArena.l0 k y0 y1 y2 y3 y4 y5 y6) (impl_SweepArena.l0 (k + 1) y0 y1 y2 y3 y4 y5 y6)) ∧ (∀ y0 y1 y2 y3 y4 y5 y6 y7 y8,LeO (impl_SweepArena.j1 k y0 y1 y2 y3 y4 y5 y6 y7 y8) (impl_SweepArena.j1 (k + 1) y0 y1 y2 y3 y4 y5 y6 y7 y8)) ∧ (∀ y0 y1 y2 y3 y4 y5 y6 y7,LeO (impl_SweepArena.l1 k y0 y1 y2 y3 y4 y5 y6 y7) (impl_SweepArena.l1 (k + 1) y0 y1 y2 y3 y4 y5 y6 y7)) ∧ (∀ y0 y1 y2 y3 y4 y5 y6 y7 y8 y9 y10 y11 y12 y13 y14,LeO (impl_SweepArena.l2 k y0 y1 y2 y3 y4 y5 y6 y7 y8 y9 y10 y11 y12 y13 y14) (impl_SweepArena.l2 (k + 1) y0 y1 y2 y3 y4 y5 y6 y7 y8 y9 y10 y11 y12 y13 y14)) ∧ (∀ y0 y1 y2 y3 y4 y5,LeO (impl_SweepArena.l3 k y0 y1 y2 y3 y4 y5) (impl_SweepArena.l3 (k + 1) y0 y1 y2 y3 y4 y5))
 | 0=>⟨fun _ _ _ _ _ _ _ r h=>by simp [impl_SweepArena.l0] at h,fun _ _ _ _ _ _ _ _ _ r h=>by simp [impl_SweepArena.j1] at h,fun _ _ _ _ _ _ _ _ r h=>by simp [impl_SweepArena.l1] at h,fun _ _ _ _ _ _ _ _ _ _ _ _ _ _ _ r h=>by simp [impl_SweepArena.l2] at h,fun _ _ _ _ _ _ r h=>by simp [impl_SweepArena.l3] at h⟩
 | k + 1=>by
  obtain ⟨ih0,ih1,ih2,ih3,ih4⟩:=impl_SweepArena.mono_l k;refine ⟨?_,?_,?_,?_,?_⟩
  ·intro y0 y1 y2 y3 y4 y5 y6;unfold impl_SweepArena.l0
   repeat' first
   | (with_reducible exact ih0 _ _ _ _ _ _ _)
   | (with_reducible exact ih1 _ _ _ _ _ _ _ _ _)
   | (with_reducible exact ih2 _ _ _ _ _ _ _ _)
   | (with_reducible exact ih3 _ _ _ _ _ _ _ _ _ _ _ _ _ _ _)
   | (with_reducible exact ih4 _ _ _ _ _ _)
   | (with_reducible exact impl_ArenaOk.mono _ _)
   | (with_reducible exact impl_copyArena.mono _ _)
   | (with_reducible exact impl_hasInt.mono _ _ _)
   | (with_reducible exact impl_knotsOf.mono _ _ _)
   | (with_reducible exact LeO.refl _)
   | (with_reducible exact LeO.none _)
   | (with_reducible refine LeO.ite ?_ ?_)
   | (with_reducible refine LeO.bind ?_ (fun _=>?_))
   | exact ih0 _ _ _ _ _ _ _
   | exact ih1 _ _ _ _ _ _ _ _ _
   | exact ih2 _ _ _ _ _ _ _ _
   | exact ih3 _ _ _ _ _ _ _ _ _ _ _ _ _ _ _
   | exact ih4 _ _ _ _ _ _
   | exact impl_ArenaOk.mono _ _
   | exact impl_copyArena.mono _ _
   | exact impl_hasInt.mono _ _ _
   | exact impl_knotsOf.mono _ _ _
   | exact LeO.none _
   | refine LeO.ite ?_ ?_
   | refine LeO.bind ?_ (fun _=>?_)
  ·intro y0 y1 y2 y3 y4 y5 y6 y7 y8;unfold impl_SweepArena.j1
   repeat' first
   | (with_reducible exact ih0 _ _ _ _ _ _ _)
   | (with_reducible exact ih1 _ _ _ _ _ _ _ _ _)
   | (with_reducible exact ih2 _ _ _ _ _ _ _ _)
   | (with_reducible exact ih3 _ _ _ _ _ _ _ _ _ _ _ _ _ _ _)
   | (with_reducible exact ih4 _ _ _ _ _ _)
   | (with_reducible exact impl_ArenaOk.mono _ _)
   | (with_reducible exact impl_copyArena.mono _ _)
   | (with_reducible exact impl_hasInt.mono _ _ _)
   | (with_reducible exact impl_knotsOf.mono _ _ _)
   | (with_reducible exact LeO.refl _)
   | (with_reducible exact LeO.none _)
   | (with_reducible refine LeO.ite ?_ ?_)
   | (with_reducible refine LeO.bind ?_ (fun _=>?_))
   | exact ih0 _ _ _ _ _ _ _
   | exact ih1 _ _ _ _ _ _ _ _ _
   | exact ih2 _ _ _ _ _ _ _ _
   | exact ih3 _ _ _ _ _ _ _ _ _ _ _ _ _ _ _
   | exact ih4 _ _ _ _ _ _
   | exact impl_ArenaOk.mono _ _
   | exact impl_copyArena.mono _ _
   | exact impl_hasInt.mono _ _ _
   | exact impl_knotsOf.mono _ _ _
   | exact LeO.none _
   | refine LeO.ite ?_ ?_
   | refine LeO.bind ?_ (fun _=>?_)
  ·intro y0 y1 y2 y3 y4 y5 y6 y7;unfold impl_SweepArena.l1
   repeat' first
   | (with_reducible exact ih0 _ _ _ _ _ _ _)
   | (with_reducible exact ih1 _ _ _ _ _ _ _ _ _)
   | (with_reducible exact ih2 _ _ _ _ _ _ _ _)
   | (with_reducible exact ih3 _ _ _ _ _ _ _ _ _ _ _ _ _ _ _)
   | (with_reducible exact ih4 _ _ _ _ _ _)
   | (with_reducible exact impl_ArenaOk.mono _ _)
   | (with_reducible exact impl_copyArena.mono _ _)
   | (with_reducible exact impl_hasInt.mono _ _ _)
   | (with_reducible exact impl_knotsOf.mono _ _ _)
   | (with_reducible exact LeO.refl _)
   | (with_reducible exact LeO.none _)
   | (with_reducible refine LeO.ite ?_ ?_)
   | (with_reducible refine LeO.bind ?_ (fun _=>?_))
   | exact ih0 _ _ _ _ _ _ _
   | exact ih1 _ _ _ _ _ _ _ _ _
   | exact ih2 _ _ _ _ _ _ _ _
   | exact ih3 _ _ _ _ _ _ _ _ _ _ _ _ _ _ _
   | exact ih4 _ _ _ _ _ _
   | exact impl_ArenaOk.mono _ _
   | exact impl_copyArena.mono _ _
   | exact impl_hasInt.mono _ _ _
   | exact impl_knotsOf.mono _ _ _
   | exact LeO.none _
   | refine LeO.ite ?_ ?_
   | refine LeO.bind ?_ (fun _=>?_)
  ·intro y0 y1 y2 y3 y4 y5 y6 y7 y8 y9 y10 y11 y12 y13 y14;unfold impl_SweepArena.l2
   repeat' first
   | (with_reducible exact ih0 _ _ _ _ _ _ _)
   | (with_reducible exact ih1 _ _ _ _ _ _ _ _ _)
   | (with_reducible exact ih2 _ _ _ _ _ _ _ _)
   | (with_reducible exact ih3 _ _ _ _ _ _ _ _ _ _ _ _ _ _ _)
   | (with_reducible exact ih4 _ _ _ _ _ _)
   | (with_reducible exact impl_ArenaOk.mono _ _)
   | (with_reducible exact impl_copyArena.mono _ _)
   | (with_reducible exact impl_hasInt.mono _ _ _)
   | (with_reducible exact impl_knotsOf.mono _ _ _)
   | (with_reducible exact LeO.refl _)
   | (with_reducible exact LeO.none _)
   | (with_reducible refine LeO.ite ?_ ?_)
   | (with_reducible refine LeO.bind ?_ (fun _=>?_))
   | exact ih0 _ _ _ _ _ _ _
   | exact ih1 _ _ _ _ _ _ _ _ _
   | exact ih2 _ _ _ _ _ _ _ _
   | exact ih3 _ _ _ _ _ _ _ _ _ _ _ _ _ _ _
   | exact ih4 _ _ _ _ _ _
   | exact impl_ArenaOk.mono _ _
   | exact impl_copyArena.mono _ _
   | exact impl_hasInt.mono _ _ _
   | exact impl_knotsOf.mono _ _ _
   | exact LeO.none _
   | refine LeO.ite ?_ ?_
   | refine LeO.bind ?_ (fun _=>?_)
  intro y0 y1 y2 y3 y4 y5;unfold impl_SweepArena.l3
  repeat' first
  | (with_reducible exact ih0 _ _ _ _ _ _ _)
  | (with_reducible exact ih1 _ _ _ _ _ _ _ _ _)
  | (with_reducible exact ih2 _ _ _ _ _ _ _ _)
  | (with_reducible exact ih3 _ _ _ _ _ _ _ _ _ _ _ _ _ _ _)
  | (with_reducible exact ih4 _ _ _ _ _ _)
  | (with_reducible exact impl_ArenaOk.mono _ _)
  | (with_reducible exact impl_copyArena.mono _ _)
  | (with_reducible exact impl_hasInt.mono _ _ _)
  | (with_reducible exact impl_knotsOf.mono _ _ _)
  | (with_reducible exact LeO.refl _)
  | (with_reducible exact LeO.none _)
  | (with_reducible refine LeO.ite ?_ ?_)
  | (with_reducible refine LeO.bind ?_ (fun _=>?_))
  | exact ih0 _ _ _ _ _ _ _
  | exact ih1 _ _ _ _ _ _ _ _ _
  | exact ih2 _ _ _ _ _ _ _ _
  | exact ih3 _ _ _ _ _ _ _ _ _ _ _ _ _ _ _
  | exact ih4 _ _ _ _ _ _
  | exact impl_ArenaOk.mono _ _
  | exact impl_copyArena.mono _ _
  | exact impl_hasInt.mono _ _ _
  | exact impl_knotsOf.mono _ _ _
  | exact LeO.none _
  | refine LeO.ite ?_ ?_
  | refine LeO.bind ?_ (fun _=>?_)
theorem impl_SweepArena.mono : ∀ a0 a1 k,LeO (impl_SweepArena.f k a0 a1) (impl_SweepArena.f (k + 1) a0 a1):=by
 intro a0 a1 k;obtain ⟨ih0,ih1,ih2,ih3,ih4⟩:=impl_SweepArena.mono_l k;unfold impl_SweepArena.f
 repeat' first
   | (with_reducible exact ih0 _ _ _ _ _ _ _)
   | (with_reducible exact ih1 _ _ _ _ _ _ _ _ _)
   | (with_reducible exact ih2 _ _ _ _ _ _ _ _)
   | (with_reducible exact ih3 _ _ _ _ _ _ _ _ _ _ _ _ _ _ _)
   | (with_reducible exact ih4 _ _ _ _ _ _)
   | (with_reducible exact impl_ArenaOk.mono _ _)
   | (with_reducible exact impl_copyArena.mono _ _)
   | (with_reducible exact impl_hasInt.mono _ _ _)
   | (with_reducible exact impl_knotsOf.mono _ _ _)
   | (with_reducible exact LeO.refl _)
   | (with_reducible exact LeO.none _)
   | (with_reducible refine LeO.ite ?_ ?_)
   | (with_reducible refine LeO.bind ?_ (fun _=>?_))
   | exact ih0 _ _ _ _ _ _ _
   | exact ih1 _ _ _ _ _ _ _ _ _
   | exact ih2 _ _ _ _ _ _ _ _
   | exact ih3 _ _ _ _ _ _ _ _ _ _ _ _ _ _ _
   | exact ih4 _ _ _ _ _ _
   | exact impl_ArenaOk.mono _ _
   | exact impl_copyArena.mono _ _
   | exact impl_hasInt.mono _ _ _
   | exact impl_knotsOf.mono _ _ _
   | exact LeO.none _
   | refine LeO.ite ?_ ?_
   | refine LeO.bind ?_ (fun _=>?_)
def impl_SweepArena.T19 : Bool × List (List Nat × List Nat):=(true,[([],[]),([0],[0]),([],[]),([2],[2]),([3],[3]),([1,4],[1,4]),([],[]),([6,5,4,0,1,2,3,4,5,6],[5,6])])
def impl_SweepArena.B19 : List Nat:=[0,1,0,4,12,31,0,127]
theorem impl_SweepArena.tab19 : rtab .any (opsOf Try.f18 19) = impl_SweepArena.T19:=by kernel_rfl
theorem impl_SweepArena.bits19 : waitsOk impl_SweepArena.T19.2 impl_SweepArena.B19 = true:=by kernel_rfl
def impl_SweepArena.T24 : Bool × List (List Nat × List Nat):=(true,[([],[]),([0],[0]),([],[]),([],[]),([],[]),([3,4],[3,4]),([5],[5]),([1,2,0,1,2,3,4,5,6],[1,2]),([7,6,0,1,2,3,4,5,6],[6,7])])
def impl_SweepArena.B24 : List Nat:=[0,1,0,0,0,24,56,127,255]
theorem impl_SweepArena.tab24 : rtab .any (opsOf Try.f18 24) = impl_SweepArena.T24:=by kernel_rfl
theorem impl_SweepArena.bits24 : waitsOk impl_SweepArena.T24.2 impl_SweepArena.B24 = true:=by kernel_rfl
set_option maxHeartbeats 8000000 in
set_option maxRecDepth 100000 in
theorem impl_SweepArena.calls (k : Nat) (A0_0 : Option Addr) (c0_0 : Nat) (l0_0 : List (S47)) (A1 : Option Addr) (c1 : Nat) (l1 : List Int) (r1 : List (S47)) (r2 : List Int) (w : World) (hr0_0 : Kd.C k47 w A0_0 l0_0.length l0_0) (hc0_0 : l0_0.length ≤ c0_0) (hr1 : Kd.C (Kd.int .i64) w A1 l1.length l1) (hc1 : l1.length ≤ c1) (h : impl_SweepArena.f k l0_0 l1 = some (r1,r2)) :
  Calls Try.prog 18 #[.agg #[.slice A0_0 l0_0.length c0_0],.slice A1 l1.length c1] w fun e w'=>∃ v0_ v1_ : Value,e = .returned (.tuple #[.agg #[v0_],v1_]) ∧ Kd.S k47 47 w' w.heap.size (fun k_=>some k_ ≠ (v1_ : Value).ownBlock) v0_ r1 ∧ Kd.R (Kd.int .i64) 3 w' w.heap.size (fun _=>True) v1_ r2 ∧ Below w.heap.size w w':=by
 have hu26:=Try.underlying26;have hu47:=Try.underlying47;have HR0_0:=zMk hr0_0;have HC0_0:=zMk hc0_0;clear hr0_0 hc0_0;have HR1:=zMk hr1;have HC1:=zMk hc1;clear hr1 hc1;have HB:=zMk (Below.refl w.heap.size w);have H : ((impl_copyInts.f l1).bind fun t397=>(impl_SweepArena.l0 k l1 t397 ([] : List Int) l1 (l1.length : Int) 0 l0_0)) = some (r1,r2):=h;clear h;replace H:=Option.bind_eq_some_iff.mp H;obtain ⟨t397,A30,H⟩:=H;replace H : (impl_SweepArena.l0 k l1 t397 ([] : List Int) l1 (l1.length : Int) 0 l0_0) = some (r1,r2):=H;have A3:=zMk A30;clear A30;have H':=zMk H;clear H
 go_enter Try.func18,Try.ntmps18
 go_wp2_with (first | ((with_reducible refine gate_dst (N:=2) rfl ?_);refine box_event ?hg (N:=2) ?hd (cs:=#[.slice A0_0 l0_0.length c0_0]) (t:=26) ?hr ?_;(case hd=>rfl);(case hg=>rfl);(case hr=>first | (go_simp;done) | (go_simp;rfl));intro gb395 hg w4 hbox hb;have n0_:=zMk (below_step (hs HB) hb);have n1_:=zMk (hbox);have n2_:=zMk ((by rw [hg];exact (below_size (hs HB)) : w.heap.size ≤ gb395));have n3_:=zMk ((by rw [hg];exact (below_size (hs HB)) : w.heap.size ≤ gb395));clear HB;have HB:=n0_;have BK395:=n1_;have GW395:=n2_;have GE395:=n3_;clear n0_ n1_ n2_ n3_;clear hb hbox hg) | ((with_reducible refine gate_dst (N:=4) rfl ?_);refine box_event ?hg (N:=4) ?hd (cs:=#[.slice none 0 0]) (t:=26) ?hr ?_;(case hd=>rfl);(case hg=>rfl);(case hr=>first | (go_simp;done) | (go_simp;rfl));intro gb396 hg w5 hbox hb;have n0_:=zMk (blk_below (g:=gb395) (o:=.cells #[.slice A0_0 l0_0.length c0_0] 26 (0,0)) (bs BK395) hb);have n1_:=zMk (below_step (hs1 HB GE395) hb);have n2_:=zMk (hbox);have n3_:=zMk ((by rw [hg];exact (below_size (hs1 HB GE395)) : w.heap.size ≤ gb396));have n4_:=zMk ((by rw [hg];exact (below_size (hs1 HB GE395)) : w.heap.size ≤ gb396));have n5_:=zMk ((by rw [hg];exact Nat.ne_of_lt (blk_lt (g:=gb395) (o:=.cells #[.slice A0_0 l0_0.length c0_0] 26 (0,0)) (bs BK395)) : gb395 ≠ gb396));have n6_:=zMk ((by rw [hg];exact Nat.ne_of_gt (blk_lt (g:=gb395) (o:=.cells #[.slice A0_0 l0_0.length c0_0] 26 (0,0)) (bs BK395)) : gb396 ≠ gb395));clear BK395;clear HB;have BK395:=n0_;have HB:=n1_;have BK396:=n2_;have GW396:=n3_;have GE396:=n4_;have NB395_396:=n5_;have NB396_395:=n6_;clear n0_ n1_ n2_ n3_ n4_ n5_ n6_;clear hb hbox hg) | ((with_reducible refine gate_callee (f:=26) rfl ?_);refine goesL_ (some 20) rfl rfl Try.func26 (by kernel_rfl) rfl #[.slice A1 l1.length c1] rfl (by (try simp only [List.map_toArray,List.map_cons,List.map_nil]);first | done | rfl | (simp only [List.length_drop,List.length_take];rfl)) ?_;(with_reducible refine (impl_copyInts.calls _ _ l1 t397 _ ?side1 ?side2 A3.out).mono ?_);(case side1=>repeat (first | exact (Kd.C_below HR1.out HB.out) | (with_reducible refine Kd.C_alloc ?_ _) | (with_reducible refine Kd.C_drewN ?_ _) | (with_reducible refine Kd.C_drew ?_)));(case side2=>exact HC1.out);rintro e w6 ⟨v398,rfl,ho0,hb⟩;refine ⟨_,rfl,?_⟩;have n0_:=zMk (Kd.R_lower ho0 (below_size (hs2 HB GE395 GE396)));have n1_:=zMk (blk_below (g:=gb395) (o:=.cells #[.slice A0_0 l0_0.length c0_0] 26 (0,0)) (bs BK395) hb);have n2_:=zMk (blk_below (g:=gb396) (o:=.cells #[.slice none 0 0] 26 (0,0)) (bs BK396) hb);have n3_:=zMk (below_step (hs2 HB GE395 GE396) hb);clear BK395;clear BK396;clear HB;have HO399:=n0_;have BK395:=n1_;have BK396:=n2_;have HB:=n3_;clear n0_ n1_ n2_ n3_;(try clear hb);(try clear hb2);(try clear hk);(try clear hi);(try clear ho0)));go_loopg [7,23] k (fun kq v7 v23 w'=>∃ (x7_1 : List Int) (x23_1 : Int),v23 = .int .i64 x23_1 ∧ Aside0 (impl_SweepArena.l0 kq l1 t397 x7_1 l1 (l1.length : Int) x23_1 l0_0 = some (r1,r2)) ∧ Aside0 (kq ≤ k) ∧ Aside0 (Kd.R (Kd.int .i64) 3 w' w.heap.size (fun k_=>some k_ ≠ (v7 : Value).ownBlock) v398 t397) ∧ Aside0 (Kd.R (Kd.int .i64) 3 w' w.heap.size (fun k_=>some k_ ≠ (v398 : Value).ownBlock) v7 x7_1) ∧ Aside0 (w'.heap[gb395]? = some (.cells #[(.slice A0_0 l0_0.length c0_0)] 26 (0,0))) ∧ Aside0 (w'.heap[gb396]? = some (.cells #[(.slice none 0 0)] 26 (0,0))) ∧ Aside0 (Below w.heap.size w w'));case atStart=>exact ⟨(([] : List Int)),(0),(by first | rfl | (simp;done) | (simp [*];done)),H',⟨Nat.le_refl _⟩,⟨by (with_reducible repeat (first | apply Kd.R_alloc | apply Kd.R_drewN | apply Kd.R_drew));exact Kd.R_mono HO399.out (fun _ hk=>(by simp [Value.ownBlock]))⟩,⟨by first | exact Kd.R_nil _ _ _ _ _ | exact Kd.N_nil _ _ _ _ _ | exact Kd.V_nil _ _ _ _ _ | exact Kd.Q_nil _ _ _ _ _ | exact Kd.S_nil _ _ _ _ _⟩,⟨bs BK395⟩,⟨bs BK396⟩,⟨hs2 HB GE395 GE396⟩⟩
 case round =>
  clear H'
  try clear c1
  try clear c2
  try clear p2
  obtain ⟨x7_1,x23_1,rfl,HA,HK1,HO_6,HO_7,BK395,BK396,HB⟩:=hrel;cases gk with
  | zero=>exact absurd HA.out (by simp [impl_SweepArena.l0])
  | succ k1 =>
   have H:=HA.out;clear HA;simp only [impl_SweepArena.l0] at H
   by_cases c7 : x23_1 < (l1.length : Int)
   ·rw [if_pos c7] at H;have c7b0 : decide (x23_1 < (l1.length : Int)) = true:=decide_eq_true c7;clear c7
    by_cases c8 : 0 ≤ x23_1
    ·rw [if_pos c8] at H;have c8b0 : decide (0 ≤ x23_1) = true:=decide_eq_true c8;clear c8
     by_cases c9 : x23_1 < (l1.length : Int)
     ·rw [if_pos c9] at H;have c9b0 : decide (x23_1 < (l1.length : Int)) = true:=decide_eq_true c9;clear c9;have HC10:=zMk H;clear H;have p400 : 0 ≤ (x23_1 : Int):=of_decide_eq_true (by first | (with_reducible assumption) | assumption);have q400 : x23_1 < (l1.length : Int):=of_decide_eq_true (by first | (with_reducible assumption) | assumption);obtain ⟨ad400,e400,hx400_0⟩:=Kd.at_int HR1.out x23_1 p400 q400;cases e400;replace hx400_0:=(HB.out.cell (World.block_lt_of_cell? w _ hx400_0)).trans hx400_0;replace p400:=eq_true p400;replace q400:=eq_true q400;go_upto_region 6 with (fail);go_cut [34] (fun v34 wc=>∃ (kq : Nat) (x34_9 : Bool),v34 = .bool x34_9 ∧ Aside0 (impl_SweepArena.j1 kq l1 t397 x7_1 (rd l1 x23_1) l1 (l1.length : Int) x23_1 x34_9 l0_0 = some (r1,r2)) ∧ Aside0 (kq ≤ k1) ∧ Aside0 (Kd.R (Kd.int .i64) 3 wc w.heap.size (fun k_=>some k_ ≠ (u7 : Value).ownBlock) v398 t397) ∧ Aside0 (Kd.R (Kd.int .i64) 3 wc w.heap.size (fun k_=>some k_ ≠ (v398 : Value).ownBlock) u7 x7_1) ∧ Aside0 (wc.heap[gb395]? = some (.cells #[(.slice A0_0 l0_0.length c0_0)] 26 (0,0))) ∧ Aside0 (wc.heap[gb396]? = some (.cells #[(.slice none 0 0)] 26 (0,0))) ∧ Aside0 (Below w.heap.size w wc))
      case first =>
       have H:=HC10.out;clear HC10
       by_cases c11 : (rd l1 x23_1) = (-1)
       ·rw [if_pos c11] at H;have c11b0 : ((rd l1 x23_1) == (-1)) = true:=beq_iff_eq.mpr c11;have c11b1 : ((rd l1 x23_1) != (-1)) = false:=bne_eq_false_iff_eq.mpr c11;clear c11
        (first | rw [c11b0] | (simp only [i64_w,i32_w];rw [c11b0]) | skip)
        have H':=zMk H;clear H
        go_wp2
        go_meet
        case rel=>exact ⟨_,(false),(by first | rfl | (simp;done) | (simp [*];done)),H',⟨by have:=HK1.out;first | omega | exact Nat.le_refl _⟩,⟨rs HO_6⟩,⟨rs HO_7⟩,⟨bs BK395⟩,⟨bs BK396⟩,⟨hs2 HB GE395 GE396⟩⟩
       rw [if_neg c11] at H;have c11b0 : ((rd l1 x23_1) == (-1)) = false:=beq_eq_false_iff_ne.mpr c11;have c11b1 : ((rd l1 x23_1) != (-1)) = true:=bne_iff_ne.mpr c11
       (first | rw [c11b0] | (simp only [i64_w,i32_w];rw [c11b0]) | skip)
       replace H:=Option.bind_eq_some_iff.mp H;obtain ⟨t401,A120,H⟩:=H;replace H : (impl_SweepArena.j1 k1 l1 t397 x7_1 (rd l1 x23_1) l1 (l1.length : Int) x23_1 (!t401) l0_0) = some (r1,r2):=H;have A12:=zMk A120;clear A120;have H':=zMk H;clear H;have hnb13:=NB395_396.out;have hnc13:=NB396_395.out;have hcz14_0 : wr.cell? ⟨gb395,0,none⟩ = some (.slice A0_0 l0_0.length c0_0):=(zCl BK395.out 0).trans rfl;have hfz14_0:=zFr BK395.out 0;go_wp2_with (first | (go_at_call 24;(with_reducible refine (impl_isRoot.calls _ _ l0_0 (rd l1 x23_1) t401 _ ?side1 ?side2 A12.out).mono ?_);(case side1=>repeat (first | exact (Kd.C_below HR0_0.out HB.out) | (with_reducible refine Kd.C_alloc ?_ _) | (with_reducible refine Kd.C_drewN ?_ _) | (with_reducible refine Kd.C_drew ?_)));(case side2=>exact HC0_0.out);rintro e w15 ⟨rfl,hb⟩;have n0_:=zMk (Kd.R_below (rs HO_6) hb);have n1_:=zMk (Kd.R_below (rs HO_7) hb);have n2_:=zMk (blk_below (g:=gb395) (o:=.cells #[.slice A0_0 l0_0.length c0_0] 26 (0,0)) (bs BK395) hb);have n3_:=zMk (blk_below (g:=gb396) (o:=.cells #[.slice none 0 0] 26 (0,0)) (bs BK396) hb);have n4_:=zMk (below_step (hs2 HB GE395 GE396) hb);clear HO_6;clear HO_7;clear BK395;clear BK396;clear HB;have HO_6:=n0_;have HO_7:=n1_;have BK395:=n2_;have BK396:=n3_;have HB:=n4_;clear n0_ n1_ n2_ n3_ n4_;(try clear hb);(try clear hb2);(try clear hk);(try clear hi)))
       go_meet
       case rel=>exact ⟨_,(!t401),(by first | rfl | (simp;done) | (simp [*];done)),H',⟨by have:=HK1.out;first | omega | exact Nat.le_refl _⟩,⟨rs HO_6⟩,⟨rs HO_7⟩,⟨bs BK395⟩,⟨bs BK396⟩,⟨hs2 HB GE395 GE396⟩⟩
      case rest =>
       clear HC10
       try clear c1
       try clear c2
       try clear p2
       try clear p4
       try clear q4
       try clear hx4
       try clear c7
       try clear c7b0
       try clear c8
       try clear c8b0
       try clear c9
       try clear c9b0
       try clear c11
       try clear c11b0
       try clear c11b1
       try clear c13
       try clear hcz14_0
       try clear hfz14_0
       try clear hx400_0
       try clear p2
       try clear p400
       try clear q400
       obtain ⟨kq,x34_9,rfl,HA,HJ9,HO_6,HO_7,BK395,BK396,HB⟩:=hcut;cases kq with
       | zero=>exact absurd HA.out (by simp [impl_SweepArena.j1])
       | succ kj9 =>
        have H:=HA.out;clear HA;simp only [impl_SweepArena.j1] at H
        by_cases c16 : x34_9 = true
        ·subst c16;have H1 : ((impl_copyArena.f kj9 l0_0).bind fun t402=>(some (t402,t397))) = some (r1,r2):=by rw [if_pos rfl] at H;exact H
         clear H;have H:=H1;clear H1;replace H:=Option.bind_eq_some_iff.mp H;obtain ⟨t402,A170,H⟩:=H;replace H : (some (t402,t397)) = some (r1,r2):=H;have A17:=zMk A170;clear A170;simp only [Option.some.injEq,Prod.mk.injEq] at H;obtain ⟨rfl,rfl⟩:=H;have hnb18:=NB395_396.out;have hnc18:=NB396_395.out;have hcz19_0 : wc.cell? ⟨gb395,0,none⟩ = some (.slice A0_0 l0_0.length c0_0):=(zCl BK395.out 0).trans rfl;have hfz19_0:=zFr BK395.out 0;go_wp2_with (first | ((with_reducible refine gate_callee (f:=23) rfl ?_);refine goesL_ (some 36) rfl rfl Try.func23 (by kernel_rfl) rfl #[.agg #[.slice A0_0 l0_0.length c0_0]] rfl (by (try simp only [List.map_toArray,List.map_cons,List.map_nil]);first | done | rfl | (simp only [List.length_drop,List.length_take];rfl)) ?_;(with_reducible refine (impl_copyArena.calls kj9 _ _ l0_0 t402 _ ?side1 ?side2 A17.out).mono ?_);(case side1=>repeat (first | exact (Kd.C_below HR0_0.out HB.out) | (with_reducible refine Kd.C_alloc ?_ _) | (with_reducible refine Kd.C_drewN ?_ _) | (with_reducible refine Kd.C_drew ?_)));(case side2=>exact HC0_0.out);rintro e w20 ⟨v403,rfl,ho0,hb⟩;refine ⟨_,rfl,?_⟩;have n0_:=zMk (Kd.R_below (rs HO_6) hb);have n1_:=zMk (Kd.R_below (rs HO_7) hb);have n2_:=zMk (Kd.S_lower (Kd.S_new' (Kd.S_new' ho0 (Kd.R_lt (rs HO_6))) (Kd.R_lt (rs HO_7))) (below_size (hs2 HB GE395 GE396)));have n3_:=zMk (blk_below (g:=gb395) (o:=.cells #[.slice A0_0 l0_0.length c0_0] 26 (0,0)) (bs BK395) hb);have n4_:=zMk (blk_below (g:=gb396) (o:=.cells #[.slice none 0 0] 26 (0,0)) (bs BK396) hb);have n5_:=zMk (below_step (hs2 HB GE395 GE396) hb);clear HO_6;clear HO_7;clear BK395;clear BK396;clear HB;have HO_6:=n0_;have HO_7:=n1_;have HO404:=n2_;have BK395:=n3_;have BK396:=n4_;have HB:=n5_;clear n0_ n1_ n2_ n3_ n4_ n5_;(try clear hb);(try clear hb2);(try clear hk);(try clear hi);(try clear ho0);obtain ⟨Ao21,co21,eo21⟩:=Kd.S_slice HO404.out;subst eo21;have hcz22_0 : w20.cell? ⟨gb396,0,none⟩ = some (.slice none 0 0):=(zCl BK396.out 0).trans rfl;have hfz22_0:=zFr BK396.out 0));refine bodyPost_ret (results_ct rfl _ _ gb396 26 #[.slice Ao21 t402.length co21] (0,0) _ rfl (by (with_reducible repeat (first | refine blk_drewN ?_ _ | refine blk_drew ?_ | refine blk_alloc ?_ _));refine blk_put (cs:=#[.slice none 0 0]) ?_ 0 _ rfl;(with_reducible repeat (first | refine blk_drewN ?_ _ | refine blk_drew ?_ | refine blk_alloc ?_ _));exact BK396.out) Try.underlying26 rfl (by kernel_rfl)) rfl ?_;exact ⟨_,_,by first | rfl | (simp [errW_none,errW_some] <;> rfl) | (simp [*,errW_none,errW_some] <;> rfl),by (with_reducible repeat (first | apply Kd.S_alloc | apply Kd.S_drewN | apply Kd.S_drew));exact Kd.S_mono (Kd.S_far (p:=⟨gb396,0,none⟩) (Kd.S_types HO404.out BK396.out (by decide)) (fun _ hk=>hk.2) (.slice Ao21 t402.length co21)) (fun _ hk=>hk.1.1.2),by (with_reducible repeat (first | apply Kd.R_alloc | apply Kd.R_drewN | apply Kd.R_drew));exact Kd.R_mono (Kd.R_far (p:=⟨gb396,0,none⟩) (Kd.R_types HO_6.out BK396.out (by decide)) (fun _ hk=>hk.2) (.slice Ao21 t402.length co21)) (fun _ hk=>trivial),hs2 HB GE395 GE396⟩
        replace c16:=Bool.eq_false_iff.mpr c16;subst c16;have H1 : ((impl_knotsOf.f kj9 l0_0 (rd l1 x23_1)).bind fun t405=>(if x7_1.length + t405.length < 17592186044416 then (impl_SweepArena.l0 kj9 l1 t397 (x7_1 ++ t405) l1 (l1.length : Int) (wrap64 (x23_1 + 1)) l0_0) else (none))) = some (r1,r2):=by rw [if_neg (show ¬ (false = true) by decide)] at H;exact H
        clear H;have H:=H1;clear H1;replace H:=Option.bind_eq_some_iff.mp H;obtain ⟨t405,A230,H⟩:=H;replace H : (if x7_1.length + t405.length < 17592186044416 then (impl_SweepArena.l0 kj9 l1 t397 (x7_1 ++ t405) l1 (l1.length : Int) (wrap64 (x23_1 + 1)) l0_0) else (none)) = some (r1,r2):=H;have A23:=zMk A230;clear A230
        by_cases c24 : x7_1.length + t405.length < 17592186044416
        ·rw [if_pos c24] at H;have LMc24:=zMk c24;clear c24;obtain ⟨y408,hy408⟩ : ∃ y_ : List Int,y_ = (x7_1 ++ t405):=⟨_,rfl⟩;replace H : (impl_SweepArena.l0 kj9 l1 t397 y408 l1 (l1.length : Int) (wrap64 (x23_1 + 1)) l0_0) = some (r1,r2):=by first | (rw [hy408];with_reducible exact H) | (have H2_:=(Option.bind_some _ _).symm.trans H;rw [hy408];with_reducible exact H2_) | (have H2_:=(Option.bind_some _ _).symm.trans H;with_reducible exact H2_) | with_reducible exact H | (rw [hy408];exact H) | exact H
         have Ny408:=zMk hy408;clear hy408;have H':=zMk H;clear H;have hnb25:=NB395_396.out;have hnc25:=NB396_395.out;have hcz26_0 : wc.cell? ⟨gb395,0,none⟩ = some (.slice A0_0 l0_0.length c0_0):=(zCl BK395.out 0).trans rfl;have hfz26_0:=zFr BK395.out 0;go_wp2_with (first | ((with_reducible refine gate_callee (f:=32) rfl ?_);refine goesL_ (some 41) rfl rfl Try.func32 (by kernel_rfl) rfl #[.agg #[.slice A0_0 l0_0.length c0_0],.int .i64 (rd l1 x23_1)] rfl (by (try simp only [List.map_toArray,List.map_cons,List.map_nil]);first | done | rfl | (simp only [List.length_drop,List.length_take];rfl)) ?_;(with_reducible refine (impl_knotsOf.calls kj9 _ _ l0_0 (rd l1 x23_1) t405 _ ?side1 ?side2 A23.out).mono ?_);(case side1=>repeat (first | exact (Kd.C_below HR0_0.out HB.out) | (with_reducible refine Kd.C_alloc ?_ _) | (with_reducible refine Kd.C_drewN ?_ _) | (with_reducible refine Kd.C_drew ?_)));(case side2=>exact HC0_0.out);rintro e w27 ⟨v406,rfl,ho0,hb⟩;refine ⟨_,rfl,?_⟩;have n0_:=zMk (Kd.R_elder' (rs HO_6) (Kd.R_base ho0) hb);have n1_:=zMk (Kd.R_elder' (rs HO_7) (Kd.R_base ho0) hb);have n2_:=zMk (Kd.R_lower (Kd.R_new' (Kd.R_new' ho0 (Kd.R_lt (rs HO_6))) (Kd.R_lt (rs HO_7))) (below_size (hs2 HB GE395 GE396)));have n3_:=zMk (blk_below (g:=gb395) (o:=.cells #[.slice A0_0 l0_0.length c0_0] 26 (0,0)) (bs BK395) hb);have n4_:=zMk (blk_below (g:=gb396) (o:=.cells #[.slice none 0 0] 26 (0,0)) (bs BK396) hb);have n5_:=zMk (below_step (hs2 HB GE395 GE396) hb);clear HO_6;clear HO_7;clear BK395;clear BK396;clear HB;have HO_6:=n0_;have HO_7:=n1_;have HO407:=n2_;have BK395:=n3_;have BK396:=n4_;have HB:=n5_;clear n0_ n1_ n2_ n3_ n4_ n5_;(try clear hb);(try clear hb2);(try clear hk);(try clear hi);(try clear ho0);obtain ⟨Ao29,co29,eo29⟩:=Kd.R_slice HO407.out;subst eo29) | ((with_reducible refine gate_builtin (b:=.append) (xs:=#[(.tmp 38),.tmp 41]) rfl ?_);at_builtin;refine Kd.R_append_rows (Kd.int .i64) (w0:=w) w.heap.size rfl (.tmp 38) (.tmp 41) 27 3 (.int .i64 0) 8 rfl Try.underlying27 info3 rfl (by decide) (by omega) u7 x7_1 t405 _ _ _ (fun k_=>some k_ ≠ (v398 : Value).ownBlock ∧ some k_ ≠ (.slice Ao29 t405.length co29 : Value).ownBlock) (fun _=>False) rfl rfl ?aO ?aR (fun _ _ h=>h) (fun _ h=>h.elim) ?aF ?aB ?aS ?aL ?_;(case aR=>repeat (first | exact (Kd.R_reads' HO407.out).2.2 | (with_reducible refine Kd.C_alloc ?_ _) | (with_reducible refine Kd.C_drewN ?_ _) | (with_reducible refine Kd.C_drew ?_)));(case aB=>exact (hs2 HB GE395 GE396));(case aF=>exact (fun k_ hk=>⟨Kd.fresh' (Kd.R_lt (rs HO_6)) k_ hk,Kd.fresh' (Kd.R_lt (rs HO407)) k_ hk⟩));(case aO=>exact (rs HO_7));(case aS=>exact (below_size (hs2 HB GE395 GE396)));(case aL=>have:=LMc24.out;omega);intro v409 w28 ho hb hg hat;rw [← Ny408.out] at ho;have n0_:=zMk (Kd.R_after (ok:=(fun k_=>some k_ ≠ (.slice Ao29 t405.length co29 : Value).ownBlock)) (by (with_reducible repeat (first | apply Kd.R_alloc | apply Kd.R_drewN | apply Kd.R_drew));exact Kd.R_mono HO_6.out (fun _ hk=>⟨hk.2,hk.1⟩)) hg hat);have n1_:=zMk (blk_grown (g:=gb395) (o:=.cells #[.slice A0_0 l0_0.length c0_0] 26 (0,0)) (bs BK395) hg (Kd.R_ne HO_7.out BK395.out (by decide)));have n2_:=zMk (blk_grown (g:=gb396) (o:=.cells #[.slice none 0 0] 26 (0,0)) (bs BK396) hg (Kd.R_ne HO_7.out BK396.out (by decide)));have n3_:=zMk (Kd.R_after (ok:=(fun k_=>some k_ ≠ (v398 : Value).ownBlock)) (by (with_reducible repeat (first | apply Kd.R_alloc | apply Kd.R_drewN | apply Kd.R_drew));exact Kd.R_mono HO407.out (fun _ hk=>⟨hk.1.2,hk.2⟩)) hg hat);have n4_:=zMk (hb);have n5_:=zMk (ho);clear HO_6;clear BK395;clear BK396;clear HO407;clear HB;clear HO_7;have HO_6:=n0_;have BK395:=n1_;have BK396:=n2_;have HO407:=n3_;have HB:=n4_;have HO410:=n5_;clear n0_ n1_ n2_ n3_ n4_ n5_;clear ho hb hg hat));go_roundg kj9;case measure=>have:=HK1.out;have:=HJ9.out;omega
         case rel=>exact ⟨(y408),(wrap64 (x23_1 + 1)),(by first | rfl | (simp;done) | (simp [*];done)),H',⟨by have:=HK1.out;have:=HJ9.out;omega⟩,⟨by (with_reducible repeat (first | apply Kd.R_alloc | apply Kd.R_drewN | apply Kd.R_drew));exact Kd.R_mono HO_6.out (fun _ hk=>hk.2)⟩,⟨by (with_reducible repeat (first | apply Kd.R_alloc | apply Kd.R_drewN | apply Kd.R_drew));exact Kd.R_mono HO410.out (fun _ hk=>hk.1)⟩,⟨bs BK395⟩,⟨bs BK396⟩,⟨hs2 HB GE395 GE396⟩⟩
        rw [if_neg c24] at H;exact absurd H (by simp)
     rw [if_neg c9] at H;exact absurd H (by simp)
    rw [if_neg c8] at H;exact absurd H (by simp)
   rw [if_neg c7] at H;have c7b0 : decide (x23_1 < (l1.length : Int)) = false:=decide_eq_false c7;clear c7;replace H:=Option.bind_eq_some_iff.mp H;obtain ⟨t411,A300,H⟩:=H;replace H : (if t411 = true then (if 0 ≤ (l0_0.length : Int) then (if ((l0_0.length : Int) : Int).toNat ≤ 35184372088832 then (impl_SweepArena.l1 k1 l1 t397 x7_1 (List.replicate ((l0_0.length : Int) : Int).toNat 0) l0_0 (l0_0.length : Int) 0 ([] : List (S47))) else (none)) else (none)) else ((impl_copyArena.f k1 l0_0).bind fun t412=>(some (t412,t397)))) = some (r1,r2):=H;have A30:=zMk A300;clear A300
   by_cases c31 : t411 = true
   ·subst c31;have H1 : (if 0 ≤ (l0_0.length : Int) then (if ((l0_0.length : Int) : Int).toNat ≤ 35184372088832 then (impl_SweepArena.l1 k1 l1 t397 x7_1 (List.replicate ((l0_0.length : Int) : Int).toNat 0) l0_0 (l0_0.length : Int) 0 ([] : List (S47))) else (none)) else (none)) = some (r1,r2):=by rw [if_pos rfl] at H;exact H
    clear H;have H:=H1;clear H1
    by_cases c32 : 0 ≤ (l0_0.length : Int)
    ·rw [if_pos c32] at H;have c32b0:=eq_true c32;have c32b1 : decide (0 ≤ (l0_0.length : Int)) = true:=decide_eq_true c32;clear c32
     by_cases c33 : ((l0_0.length : Int) : Int).toNat ≤ 35184372088832
     ·rw [if_pos c33] at H;have c33b0:=eq_true c33;have c33b1 : decide (((l0_0.length : Int) : Int).toNat ≤ 35184372088832) = true:=decide_eq_true c33;clear c33;obtain ⟨y416,hy416⟩ : ∃ y_ : List Int,y_ = (List.replicate ((l0_0.length : Int) : Int).toNat 0):=⟨_,rfl⟩;replace H : (impl_SweepArena.l1 k1 l1 t397 x7_1 y416 l0_0 (l0_0.length : Int) 0 ([] : List (S47))) = some (r1,r2):=by first | (rw [hy416];with_reducible exact H) | (have H2_:=(Option.bind_some _ _).symm.trans H;rw [hy416];with_reducible exact H2_) | (have H2_:=(Option.bind_some _ _).symm.trans H;with_reducible exact H2_) | with_reducible exact H | (rw [hy416];exact H) | exact H
      have Ny416:=zMk hy416;clear hy416;have H':=zMk H;clear H;have hnb34:=NB395_396.out;have hnc34:=NB396_395.out;have hcz35_0 : wr.cell? ⟨gb395,0,none⟩ = some (.slice A0_0 l0_0.length c0_0):=(zCl BK395.out 0).trans rfl;have hfz35_0:=zFr BK395.out 0;go_wp2_with (first | ((with_reducible refine gate_callee (f:=10) rfl ?_);refine goesL_ (some 45) rfl rfl Try.func10 (by kernel_rfl) rfl #[.agg #[.slice A0_0 l0_0.length c0_0]] rfl (by (try simp only [List.map_toArray,List.map_cons,List.map_nil]);first | done | rfl | (simp only [List.length_drop,List.length_take];rfl)) ?_;(with_reducible refine (impl_ArenaOk.calls k1 _ _ l0_0 true _ ?side1 ?side2 A30.out).mono ?_);(case side1=>repeat (first | exact (Kd.C_below HR0_0.out HB.out) | (with_reducible refine Kd.C_alloc ?_ _) | (with_reducible refine Kd.C_drewN ?_ _) | (with_reducible refine Kd.C_drew ?_)));(case side2=>exact HC0_0.out);rintro e w36 ⟨rfl,hb⟩;refine ⟨_,rfl,?_⟩;have n0_:=zMk (Kd.R_below (rs HO_6) hb);have n1_:=zMk (Kd.R_below (rs HO_7) hb);have n2_:=zMk (blk_below (g:=gb395) (o:=.cells #[.slice A0_0 l0_0.length c0_0] 26 (0,0)) (bs BK395) hb);have n3_:=zMk (blk_below (g:=gb396) (o:=.cells #[.slice none 0 0] 26 (0,0)) (bs BK396) hb);have n4_:=zMk (below_step (hs2 HB GE395 GE396) hb);clear HO_6;clear HO_7;clear BK395;clear BK396;clear HB;have HO_6:=n0_;have HO_7:=n1_;have BK395:=n2_;have BK396:=n3_;have HB:=n4_;clear n0_ n1_ n2_ n3_ n4_;(try clear hb);(try clear hb2);(try clear hk);(try clear hi)) | ((with_reducible refine gate_dst (N:=10) rfl ?_);refine box_event ?hg (N:=10) ?hd (cs:=#[.slice none 0 0]) (t:=26) ?hr ?_;(case hd=>rfl);(case hg=>rfl);(case hr=>first | (go_simp;done) | (go_simp;rfl));intro gb415 hg w37 hbox hb;have n0_:=zMk (Kd.R_below (rs HO_6) hb);have n1_:=zMk (Kd.R_below (rs HO_7) hb);have n2_:=zMk (blk_below (g:=gb395) (o:=.cells #[.slice A0_0 l0_0.length c0_0] 26 (0,0)) (bs BK395) hb);have n3_:=zMk (blk_below (g:=gb396) (o:=.cells #[.slice none 0 0] 26 (0,0)) (bs BK396) hb);have n4_:=zMk (below_step (hs2 HB GE395 GE396) hb);have n5_:=zMk (hbox);have n6_:=zMk ((by rw [hg];exact (below_size (hs2 HB GE395 GE396)) : w.heap.size ≤ gb415));have n7_:=zMk ((by rw [hg];exact (below_size (hs2 HB GE395 GE396)) : w.heap.size ≤ gb415));have n8_:=zMk ((by rw [hg];exact Nat.ne_of_lt (blk_lt (g:=gb395) (o:=.cells #[.slice A0_0 l0_0.length c0_0] 26 (0,0)) (bs BK395)) : gb395 ≠ gb415));have n9_:=zMk ((by rw [hg];exact Nat.ne_of_gt (blk_lt (g:=gb395) (o:=.cells #[.slice A0_0 l0_0.length c0_0] 26 (0,0)) (bs BK395)) : gb415 ≠ gb395));have n10_:=zMk ((by rw [hg];exact Nat.ne_of_lt (blk_lt (g:=gb396) (o:=.cells #[.slice none 0 0] 26 (0,0)) (bs BK396)) : gb396 ≠ gb415));have n11_:=zMk ((by rw [hg];exact Nat.ne_of_gt (blk_lt (g:=gb396) (o:=.cells #[.slice none 0 0] 26 (0,0)) (bs BK396)) : gb415 ≠ gb396));clear HO_6;clear HO_7;clear BK395;clear BK396;clear HB;have HO_6:=n0_;have HO_7:=n1_;have BK395:=n2_;have BK396:=n3_;have HB:=n4_;have BK415:=n5_;have GW415:=n6_;have GE415:=n7_;have NB395_415:=n8_;have NB415_395:=n9_;have NB396_415:=n10_;have NB415_396:=n11_;clear n0_ n1_ n2_ n3_ n4_ n5_ n6_ n7_ n8_ n9_ n10_ n11_;clear hb hbox hg;have hnb38:=NB395_415.out;have hnc38:=NB415_395.out;have hcz39_0 : w37.cell? ⟨gb395,0,none⟩ = some (.slice A0_0 l0_0.length c0_0):=(zCl BK395.out 0).trans rfl;have hfz39_0:=zFr BK395.out 0) | ((with_reducible refine gate_dst (N:=53) rfl ?_);refine Kd.R_make (Kd.int .i64) _ 3 rfl (N:=53) rfl 27 _ _ rfl (l0_0.length : Int) rfl rfl Try.underlying27 (.int .i64 0) 8 info3 rfl (by decide) (by omega) 0 (ok:=fun _=>True) (okp:=fun _=>True) rfl (fun _ hk=>hk) trivial (of_decide_eq_true (by first | (with_reducible assumption) | assumption)) (Nat.le_trans (Nat.mul_le_mul_right _ (of_decide_eq_true (by first | (with_reducible assumption) | assumption) : (l0_0.length : Int).toNat ≤ 35184372088832)) (by omega)) (Below.refl _ _) (Nat.le_refl _) ?_;intro v417 w40 ho41 hb hg_ hnew_;clear hg_ hnew_;(first | rw [← Ny416.out] at ho41 | (simp only [Int.reduceToNat] at ho41;rw [← Ny416.out] at ho41));have n0_:=zMk (Kd.R_elder' (rs HO_6) (Kd.R_base ho41) hb);have n1_:=zMk (Kd.R_elder' (rs HO_7) (Kd.R_base ho41) hb);have n2_:=zMk (Kd.R_lower (Kd.R_new' (Kd.R_new' ho41 (Kd.R_lt (rs HO_6))) (Kd.R_lt (rs HO_7))) (below_size (hs3 HB GE395 GE396 GE415)));have n3_:=zMk (blk_below (g:=gb395) (o:=.cells #[.slice A0_0 l0_0.length c0_0] 26 (0,0)) (bs BK395) hb);have n4_:=zMk (blk_below (g:=gb396) (o:=.cells #[.slice none 0 0] 26 (0,0)) (bs BK396) hb);have n5_:=zMk (blk_below (g:=gb415) (o:=.cells #[.slice none 0 0] 26 (0,0)) (bs BK415) hb);have n6_:=zMk (below_step (hs3 HB GE395 GE396 GE415) hb);clear HO_6;clear HO_7;clear BK395;clear BK396;clear BK415;clear HB;have HO_6:=n0_;have HO_7:=n1_;have HO418:=n2_;have BK395:=n3_;have BK396:=n4_;have BK415:=n5_;have HB:=n6_;clear n0_ n1_ n2_ n3_ n4_ n5_ n6_;clear hb ho41;have hcz42_0 : w40.cell? ⟨gb395,0,none⟩ = some (.slice A0_0 l0_0.length c0_0):=(zCl BK395.out 0).trans rfl;have hfz42_0:=zFr BK395.out 0));go_loopg [57] k1 (fun kq v57 w'=>∃ (x6_2 : List Int) (x7_2 : List Int) (x11_2 : List Int) (x57_2 : Int) (x416000_2 : List (S47)) (u416000 : Value),v57 = .int .i64 x57_2 ∧ Aside0 (impl_SweepArena.l1 kq l1 x6_2 x7_2 x11_2 l0_0 (l0_0.length : Int) x57_2 x416000_2 = some (r1,r2)) ∧ Aside0 (kq ≤ k1) ∧ Aside0 (Kd.R (Kd.int .i64) 3 w' w.heap.size (fun k_=>some k_ ≠ (u7 : Value).ownBlock ∧ some k_ ≠ (v417 : Value).ownBlock) v398 x6_2) ∧ Aside0 (Kd.R (Kd.int .i64) 3 w' w.heap.size (fun k_=>some k_ ≠ (v398 : Value).ownBlock ∧ some k_ ≠ (v417 : Value).ownBlock) u7 x7_2) ∧ Aside0 (Kd.R (Kd.int .i64) 3 w' w.heap.size (fun k_=>some k_ ≠ (v398 : Value).ownBlock ∧ some k_ ≠ (u7 : Value).ownBlock) v417 x11_2) ∧ Aside0 (Kd.S k47 47 w' w.heap.size (fun k_=>some k_ ≠ (v398 : Value).ownBlock ∧ some k_ ≠ (u7 : Value).ownBlock ∧ some k_ ≠ (v417 : Value).ownBlock) u416000 x416000_2) ∧ Aside0 (w'.heap[gb395]? = some (.cells #[(.slice A0_0 l0_0.length c0_0)] 26 (0,0))) ∧ Aside0 (w'.heap[gb396]? = some (.cells #[(.slice none 0 0)] 26 (0,0))) ∧ Aside0 (w'.heap[gb415]? = some (.cells #[u416000] 26 (0,0))) ∧ Aside0 (Below w.heap.size w w'));case atStart=>exact ⟨(t397),(x7_1),(y416),(0),(([] : List (S47))),(.slice none 0 0),(by first | rfl | (simp;done) | (simp [*];done)),H',⟨Nat.le_refl _⟩,⟨rs HO_6⟩,⟨rs HO_7⟩,⟨by (with_reducible repeat (first | apply Kd.R_alloc | apply Kd.R_drewN | apply Kd.R_drew));exact Kd.R_mono HO418.out (fun _ hk=>⟨hk.1.2,hk.2⟩)⟩,⟨by first | exact Kd.S_nil _ _ _ _ _ | exact Kd.N_nil _ _ _ _ _ | exact Kd.V_nil _ _ _ _ _ | exact Kd.Q_nil _ _ _ _ _ | exact Kd.R_nil _ _ _ _ _⟩,⟨bs BK395⟩,⟨bs BK396⟩,⟨bs BK415⟩,⟨hs3 HB GE395 GE396 GE415⟩⟩
      case round =>
       clear H'
       try clear c1
       try clear c2
       try clear p2
       try clear c3
       try clear p4
       try clear q4
       try clear hx4
       try clear p6
       try clear c7
       try clear c7b0
       try clear c8
       try clear c8b0
       try clear c9
       try clear c9b0
       try clear c10
       try clear c11
       try clear c11b0
       try clear c11b1
       try clear c13
       try clear c16
       try clear c18
       try clear c23
       try clear c24
       try clear c25
       try clear c26
       try clear c31
       try clear c32
       try clear c32b0
       try clear c32b1
       try clear c33
       try clear c33b0
       try clear c33b1
       try clear c34
       try clear c38
       try clear p40
       try clear q40
       try clear hx40
       try clear hcz14_0
       try clear hcz19_0
       try clear hcz22_0
       try clear hcz26_0
       try clear hcz35_0
       try clear hcz39_0
       try clear hcz42_0
       try clear hfz14_0
       try clear hfz19_0
       try clear hfz22_0
       try clear hfz26_0
       try clear hfz35_0
       try clear hfz39_0
       try clear hfz42_0
       try clear hx400_0
       try clear p2
       try clear p4
       try clear p400
       try clear q4
       try clear q400
       obtain ⟨x6_2,x7_2,x11_2,x57_2,x416000_2,u416000,rfl,HA,HK2,HO_6,HO_7,HO_11,HO_416000,BK395,BK396,BK415,HB⟩:=hrel;cases gk with
       | zero=>exact absurd HA.out (by simp [impl_SweepArena.l1])
       | succ k2 =>
        have H:=HA.out;clear HA;simp only [impl_SweepArena.l1] at H
        by_cases c43 : x57_2 < (l0_0.length : Int)
        ·rw [if_pos c43] at H;have c43b0 : decide (x57_2 < (l0_0.length : Int)) = true:=decide_eq_true c43;clear c43
         by_cases c44 : 0 ≤ x57_2
         ·rw [if_pos c44] at H;have c44b0 : decide (0 ≤ x57_2) = true:=decide_eq_true c44;clear c44
          by_cases c45 : x57_2 < (l0_0.length : Int)
          ·rw [if_pos c45] at H;have c45b0 : decide (x57_2 < (l0_0.length : Int)) = true:=decide_eq_true c45;clear c45;replace H:=Option.bind_eq_some_iff.mp H;obtain ⟨t421,A460,H⟩:=H;replace H : (if t421 = true then (if x57_2 < (x11_2.length : Int) then ((impl_copyInts.f ((rd_T47 l0_0 x57_2).f1)).bind fun t423=>(impl_SweepArena.l2 k2 l1 x6_2 x7_2 (x11_2.set (x57_2 : Int).toNat (x416000_2.length : Int)) l0_0 (l0_0.length : Int) x57_2 ((rd_T47 l0_0 x57_2).f1) (((rd_T47 l0_0 x57_2).f1).length : Int) 0 x416000_2 ((rd_T47 l0_0 x57_2).f0) ((rd_T47 l0_0 x57_2).f1) ((rd_T47 l0_0 x57_2).f0) t423)) else (none)) else (impl_SweepArena.l1 k2 l1 x6_2 x7_2 x11_2 l0_0 (l0_0.length : Int) (wrap64 (x57_2 + 1)) x416000_2)) = some (r1,r2):=H;have A46:=zMk A460;clear A460
           by_cases c47 : t421 = true
           ·subst c47;have H1 : (if x57_2 < (x11_2.length : Int) then ((impl_copyInts.f ((rd_T47 l0_0 x57_2).f1)).bind fun t423=>(impl_SweepArena.l2 k2 l1 x6_2 x7_2 (x11_2.set (x57_2 : Int).toNat (x416000_2.length : Int)) l0_0 (l0_0.length : Int) x57_2 ((rd_T47 l0_0 x57_2).f1) (((rd_T47 l0_0 x57_2).f1).length : Int) 0 x416000_2 ((rd_T47 l0_0 x57_2).f0) ((rd_T47 l0_0 x57_2).f1) ((rd_T47 l0_0 x57_2).f0) t423)) else (none)) = some (r1,r2):=by rw [if_pos rfl] at H;exact H
            clear H;have H:=H1;clear H1
            by_cases c48 : x57_2 < (x11_2.length : Int)
            ·rw [if_pos c48] at H;have c48b0 : decide (x57_2 < (x11_2.length : Int)) = true:=decide_eq_true c48;clear c48;obtain ⟨y422,hy422⟩ : ∃ y_ : List Int,y_ = (x11_2.set (x57_2 : Int).toNat (x416000_2.length : Int)):=⟨_,rfl⟩;replace H : ((impl_copyInts.f ((rd_T47 l0_0 x57_2).f1)).bind fun t423=>(impl_SweepArena.l2 k2 l1 x6_2 x7_2 y422 l0_0 (l0_0.length : Int) x57_2 ((rd_T47 l0_0 x57_2).f1) (((rd_T47 l0_0 x57_2).f1).length : Int) 0 x416000_2 ((rd_T47 l0_0 x57_2).f0) ((rd_T47 l0_0 x57_2).f1) ((rd_T47 l0_0 x57_2).f0) t423)) = some (r1,r2):=by first | (rw [hy422];with_reducible exact H) | (have H2_:=(Option.bind_some _ _).symm.trans H;rw [hy422];with_reducible exact H2_) | (have H2_:=(Option.bind_some _ _).symm.trans H;with_reducible exact H2_) | with_reducible exact H | (rw [hy422];exact H) | exact H
             have Ny422:=zMk hy422;clear hy422;replace H:=Option.bind_eq_some_iff.mp H;obtain ⟨t423,A500,H⟩:=H;replace H : (impl_SweepArena.l2 k2 l1 x6_2 x7_2 y422 l0_0 (l0_0.length : Int) x57_2 ((rd_T47 l0_0 x57_2).f1) (((rd_T47 l0_0 x57_2).f1).length : Int) 0 x416000_2 ((rd_T47 l0_0 x57_2).f0) ((rd_T47 l0_0 x57_2).f1) ((rd_T47 l0_0 x57_2).f0) t423) = some (r1,r2):=H;have A50:=zMk A500;clear A500;have H':=zMk H;clear H;have p419 : 0 ≤ (x57_2 : Int):=of_decide_eq_true (by first | (with_reducible assumption) | assumption);have q419 : x57_2 < (l0_0.length : Int):=of_decide_eq_true (by first | (with_reducible assumption) | assumption);obtain ⟨ad419,A419_1,c419_1,e419,hx419_0,hx419_1,hl419_1,hi419_1⟩:=at_T47 HR0_0.out x57_2 p419 q419;cases e419;replace hx419_0:=(HB.out.cell (World.block_lt_of_cell? w _ hx419_0)).trans hx419_0;replace hx419_1:=(HB.out.cell (World.block_lt_of_cell? w _ hx419_1)).trans hx419_1;have HR419_1:=zMk hi419_1;have HC419_1:=zMk hl419_1;clear hi419_1 hl419_1;replace p419:=eq_true p419;replace q419:=eq_true q419
             try go_wp2_with (first | ((with_reducible refine gate_dst (N:=13) rfl ?_);refine box_event ?hg (N:=13) ?hd (cs:=#[.bool false,.slice none 0 0]) (t:=47) ?hr ?_;(case hd=>rfl);(case hg=>rfl);(case hr=>first | (go_simp;done) | (go_simp;rfl));intro gb420 hg w51 hbox hb;have n0_:=zMk (Kd.R_below (rs HO_6) hb);have n1_:=zMk (Kd.R_below (rs HO_7) hb);have n2_:=zMk (Kd.R_below (rs HO_11) hb);have n3_:=zMk (Kd.S_below (Kd.S_elderB (ss HO_416000) gb420 (Nat.le_of_eq hg.symm)) hb);have n4_:=zMk (blk_below (g:=gb395) (o:=.cells #[.slice (some ad419) l0_0.length c0_0] 26 (0,0)) (bs BK395) hb);have n5_:=zMk (blk_below (g:=gb396) (o:=.cells #[.slice none 0 0] 26 (0,0)) (bs BK396) hb);have n6_:=zMk (blk_below (g:=gb415) (o:=.cells #[u416000] 26 (0,0)) (bs BK415) hb);have n7_:=zMk (below_step (hs3 HB GE395 GE396 GE415) hb);have n8_:=zMk (hbox);have n9_:=zMk ((by rw [hg];exact (below_size (hs3 HB GE395 GE396 GE415)) : w.heap.size ≤ gb420));have n10_:=zMk ((by rw [hg];exact (below_size (hs3 HB GE395 GE396 GE415)) : w.heap.size ≤ gb420));have n11_:=zMk ((by rw [hg];exact Nat.ne_of_lt (blk_lt (g:=gb395) (o:=.cells #[.slice (some ad419) l0_0.length c0_0] 26 (0,0)) (bs BK395)) : gb395 ≠ gb420));have n12_:=zMk ((by rw [hg];exact Nat.ne_of_gt (blk_lt (g:=gb395) (o:=.cells #[.slice (some ad419) l0_0.length c0_0] 26 (0,0)) (bs BK395)) : gb420 ≠ gb395));have n13_:=zMk ((by rw [hg];exact Nat.ne_of_lt (blk_lt (g:=gb396) (o:=.cells #[.slice none 0 0] 26 (0,0)) (bs BK396)) : gb396 ≠ gb420));have n14_:=zMk ((by rw [hg];exact Nat.ne_of_gt (blk_lt (g:=gb396) (o:=.cells #[.slice none 0 0] 26 (0,0)) (bs BK396)) : gb420 ≠ gb396));have n15_:=zMk ((by rw [hg];exact Nat.ne_of_lt (blk_lt (g:=gb415) (o:=.cells #[u416000] 26 (0,0)) (bs BK415)) : gb415 ≠ gb420));have n16_:=zMk ((by rw [hg];exact Nat.ne_of_gt (blk_lt (g:=gb415) (o:=.cells #[u416000] 26 (0,0)) (bs BK415)) : gb420 ≠ gb415));clear HO_6;clear HO_7;clear HO_11;clear HO_416000;clear BK395;clear BK396;clear BK415;clear HB;have HO_6:=n0_;have HO_7:=n1_;have HO_11:=n2_;have HO_416000:=n3_;have BK395:=n4_;have BK396:=n5_;have BK415:=n6_;have HB:=n7_;have BK420:=n8_;have GW420:=n9_;have GE420:=n10_;have NB395_420:=n11_;have NB420_395:=n12_;have NB396_420:=n13_;have NB420_396:=n14_;have NB415_420:=n15_;have NB420_415:=n16_;clear n0_ n1_ n2_ n3_ n4_ n5_ n6_ n7_ n8_ n9_ n10_ n11_ n12_ n13_ n14_ n15_ n16_;clear hb hbox hg;have hnb52:=NB420_395.out;have hnc52:=NB395_420.out;have hnb53:=NB420_396.out;have hnc53:=NB396_420.out;have hnb54:=NB420_415.out;have hnc54:=NB415_420.out;have hcz55_0 : w51.cell? ⟨gb420,0,none⟩ = some (.bool false):=(zCl BK420.out 0).trans rfl;have hcz55_1 : w51.cell? ⟨gb420,1,none⟩ = some (.slice none 0 0):=(zCl BK420.out 1).trans rfl;have hfz55_0:=zFr BK420.out 0;have hfz55_1:=zFr BK420.out 1) | ((with_reducible refine gate_store (t:=47) (p:=13) rfl ?_);refine store_event (t:=47) (p:=13) (v:=?vo_w56) (w1:=((w51.setCell ⟨gb420,0,none⟩ (.bool ((rd_T47 l0_0 x57_2).f0))).setCell ⟨gb420,1,none⟩ (.slice A419_1 ((rd_T47 l0_0 x57_2).f1).length c419_1))) ?hg ?ho ?hn ?hr ?_;(case ho=>rfl);(case hg=>rfl);(case hn=>rfl);(case hr=>first | (go_simp;done) | (go_simp;rfl));intro w56 hw;have n0_ : Aside0 (Kd.R (Kd.int .i64) 3 w56 w.heap.size (fun k_=>some k_ ≠ (u7 : Value).ownBlock ∧ some k_ ≠ (v417 : Value).ownBlock) v398 x6_2):=⟨(by rw [hw];exact (by (with_reducible repeat (first | apply Kd.R_alloc | apply Kd.R_drewN | apply Kd.R_drew));exact Kd.R_mono (Kd.R_far (p:=⟨gb420,1,none⟩) (Kd.R_far (p:=⟨gb420,0,none⟩) (Kd.R_types HO_6.out BK420.out (by decide)) (fun _ hk=>hk.2) (.bool ((rd_T47 l0_0 x57_2).f0))) (fun _ hk=>hk.2) (.slice A419_1 ((rd_T47 l0_0 x57_2).f1).length c419_1)) (fun _ hk=>⟨hk.1.1,hk.1.2⟩)))⟩;have n1_ : Aside0 (Kd.R (Kd.int .i64) 3 w56 w.heap.size (fun k_=>some k_ ≠ (v398 : Value).ownBlock ∧ some k_ ≠ (v417 : Value).ownBlock) u7 x7_2):=⟨(by rw [hw];exact (by (with_reducible repeat (first | apply Kd.R_alloc | apply Kd.R_drewN | apply Kd.R_drew));exact Kd.R_mono (Kd.R_far (p:=⟨gb420,1,none⟩) (Kd.R_far (p:=⟨gb420,0,none⟩) (Kd.R_types HO_7.out BK420.out (by decide)) (fun _ hk=>hk.2) (.bool ((rd_T47 l0_0 x57_2).f0))) (fun _ hk=>hk.2) (.slice A419_1 ((rd_T47 l0_0 x57_2).f1).length c419_1)) (fun _ hk=>⟨hk.1.1,hk.1.2⟩)))⟩;have n2_ : Aside0 (Kd.R (Kd.int .i64) 3 w56 w.heap.size (fun k_=>some k_ ≠ (v398 : Value).ownBlock ∧ some k_ ≠ (u7 : Value).ownBlock) v417 x11_2):=⟨(by rw [hw];exact (by (with_reducible repeat (first | apply Kd.R_alloc | apply Kd.R_drewN | apply Kd.R_drew));exact Kd.R_mono (Kd.R_far (p:=⟨gb420,1,none⟩) (Kd.R_far (p:=⟨gb420,0,none⟩) (Kd.R_types HO_11.out BK420.out (by decide)) (fun _ hk=>hk.2) (.bool ((rd_T47 l0_0 x57_2).f0))) (fun _ hk=>hk.2) (.slice A419_1 ((rd_T47 l0_0 x57_2).f1).length c419_1)) (fun _ hk=>⟨hk.1.1,hk.1.2⟩)))⟩;have n3_ : Aside0 (Kd.S k47 47 w56 w.heap.size (fun k_=>some k_ ≠ (v398 : Value).ownBlock ∧ some k_ ≠ (u7 : Value).ownBlock ∧ some k_ ≠ (v417 : Value).ownBlock ∧ k_ ≠ gb420) u416000 x416000_2):=⟨(by rw [hw];exact (by (with_reducible repeat (first | apply Kd.S_alloc | apply Kd.S_drewN | apply Kd.S_drew));exact Kd.S_mono (Kd.S_far (p:=⟨gb420,1,none⟩) (Kd.S_far (p:=⟨gb420,0,none⟩) (Kd.S_mono HO_416000.out (fun k_ hk=>(⟨hk,hk.2⟩ : _ ∧ k_ ≠ gb420))) (fun _ hk=>hk.2) (.bool ((rd_T47 l0_0 x57_2).f0))) (fun _ hk=>hk.2) (.slice A419_1 ((rd_T47 l0_0 x57_2).f1).length c419_1)) (fun _ hk=>⟨hk.1.1.1,⟨hk.1.1.2.1,⟨hk.1.1.2.2,hk.1.2⟩⟩⟩)))⟩;have n4_ : Aside0 (w56.heap[gb395]? = some (.cells #[.slice (some ad419) l0_0.length c0_0] 26 (0,0))):=⟨(by rw [hw];exact (by (with_reducible repeat (first | refine blk_drewN ?_ _ | refine blk_drew ?_ | refine blk_alloc ?_ _));refine blk_far ?_ NB395_420.out _;(with_reducible repeat (first | refine blk_drewN ?_ _ | refine blk_drew ?_ | refine blk_alloc ?_ _));refine blk_far ?_ NB395_420.out _;(with_reducible repeat (first | refine blk_drewN ?_ _ | refine blk_drew ?_ | refine blk_alloc ?_ _));exact BK395.out))⟩;have n5_ : Aside0 (w56.heap[gb396]? = some (.cells #[.slice none 0 0] 26 (0,0))):=⟨(by rw [hw];exact (by (with_reducible repeat (first | refine blk_drewN ?_ _ | refine blk_drew ?_ | refine blk_alloc ?_ _));refine blk_far ?_ NB396_420.out _;(with_reducible repeat (first | refine blk_drewN ?_ _ | refine blk_drew ?_ | refine blk_alloc ?_ _));refine blk_far ?_ NB396_420.out _;(with_reducible repeat (first | refine blk_drewN ?_ _ | refine blk_drew ?_ | refine blk_alloc ?_ _));exact BK396.out))⟩;have n6_ : Aside0 (w56.heap[gb415]? = some (.cells #[u416000] 26 (0,0))):=⟨(by rw [hw];exact (by (with_reducible repeat (first | refine blk_drewN ?_ _ | refine blk_drew ?_ | refine blk_alloc ?_ _));refine blk_far ?_ NB415_420.out _;(with_reducible repeat (first | refine blk_drewN ?_ _ | refine blk_drew ?_ | refine blk_alloc ?_ _));refine blk_far ?_ NB415_420.out _;(with_reducible repeat (first | refine blk_drewN ?_ _ | refine blk_drew ?_ | refine blk_alloc ?_ _));exact BK415.out))⟩;have n7_ : Aside0 (w56.heap[gb420]? = some (.cells #[.bool ((rd_T47 l0_0 x57_2).f0),.slice A419_1 ((rd_T47 l0_0 x57_2).f1).length c419_1] 47 (0,0))):=⟨(by rw [hw];exact (by (with_reducible repeat (first | refine blk_drewN ?_ _ | refine blk_drew ?_ | refine blk_alloc ?_ _));refine blk_put (cs:=#[.bool ((rd_T47 l0_0 x57_2).f0),.slice none 0 0]) ?_ 1 _ rfl;(with_reducible repeat (first | refine blk_drewN ?_ _ | refine blk_drew ?_ | refine blk_alloc ?_ _));refine blk_put (cs:=#[.bool false,.slice none 0 0]) ?_ 0 _ rfl;(with_reducible repeat (first | refine blk_drewN ?_ _ | refine blk_drew ?_ | refine blk_alloc ?_ _));exact BK420.out))⟩;have n8_ : Aside0 (Below w.heap.size w w56):=⟨(by rw [hw];exact (hs4 HB GE395 GE396 GE415 GE420))⟩;clear hw;clear HO_6;clear HO_7;clear HO_11;clear HO_416000;clear BK395;clear BK396;clear BK415;clear BK420;clear HB;have HO_6:=n0_;have HO_7:=n1_;have HO_11:=n2_;have HO_416000:=n3_;have BK395:=n4_;have BK396:=n5_;have BK415:=n6_;have BK420:=n7_;have HB:=n8_;clear n0_ n1_ n2_ n3_ n4_ n5_ n6_ n7_ n8_;obtain ⟨Ao57,co57,eo57⟩:=Kd.R_slice HO_7.out;subst eo57) | ((with_reducible refine gate_callee (f:=33) rfl ?_);refine goesL_ (some 64) rfl rfl Try.func33 (by kernel_rfl) rfl #[.slice Ao57 x7_2.length co57,.int .i64 x57_2] rfl (by (try simp only [List.map_toArray,List.map_cons,List.map_nil]);first | done | rfl | (simp only [List.length_drop,List.length_take];rfl)) ?_;(with_reducible refine (impl_hasInt.calls k2 _ _ x7_2 x57_2 true _ ?side1 ?side2 A46.out).mono ?_);(case side1=>repeat (first | exact (Kd.R_reads' HO_7.out).2.2 | (with_reducible refine Kd.C_alloc ?_ _) | (with_reducible refine Kd.C_drewN ?_ _) | (with_reducible refine Kd.C_drew ?_)));(case side2=>exact (Kd.R_reads' HO_7.out).2.1);rintro e w' ⟨rfl,⟨nd,rfl⟩⟩;refine ⟨_,rfl,?_⟩;(try (rw [drewN_self w56];generalize hq_ : World.drewN w56 _ = w56;have n0_ : Aside0 (Kd.R (Kd.int .i64) 3 w56 w.heap.size (fun k_=>some k_ ≠ (v398 : Value).ownBlock ∧ some k_ ≠ (.slice Ao57 x7_2.length co57 : Value).ownBlock) v417 x11_2):=⟨by rw [← hq_];exact (rs HO_11)⟩;have n1_ : Aside0 (Kd.S k47 47 w56 w.heap.size (fun k_=>some k_ ≠ (v417 : Value).ownBlock ∧ some k_ ≠ (v398 : Value).ownBlock ∧ some k_ ≠ (.slice Ao57 x7_2.length co57 : Value).ownBlock ∧ k_ ≠ gb420) u416000 x416000_2):=⟨by rw [← hq_];exact (by (with_reducible repeat (first | apply Kd.S_alloc | apply Kd.S_drewN | apply Kd.S_drew));exact Kd.S_mono HO_416000.out (fun _ hk=>⟨hk.2.2.1,⟨hk.1,⟨hk.2.1,hk.2.2.2⟩⟩⟩))⟩;have n2_ : Aside0 (Kd.R (Kd.int .i64) 3 w56 w.heap.size (fun k_=>some k_ ≠ (v417 : Value).ownBlock ∧ some k_ ≠ (.slice Ao57 x7_2.length co57 : Value).ownBlock) v398 x6_2):=⟨by rw [← hq_];exact (by (with_reducible repeat (first | apply Kd.R_alloc | apply Kd.R_drewN | apply Kd.R_drew));exact Kd.R_mono HO_6.out (fun _ hk=>⟨hk.2,hk.1⟩))⟩;have n3_ : Aside0 (Kd.R (Kd.int .i64) 3 w56 w.heap.size (fun k_=>some k_ ≠ (v417 : Value).ownBlock ∧ some k_ ≠ (v398 : Value).ownBlock) (.slice Ao57 x7_2.length co57) x7_2):=⟨by rw [← hq_];exact (by (with_reducible repeat (first | apply Kd.R_alloc | apply Kd.R_drewN | apply Kd.R_drew));exact Kd.R_mono HO_7.out (fun _ hk=>⟨hk.2,hk.1⟩))⟩;have n4_ : Aside0 (w56.heap[gb395]? = some (.cells #[.slice (some ad419) l0_0.length c0_0] 26 (0,0))):=⟨by rw [← hq_];exact (bs BK395)⟩;have n5_ : Aside0 (w56.heap[gb396]? = some (.cells #[.slice none 0 0] 26 (0,0))):=⟨by rw [← hq_];exact (bs BK396)⟩;have n6_ : Aside0 (w56.heap[gb415]? = some (.cells #[u416000] 26 (0,0))):=⟨by rw [← hq_];exact (bs BK415)⟩;have n7_ : Aside0 (w56.heap[gb420]? = some (.cells #[.bool ((rd_T47 l0_0 x57_2).f0),.slice A419_1 ((rd_T47 l0_0 x57_2).f1).length c419_1] 47 (0,0))):=⟨by rw [← hq_];exact (bs BK420)⟩;have n8_ : Aside0 (Below w.heap.size w w56):=⟨by rw [← hq_];exact (hs4 HB GE395 GE396 GE415 GE420)⟩;clear HO_11 HO_416000 HO_6 HO_7 BK395 BK396 BK415 BK420 HB hq_;have HO_11:=n0_;have HO_416000:=n1_;have HO_6:=n2_;have HO_7:=n3_;have BK395:=n4_;have BK396:=n5_;have BK415:=n6_;have BK420:=n7_;have HB:=n8_;clear n0_ n1_ n2_ n3_ n4_ n5_ n6_ n7_ n8_));have hnb58:=NB415_395.out;have hnc58:=NB395_415.out;have hnb59:=NB415_396.out;have hnc59:=NB396_415.out;have hcz60_0 : w56.cell? ⟨gb415,0,none⟩ = some (u416000):=(zCl BK415.out 0).trans rfl;have hfz60_0:=zFr BK415.out 0;obtain ⟨Ao61,co61,eo61⟩:=Kd.S_slice HO_416000.out;subst eo61;have p49 : 0 ≤ (x57_2 : Int):=of_decide_eq_true (by first | (with_reducible assumption) | assumption);have q49 : (x57_2 : Int) < ((x11_2.length : Int) : Int):=of_decide_eq_true (by first | (with_reducible assumption) | assumption);obtain ⟨go49,co49,eo49,gb49,gl49,cl49,HG49⟩:=Kd.R_form HO_11.out (by omega);(first | cases eo49 | (injection eo49 with ea_ en_ ec_;(first | subst ea_ | (injection ea_ with ea_;subst ea_));subst ec_;clear en_));have GB49:=zMk gb49;have GG49:=zMk HG49;clear gb49 gl49 HG49;obtain ⟨hx49_0,hf49_0⟩:=Kd.R_celln 0 HO_11.out (x57_2 : Int) p49 q49;replace p49:=eq_true p49;replace q49:=eq_true q49;obtain ⟨hy62_,hz62_⟩:=Kd.R_celln 0 HO_11.out (x57_2 : Int) (of_decide_eq_true (by first | (with_reducible assumption) | assumption)) (of_decide_eq_true (by first | (with_reducible assumption) | assumption));have HP62:=Kd.R_putg HO_11.out (x57_2 : Int) (x416000_2.length : Int)) | ((with_reducible refine gate_store (t:=3) (p:=71) rfl ?_);refine store_event (t:=3) (p:=71) (v:=?vo_w63) (w1:=(w56.setCell ⟨go49,(x57_2 : Int).toNat,none⟩ (.int .i64 (x416000_2.length : Int)))) ?hg ?ho ?hn ?hr ?_;(case ho=>rfl);(case hg=>rfl);(case hn=>rfl);(case hr=>first | (go_simp;done) | (go_simp;rfl));intro w63 hw;have hg : w56.grownBy w63 (some go49):=(by rw [hw];exact HP62.2);have hp_ : Kd.R (Kd.int .i64) 3 w63 w.heap.size (fun k_=>some k_ ≠ (v398 : Value).ownBlock ∧ some k_ ≠ (.slice Ao57 x7_2.length co57 : Value).ownBlock) (.slice (some ⟨go49,0,none⟩) x11_2.length co49) y422:=(by rw [hw,Ny422.out];exact HP62.1);clear HP62;have n0_:=zMk (Kd.R_after (v:=(.slice (some ⟨go49,0,none⟩) x11_2.length co49)) (v1:=(.slice (some ⟨go49,0,none⟩) x11_2.length co49)) (ok:=(fun k_=>some k_ ≠ (.slice Ao57 x7_2.length co57 : Value).ownBlock)) (by (with_reducible repeat (first | apply Kd.R_alloc | apply Kd.R_drewN | apply Kd.R_drew));first | exact HO_6.out | exact Kd.R_mono HO_6.out (fun _ hk_=>⟨hk_.2,hk_.1⟩)) hg (.inl rfl));have n1_:=zMk (Kd.R_after (v:=(.slice (some ⟨go49,0,none⟩) x11_2.length co49)) (v1:=(.slice (some ⟨go49,0,none⟩) x11_2.length co49)) (ok:=(fun k_=>some k_ ≠ (v398 : Value).ownBlock)) (by (with_reducible repeat (first | apply Kd.R_alloc | apply Kd.R_drewN | apply Kd.R_drew));first | exact HO_7.out | exact Kd.R_mono HO_7.out (fun _ hk_=>⟨hk_.2,hk_.1⟩)) hg (.inl rfl));have n2_:=zMk (hp_);have n3_:=zMk (Kd.S_after (v:=(.slice (some ⟨go49,0,none⟩) x11_2.length co49)) (v1:=(.slice (some ⟨go49,0,none⟩) x11_2.length co49)) (ok:=(fun k_=>some k_ ≠ (v398 : Value).ownBlock ∧ some k_ ≠ (.slice Ao57 x7_2.length co57 : Value).ownBlock ∧ k_ ≠ gb420)) (by (with_reducible repeat (first | apply Kd.S_alloc | apply Kd.S_drewN | apply Kd.S_drew));exact Kd.S_mono HO_416000.out (fun _ hk=>by obtain ⟨h1_,h2_,h3_,h4_⟩:=hk;refine ⟨⟨?_,?_,?_⟩,?_⟩ <;> assumption)) hg (.inl rfl));have n4_:=zMk (blk_grown (g:=gb395) (o:=.cells #[.slice (some ad419) l0_0.length c0_0] 26 (0,0)) (bs BK395) hg (Kd.R_ne HO_11.out BK395.out (by decide)));have n5_:=zMk (blk_grown (g:=gb396) (o:=.cells #[.slice none 0 0] 26 (0,0)) (bs BK396) hg (Kd.R_ne HO_11.out BK396.out (by decide)));have n6_:=zMk (blk_grown (g:=gb415) (o:=.cells #[.slice Ao61 x416000_2.length co61] 26 (0,0)) (bs BK415) hg (Kd.R_ne HO_11.out BK415.out (by decide)));have n7_:=zMk (blk_grown (g:=gb420) (o:=.cells #[.bool ((rd_T47 l0_0 x57_2).f0),.slice A419_1 ((rd_T47 l0_0 x57_2).f1).length c419_1] 47 (0,0)) (bs BK420) hg (Kd.R_ne HO_11.out BK420.out (by decide)));have n8_:=zMk ((by rw [hw];exact below_set (HB.out) GB49.out : Below w.heap.size w w63));clear HO_6;clear HO_7;clear HO_11;clear HO_416000;clear BK395;clear BK396;clear BK415;clear BK420;clear HB;have HO_6:=n0_;have HO_7:=n1_;have HO_11:=n2_;have HO_416000:=n3_;have BK395:=n4_;have BK396:=n5_;have BK415:=n6_;have BK420:=n7_;have HB:=n8_;clear n0_ n1_ n2_ n3_ n4_ n5_ n6_ n7_ n8_;clear hg hw hp_))
             have n0_:=zMk (Kd.R_drew HO_6.out);have n1_:=zMk (Kd.R_drew HO_7.out);have n2_:=zMk (Kd.R_drew HO_11.out);have n3_:=zMk (Kd.S_drew HO_416000.out);have n4_:=zMk (blk_drew BK395.out);have n5_:=zMk (blk_drew BK396.out);have n6_:=zMk (blk_drew BK415.out);have n7_:=zMk (blk_drew BK420.out);have n8_:=zMk (below_drew1 HB.out);clear HO_6;clear HO_7;clear HO_11;clear HO_416000;clear BK395;clear BK396;clear BK415;clear BK420;clear HB;have HO_6:=n0_;have HO_7:=n1_;have HO_11:=n2_;have HO_416000:=n3_;have BK395:=n4_;have BK396:=n5_;have BK415:=n6_;have BK420:=n7_;have HB:=n8_;clear n0_ n1_ n2_ n3_ n4_ n5_ n6_ n7_ n8_;refine start_ (n:=8) (S:=fun w'=>w'.cell? ⟨gb420,0,none⟩ = some (.bool ((rd_T47 l0_0 x57_2).f0)) ∧ w'.cell? ⟨gb420,1,none⟩ = some (.slice A419_1 ((rd_T47 l0_0 x57_2).f1).length c419_1)) (ds:=[]) #[false,false,false,false,false,false,false,false] (by kernel_rfl) rfl rfl ⟨(zCl BK420.out 0).trans rfl,(zCl BK420.out 1).trans rfl⟩ (fun hHeld=>?_);refine with_tabW impl_SweepArena.tab19 impl_SweepArena.bits19 (fun HT_ HW_=>?_);generalize w63.drew = w64 at HO_6 HO_7 HO_11 HO_416000 BK395 BK396 BK415 BK420 HB hHeld ⊢;refine pure_ (i:=0) (N:=some 72) (v:=?_) (a':=?_) #[true,false,false,false,false,false,false,false] rfl rfl (any_of HT_.out (by kernel_rfl)) (fun _ _ _ h=>h) (Or.inl ⟨by rfl,?_⟩) ?_ ?_;rotate_left
             ·intro w';go_simp;with_reducible rfl
             rotate_left
             ·simp only [Act.put,List.setIfInBounds_toArray,List.set_cons_zero,List.set_cons_succ,i64_w,i32_w];rfl
             refine pure_ (i:=2) (N:=some 74) (v:=?_) (a':=?_) #[true,false,true,false,false,false,false,false] rfl rfl (any_of HT_.out (by kernel_rfl)) (fun _ _ _ h=>h) (Or.inl ⟨by rfl,?_⟩) ?_ ?_;rotate_left
             ·intro w';go_simp;with_reducible rfl
             rotate_left
             ·simp only [Act.put,List.setIfInBounds_toArray,List.set_cons_zero,List.set_cons_succ,i64_w,i32_w];rfl
             refine take_ (i:=1) (N:=some 73) (v:=?_) (a':=?_) #[true,true,true,false,false,false,false,false] rfl rfl (take_ofW HT_.out HW_.out (by kernel_rfl)) (fun _ _ _ h=>h) (Or.inl ⟨by rfl,?_⟩) hHeld ?_ ?_;rotate_left
             ·rintro w' ⟨s0,s1⟩;go_simp;with_reducible rfl
             rotate_left
             ·simp only [Act.put,List.setIfInBounds_toArray,List.set_cons_zero,List.set_cons_succ,i64_w,i32_w];rfl
             refine take_ (i:=3) (N:=some 75) (v:=?_) (a':=?_) #[true,true,true,true,false,false,false,false] rfl rfl (take_ofW HT_.out HW_.out (by kernel_rfl)) (fun _ _ _ h=>h) (Or.inl ⟨by rfl,?_⟩) hHeld ?_ ?_;rotate_left
             ·rintro w' ⟨s0,s1⟩;go_simp;with_reducible rfl
             rotate_left
             ·simp only [Act.put,List.setIfInBounds_toArray,List.set_cons_zero,List.set_cons_succ,i64_w,i32_w];rfl
             refine join_ (σ:=Value × Nat) 1 #[true,true,true,true,true,true,true,false] (fun s_=>[(76,s_.1),(14,.pointer (some ⟨s_.2,0,none⟩)),(77,.agg #[.bool ((rd_T47 l0_0 x57_2).f0),s_.1])]) (fun s_ w'=>(w'.cell? ⟨gb420,0,none⟩ = some (.bool ((rd_T47 l0_0 x57_2).f0)) ∧ w'.cell? ⟨gb420,1,none⟩ = some (.slice A419_1 ((rd_T47 l0_0 x57_2).f1).length c419_1)) ∧ (Kd.R (Kd.int .i64) 3 w' w.heap.size (fun k_=>some k_ ≠ (.slice (some ⟨go49,0,none⟩) x11_2.length co49 : Value).ownBlock ∧ some k_ ≠ (v398 : Value).ownBlock ∧ some k_ ≠ (.slice Ao57 x7_2.length co57 : Value).ownBlock) s_.1 t423) ∧ (Kd.R (Kd.int .i64) 3 w' w.heap.size (fun k_=>some k_ ≠ (s_.1 : Value).ownBlock ∧ some k_ ≠ (v398 : Value).ownBlock ∧ some k_ ≠ (.slice Ao57 x7_2.length co57 : Value).ownBlock) (.slice (some ⟨go49,0,none⟩) x11_2.length co49) y422) ∧ (Kd.S k47 47 w' w.heap.size (fun k_=>some k_ ≠ (s_.1 : Value).ownBlock ∧ some k_ ≠ (.slice (some ⟨go49,0,none⟩) x11_2.length co49 : Value).ownBlock ∧ some k_ ≠ (v398 : Value).ownBlock ∧ some k_ ≠ (.slice Ao57 x7_2.length co57 : Value).ownBlock ∧ k_ ≠ gb420 ∧ k_ ≠ s_.2) (.slice Ao61 x416000_2.length co61) x416000_2) ∧ (Kd.R (Kd.int .i64) 3 w' w.heap.size (fun k_=>some k_ ≠ (s_.1 : Value).ownBlock ∧ some k_ ≠ (.slice (some ⟨go49,0,none⟩) x11_2.length co49 : Value).ownBlock ∧ some k_ ≠ (.slice Ao57 x7_2.length co57 : Value).ownBlock) v398 x6_2) ∧ (Kd.R (Kd.int .i64) 3 w' w.heap.size (fun k_=>some k_ ≠ (s_.1 : Value).ownBlock ∧ some k_ ≠ (.slice (some ⟨go49,0,none⟩) x11_2.length co49 : Value).ownBlock ∧ some k_ ≠ (v398 : Value).ownBlock) (.slice Ao57 x7_2.length co57) x7_2) ∧ (w'.heap[gb395]? = some (.cells #[.slice (some ad419) l0_0.length c0_0] 26 (0,0))) ∧ (w'.heap[gb396]? = some (.cells #[.slice none 0 0] 26 (0,0))) ∧ (w'.heap[gb415]? = some (.cells #[.slice Ao61 x416000_2.length co61] 26 (0,0))) ∧ (w'.heap[gb420]? = some (.cells #[.bool ((rd_T47 l0_0 x57_2).f0),.slice A419_1 ((rd_T47 l0_0 x57_2).f1).length c419_1] 47 (0,0))) ∧ (w'.heap[s_.2]? = some (.cells #[.bool false,.slice none 0 0] 47 (0,0))) ∧ (w.heap.size ≤ s_.2) ∧ (w.heap.size ≤ s_.2) ∧ (gb395 ≠ s_.2) ∧ (s_.2 ≠ gb395) ∧ (gb396 ≠ s_.2) ∧ (s_.2 ≠ gb396) ∧ (gb415 ≠ s_.2) ∧ (s_.2 ≠ gb415) ∧ (gb420 ≠ s_.2) ∧ (s_.2 ≠ gb420) ∧ (Below w.heap.size w w')) ?_ ?_;rotate_left
             ·intro hCont;refine two_ (i:=4) (j:=6) (Ni:=some 76) (Nj:=some 14) #[true,true,true,true,true,false,false,false] #[true,true,true,true,false,false,true,false] rfl rfl rfl rfl (two_of HT_.out (by kernel_rfl)) (by decide) (by decide) (fun K hK=>?_) (fun K hK=>?_)
              ·skip
               refine goes_ Try.func26 (by kernel_rfl) rfl #[.slice A419_1 ((rd_T47 l0_0 x57_2).f1).length c419_1] (by rfl) rfl rfl (by (try simp only [List.map_toArray,List.map_cons,List.map_nil]);first | done | rfl | (simp only [List.length_drop,List.length_take];rfl)) ?_;with_reducible refine (impl_copyInts.calls _ _ ((rd_T47 l0_0 x57_2).f1) t423 _ ?side1 ?side2 A50.out).mono ?_
               (case side1=>repeat (first | exact (Kd.C_below HR419_1.out HB.out) | (with_reducible refine Kd.C_alloc ?_ _) | (with_reducible refine Kd.C_drewN ?_ _) | (with_reducible refine Kd.C_drew ?_)))
               (case side2=>exact HC419_1.out)
               rintro e w65 ⟨v424,rfl,ho0,hb⟩;refine ⟨_,rfl,?_⟩;have n0_:=zMk (Kd.R_elder' (rs HO_6) (Kd.R_base ho0) hb);have n1_:=zMk (Kd.R_elder' (rs HO_7) (Kd.R_base ho0) hb);have n2_:=zMk (Kd.R_elder' (rs HO_11) (Kd.R_base ho0) hb);have n3_:=zMk (Kd.S_elder' (ss HO_416000) (Kd.R_base ho0) hb);have n4_:=zMk (Kd.R_lower (Kd.R_new' (Kd.R_new' (Kd.R_new' ho0 (Kd.R_lt (rs HO_6))) (Kd.R_lt (rs HO_7))) (Kd.R_lt (rs HO_11))) (below_size (hs4 HB GE395 GE396 GE415 GE420)));have n5_:=zMk (blk_below (g:=gb395) (o:=.cells #[.slice (some ad419) l0_0.length c0_0] 26 (0,0)) (bs BK395) hb);have n6_:=zMk (blk_below (g:=gb396) (o:=.cells #[.slice none 0 0] 26 (0,0)) (bs BK396) hb);have n7_:=zMk (blk_below (g:=gb415) (o:=.cells #[.slice Ao61 x416000_2.length co61] 26 (0,0)) (bs BK415) hb);have n8_:=zMk (blk_below (g:=gb420) (o:=.cells #[.bool ((rd_T47 l0_0 x57_2).f0),.slice A419_1 ((rd_T47 l0_0 x57_2).f1).length c419_1] 47 (0,0)) (bs BK420) hb);have n9_:=zMk (below_step (hs4 HB GE395 GE396 GE415 GE420) hb);clear HO_6;clear HO_7;clear HO_11;clear HO_416000;clear BK395;clear BK396;clear BK415;clear BK420;clear HB;have HO_6:=n0_;have HO_7:=n1_;have HO_11:=n2_;have HO_416000:=n3_;have HO425:=n4_;have BK395:=n5_;have BK396:=n6_;have BK415:=n7_;have BK420:=n8_;have HB:=n9_;clear n0_ n1_ n2_ n3_ n4_ n5_ n6_ n7_ n8_ n9_
               (try clear hb)
               (try clear hb2)
               (try clear hk)
               (try clear hi)
               (try clear ho0)
               obtain ⟨Ao66,co66,eo66⟩:=Kd.R_slice HO425.out
               (first | subst eo66 | (injection eo66 with f1_ f2_ f3_;have f4_:=f1_.symm;have f5_:=f3_.symm;clear f1_ f2_ f3_;subst f4_;subst f5_))
               refine hK.out _ _ ⟨(zCl BK420.out 0).trans rfl,(zCl BK420.out 1).trans rfl⟩ (fun hHeld=>?_);clear hK K;refine norm_ (a':=?_) ?_ ?_;rotate_left
               ·show Act.put _ (some 76) _ = _;simp only [Act.put,List.setIfInBounds_toArray,List.set_cons_zero,List.set_cons_succ,i64_w,i32_w];rfl
               refine pure_ (i:=5) (N:=some 77) (v:=?_) (a':=?_) #[true,true,true,true,true,true,false,false] rfl rfl (any_of HT_.out (by kernel_rfl)) (fun _ _ _ h=>h) (Or.inl ⟨by rfl,?_⟩) ?_ ?_;rotate_left
               ·intro w';go_simp;with_reducible rfl
               rotate_left
               ·simp only [Act.put,List.setIfInBounds_toArray,List.set_cons_zero,List.set_cons_succ,i64_w,i32_w];rfl
               refine one_ (i:=6) (N:=some 14) #[true,true,true,true,true,true,true,false] rfl rfl (one_of HT_.out (by kernel_rfl)) (by decide) (fun K hK=>?_);refine box_step ?hg (N:=14) ?hd (cs:=#[.bool false,.slice none 0 0]) (t:=47) ?hr ?_;(case hd=>rfl);(case hg=>rfl);(case hr=>first | (go_simp;done) | (go_simp;rfl));intro gb426 hg w67 hbox hb;have n0_:=zMk (Kd.R_below (rs HO_6) hb);have n1_:=zMk (Kd.R_below (rs HO_7) hb);have n2_:=zMk (Kd.R_below (rs HO_11) hb);have n3_:=zMk (Kd.S_below (Kd.S_elderB (ss HO_416000) gb426 (Nat.le_of_eq hg.symm)) hb);have n4_:=zMk (Kd.R_below (rs HO425) hb);have n5_:=zMk (blk_below (g:=gb395) (o:=.cells #[.slice (some ad419) l0_0.length c0_0] 26 (0,0)) (bs BK395) hb);have n6_:=zMk (blk_below (g:=gb396) (o:=.cells #[.slice none 0 0] 26 (0,0)) (bs BK396) hb);have n7_:=zMk (blk_below (g:=gb415) (o:=.cells #[.slice Ao61 x416000_2.length co61] 26 (0,0)) (bs BK415) hb);have n8_:=zMk (blk_below (g:=gb420) (o:=.cells #[.bool ((rd_T47 l0_0 x57_2).f0),.slice A419_1 ((rd_T47 l0_0 x57_2).f1).length c419_1] 47 (0,0)) (bs BK420) hb);have n9_:=zMk (below_step (hs4 HB GE395 GE396 GE415 GE420) hb);have n10_:=zMk (hbox);have n11_:=zMk ((by rw [hg];exact (below_size (hs4 HB GE395 GE396 GE415 GE420)) : w.heap.size ≤ gb426));have n12_:=zMk ((by rw [hg];exact (below_size (hs4 HB GE395 GE396 GE415 GE420)) : w.heap.size ≤ gb426));have n13_:=zMk ((by rw [hg];exact Nat.ne_of_lt (blk_lt (g:=gb395) (o:=.cells #[.slice (some ad419) l0_0.length c0_0] 26 (0,0)) (bs BK395)) : gb395 ≠ gb426));have n14_:=zMk ((by rw [hg];exact Nat.ne_of_gt (blk_lt (g:=gb395) (o:=.cells #[.slice (some ad419) l0_0.length c0_0] 26 (0,0)) (bs BK395)) : gb426 ≠ gb395));have n15_:=zMk ((by rw [hg];exact Nat.ne_of_lt (blk_lt (g:=gb396) (o:=.cells #[.slice none 0 0] 26 (0,0)) (bs BK396)) : gb396 ≠ gb426));have n16_:=zMk ((by rw [hg];exact Nat.ne_of_gt (blk_lt (g:=gb396) (o:=.cells #[.slice none 0 0] 26 (0,0)) (bs BK396)) : gb426 ≠ gb396));have n17_:=zMk ((by rw [hg];exact Nat.ne_of_lt (blk_lt (g:=gb415) (o:=.cells #[.slice Ao61 x416000_2.length co61] 26 (0,0)) (bs BK415)) : gb415 ≠ gb426));have n18_:=zMk ((by rw [hg];exact Nat.ne_of_gt (blk_lt (g:=gb415) (o:=.cells #[.slice Ao61 x416000_2.length co61] 26 (0,0)) (bs BK415)) : gb426 ≠ gb415));have n19_:=zMk ((by rw [hg];exact Nat.ne_of_lt (blk_lt (g:=gb420) (o:=.cells #[.bool ((rd_T47 l0_0 x57_2).f0),.slice A419_1 ((rd_T47 l0_0 x57_2).f1).length c419_1] 47 (0,0)) (bs BK420)) : gb420 ≠ gb426));have n20_:=zMk ((by rw [hg];exact Nat.ne_of_gt (blk_lt (g:=gb420) (o:=.cells #[.bool ((rd_T47 l0_0 x57_2).f0),.slice A419_1 ((rd_T47 l0_0 x57_2).f1).length c419_1] 47 (0,0)) (bs BK420)) : gb426 ≠ gb420));clear HO_6;clear HO_7;clear HO_11;clear HO_416000;clear HO425;clear BK395;clear BK396;clear BK415;clear BK420;clear HB;have HO_6:=n0_;have HO_7:=n1_;have HO_11:=n2_;have HO_416000:=n3_;have HO425:=n4_;have BK395:=n5_;have BK396:=n6_;have BK415:=n7_;have BK420:=n8_;have HB:=n9_;have BK426:=n10_;have GW426:=n11_;have GE426:=n12_;have NB395_426:=n13_;have NB426_395:=n14_;have NB396_426:=n15_;have NB426_396:=n16_;have NB415_426:=n17_;have NB426_415:=n18_;have NB420_426:=n19_;have NB426_420:=n20_;clear n0_ n1_ n2_ n3_ n4_ n5_ n6_ n7_ n8_ n9_ n10_ n11_ n12_ n13_ n14_ n15_ n16_ n17_ n18_ n19_ n20_;clear hb hbox hg;refine hK.out _ _ ⟨(zCl BK420.out 0).trans rfl,(zCl BK420.out 1).trans rfl⟩ (fun hHeld=>?_);clear hK K;refine norm_ (a':=?_) ?_ ?_;rotate_left
               ·show Act.put _ (some 14) _ = _;simp only [Act.put,List.setIfInBounds_toArray,List.set_cons_zero,List.set_cons_succ,i64_w,i32_w];rfl
               exact norm_ (by simp only [putAll,Act.put,List.setIfInBounds_toArray,List.set_cons_zero,List.set_cons_succ]) (hCont (.slice Ao66 t423.length co66,gb426) _ ⟨hHeld,(by (with_reducible repeat (first | apply Kd.R_alloc | apply Kd.R_drewN | apply Kd.R_drew));exact Kd.R_mono HO425.out (fun _ hk=>⟨hk.2,⟨hk.1.1.2,hk.1.2⟩⟩)),(by (with_reducible repeat (first | apply Kd.R_alloc | apply Kd.R_drewN | apply Kd.R_drew));exact Kd.R_mono HO_11.out (fun _ hk=>⟨hk.2,⟨hk.1.1,hk.1.2⟩⟩)),(by (with_reducible repeat (first | apply Kd.S_alloc | apply Kd.S_drewN | apply Kd.S_drew));exact Kd.S_mono HO_416000.out (fun _ hk=>⟨hk.1.2,⟨hk.1.1.2,⟨hk.1.1.1.1,⟨hk.1.1.1.2.1,⟨hk.1.1.1.2.2,hk.2⟩⟩⟩⟩⟩)),(by (with_reducible repeat (first | apply Kd.R_alloc | apply Kd.R_drewN | apply Kd.R_drew));exact Kd.R_mono HO_6.out (fun _ hk=>⟨hk.2,⟨hk.1.2,hk.1.1⟩⟩)),(by (with_reducible repeat (first | apply Kd.R_alloc | apply Kd.R_drewN | apply Kd.R_drew));exact Kd.R_mono HO_7.out (fun _ hk=>⟨hk.2,⟨hk.1.2,hk.1.1⟩⟩)),(bs BK395),(bs BK396),(bs BK415),(bs BK420),(bs BK426),GW426.out,GE426.out,NB395_426.out,NB426_395.out,NB396_426.out,NB426_396.out,NB415_426.out,NB426_415.out,NB420_426.out,NB426_420.out,(hs5 HB GE395 GE396 GE415 GE420 GE426)⟩)
              skip
              refine box_step ?hg (N:=14) ?hd (cs:=#[.bool false,.slice none 0 0]) (t:=47) ?hr ?_;(case hd=>rfl);(case hg=>rfl);(case hr=>first | (go_simp;done) | (go_simp;rfl));intro gb426 hg w65 hbox hb;have n0_:=zMk (Kd.R_below (rs HO_6) hb);have n1_:=zMk (Kd.R_below (rs HO_7) hb);have n2_:=zMk (Kd.R_below (rs HO_11) hb);have n3_:=zMk (Kd.S_below (Kd.S_elderB (ss HO_416000) gb426 (Nat.le_of_eq hg.symm)) hb);have n4_:=zMk (blk_below (g:=gb395) (o:=.cells #[.slice (some ad419) l0_0.length c0_0] 26 (0,0)) (bs BK395) hb);have n5_:=zMk (blk_below (g:=gb396) (o:=.cells #[.slice none 0 0] 26 (0,0)) (bs BK396) hb);have n6_:=zMk (blk_below (g:=gb415) (o:=.cells #[.slice Ao61 x416000_2.length co61] 26 (0,0)) (bs BK415) hb);have n7_:=zMk (blk_below (g:=gb420) (o:=.cells #[.bool ((rd_T47 l0_0 x57_2).f0),.slice A419_1 ((rd_T47 l0_0 x57_2).f1).length c419_1] 47 (0,0)) (bs BK420) hb);have n8_:=zMk (below_step (hs4 HB GE395 GE396 GE415 GE420) hb);have n9_:=zMk (hbox);have n10_:=zMk ((by rw [hg];exact (below_size (hs4 HB GE395 GE396 GE415 GE420)) : w.heap.size ≤ gb426));have n11_:=zMk ((by rw [hg];exact (below_size (hs4 HB GE395 GE396 GE415 GE420)) : w.heap.size ≤ gb426));have n12_:=zMk ((by rw [hg];exact Nat.ne_of_lt (blk_lt (g:=gb395) (o:=.cells #[.slice (some ad419) l0_0.length c0_0] 26 (0,0)) (bs BK395)) : gb395 ≠ gb426));have n13_:=zMk ((by rw [hg];exact Nat.ne_of_gt (blk_lt (g:=gb395) (o:=.cells #[.slice (some ad419) l0_0.length c0_0] 26 (0,0)) (bs BK395)) : gb426 ≠ gb395));have n14_:=zMk ((by rw [hg];exact Nat.ne_of_lt (blk_lt (g:=gb396) (o:=.cells #[.slice none 0 0] 26 (0,0)) (bs BK396)) : gb396 ≠ gb426));have n15_:=zMk ((by rw [hg];exact Nat.ne_of_gt (blk_lt (g:=gb396) (o:=.cells #[.slice none 0 0] 26 (0,0)) (bs BK396)) : gb426 ≠ gb396));have n16_:=zMk ((by rw [hg];exact Nat.ne_of_lt (blk_lt (g:=gb415) (o:=.cells #[.slice Ao61 x416000_2.length co61] 26 (0,0)) (bs BK415)) : gb415 ≠ gb426));have n17_:=zMk ((by rw [hg];exact Nat.ne_of_gt (blk_lt (g:=gb415) (o:=.cells #[.slice Ao61 x416000_2.length co61] 26 (0,0)) (bs BK415)) : gb426 ≠ gb415));have n18_:=zMk ((by rw [hg];exact Nat.ne_of_lt (blk_lt (g:=gb420) (o:=.cells #[.bool ((rd_T47 l0_0 x57_2).f0),.slice A419_1 ((rd_T47 l0_0 x57_2).f1).length c419_1] 47 (0,0)) (bs BK420)) : gb420 ≠ gb426));have n19_:=zMk ((by rw [hg];exact Nat.ne_of_gt (blk_lt (g:=gb420) (o:=.cells #[.bool ((rd_T47 l0_0 x57_2).f0),.slice A419_1 ((rd_T47 l0_0 x57_2).f1).length c419_1] 47 (0,0)) (bs BK420)) : gb426 ≠ gb420));clear HO_6;clear HO_7;clear HO_11;clear HO_416000;clear BK395;clear BK396;clear BK415;clear BK420;clear HB;have HO_6:=n0_;have HO_7:=n1_;have HO_11:=n2_;have HO_416000:=n3_;have BK395:=n4_;have BK396:=n5_;have BK415:=n6_;have BK420:=n7_;have HB:=n8_;have BK426:=n9_;have GW426:=n10_;have GE426:=n11_;have NB395_426:=n12_;have NB426_395:=n13_;have NB396_426:=n14_;have NB426_396:=n15_;have NB415_426:=n16_;have NB426_415:=n17_;have NB420_426:=n18_;have NB426_420:=n19_;clear n0_ n1_ n2_ n3_ n4_ n5_ n6_ n7_ n8_ n9_ n10_ n11_ n12_ n13_ n14_ n15_ n16_ n17_ n18_ n19_;clear hb hbox hg;refine hK.out _ _ ⟨(zCl BK420.out 0).trans rfl,(zCl BK420.out 1).trans rfl⟩ (fun hHeld=>?_);clear hK K;refine norm_ (a':=?_) ?_ ?_;rotate_left
              ·show Act.put _ (some 14) _ = _;simp only [Act.put,List.setIfInBounds_toArray,List.set_cons_zero,List.set_cons_succ,i64_w,i32_w];rfl
              refine one_ (i:=4) (N:=some 76) #[true,true,true,true,true,false,true,false] rfl rfl (one_of HT_.out (by kernel_rfl)) (by decide) (fun K hK=>?_);refine goes_ Try.func26 (by kernel_rfl) rfl #[.slice A419_1 ((rd_T47 l0_0 x57_2).f1).length c419_1] (by rfl) rfl rfl (by (try simp only [List.map_toArray,List.map_cons,List.map_nil]);first | done | rfl | (simp only [List.length_drop,List.length_take];rfl)) ?_;with_reducible refine (impl_copyInts.calls _ _ ((rd_T47 l0_0 x57_2).f1) t423 _ ?side1 ?side2 A50.out).mono ?_
              (case side1=>repeat (first | exact (Kd.C_below HR419_1.out HB.out) | (with_reducible refine Kd.C_alloc ?_ _) | (with_reducible refine Kd.C_drewN ?_ _) | (with_reducible refine Kd.C_drew ?_)))
              (case side2=>exact HC419_1.out)
              rintro e w66 ⟨v424,rfl,ho0,hb⟩;refine ⟨_,rfl,?_⟩;have n0_:=zMk (Kd.R_elder' (rs HO_6) (Kd.R_base ho0) hb);have n1_:=zMk (Kd.R_elder' (rs HO_7) (Kd.R_base ho0) hb);have n2_:=zMk (Kd.R_elder' (rs HO_11) (Kd.R_base ho0) hb);have n3_:=zMk (Kd.S_elder' (ss HO_416000) (Kd.R_base ho0) hb);have n4_:=zMk (Kd.R_lower (Kd.R_new' (Kd.R_new' (Kd.R_new' ho0 (Kd.R_lt (rs HO_6))) (Kd.R_lt (rs HO_7))) (Kd.R_lt (rs HO_11))) (below_size (hs5 HB GE395 GE396 GE415 GE420 GE426)));have n5_:=zMk (blk_below (g:=gb395) (o:=.cells #[.slice (some ad419) l0_0.length c0_0] 26 (0,0)) (bs BK395) hb);have n6_:=zMk (blk_below (g:=gb396) (o:=.cells #[.slice none 0 0] 26 (0,0)) (bs BK396) hb);have n7_:=zMk (blk_below (g:=gb415) (o:=.cells #[.slice Ao61 x416000_2.length co61] 26 (0,0)) (bs BK415) hb);have n8_:=zMk (blk_below (g:=gb420) (o:=.cells #[.bool ((rd_T47 l0_0 x57_2).f0),.slice A419_1 ((rd_T47 l0_0 x57_2).f1).length c419_1] 47 (0,0)) (bs BK420) hb);have n9_:=zMk (blk_below (g:=gb426) (o:=.cells #[.bool false,.slice none 0 0] 47 (0,0)) (bs BK426) hb);have n10_:=zMk (below_step (hs5 HB GE395 GE396 GE415 GE420 GE426) hb);clear HO_6;clear HO_7;clear HO_11;clear HO_416000;clear BK395;clear BK396;clear BK415;clear BK420;clear BK426;clear HB;have HO_6:=n0_;have HO_7:=n1_;have HO_11:=n2_;have HO_416000:=n3_;have HO425:=n4_;have BK395:=n5_;have BK396:=n6_;have BK415:=n7_;have BK420:=n8_;have BK426:=n9_;have HB:=n10_;clear n0_ n1_ n2_ n3_ n4_ n5_ n6_ n7_ n8_ n9_ n10_
              (try clear hb)
              (try clear hb2)
              (try clear hk)
              (try clear hi)
              (try clear ho0)
              obtain ⟨Ao67,co67,eo67⟩:=Kd.R_slice HO425.out
              (first | subst eo67 | (injection eo67 with f1_ f2_ f3_;have f4_:=f1_.symm;have f5_:=f3_.symm;clear f1_ f2_ f3_;subst f4_;subst f5_))
              refine hK.out _ _ ⟨(zCl BK420.out 0).trans rfl,(zCl BK420.out 1).trans rfl⟩ (fun hHeld=>?_);clear hK K;refine norm_ (a':=?_) ?_ ?_;rotate_left
              ·show Act.put _ (some 76) _ = _;simp only [Act.put,List.setIfInBounds_toArray,List.set_cons_zero,List.set_cons_succ,i64_w,i32_w];rfl
              refine pure_ (i:=5) (N:=some 77) (v:=?_) (a':=?_) #[true,true,true,true,true,true,true,false] rfl rfl (any_of HT_.out (by kernel_rfl)) (fun _ _ _ h=>h) (Or.inl ⟨by rfl,?_⟩) ?_ ?_;rotate_left
              ·intro w';go_simp;with_reducible rfl
              rotate_left
              ·simp only [Act.put,List.setIfInBounds_toArray,List.set_cons_zero,List.set_cons_succ,i64_w,i32_w];rfl
              exact norm_ (by simp only [putAll,Act.put,List.setIfInBounds_toArray,List.set_cons_zero,List.set_cons_succ]) (hCont (.slice Ao67 t423.length co67,gb426) _ ⟨hHeld,(by (with_reducible repeat (first | apply Kd.R_alloc | apply Kd.R_drewN | apply Kd.R_drew));exact Kd.R_mono HO425.out (fun _ hk=>⟨hk.2,⟨hk.1.1.2,hk.1.2⟩⟩)),(by (with_reducible repeat (first | apply Kd.R_alloc | apply Kd.R_drewN | apply Kd.R_drew));exact Kd.R_mono HO_11.out (fun _ hk=>⟨hk.2,⟨hk.1.1,hk.1.2⟩⟩)),(by (with_reducible repeat (first | apply Kd.S_alloc | apply Kd.S_drewN | apply Kd.S_drew));exact Kd.S_mono HO_416000.out (fun _ hk=>⟨hk.2,⟨hk.1.1.2,⟨hk.1.1.1.1,⟨hk.1.1.1.2.1,⟨hk.1.1.1.2.2,hk.1.2⟩⟩⟩⟩⟩)),(by (with_reducible repeat (first | apply Kd.R_alloc | apply Kd.R_drewN | apply Kd.R_drew));exact Kd.R_mono HO_6.out (fun _ hk=>⟨hk.2,⟨hk.1.2,hk.1.1⟩⟩)),(by (with_reducible repeat (first | apply Kd.R_alloc | apply Kd.R_drewN | apply Kd.R_drew));exact Kd.R_mono HO_7.out (fun _ hk=>⟨hk.2,⟨hk.1.2,hk.1.1⟩⟩)),(bs BK395),(bs BK396),(bs BK415),(bs BK420),(bs BK426),GW426.out,GE426.out,NB395_426.out,NB426_395.out,NB396_426.out,NB426_396.out,NB415_426.out,NB426_415.out,NB420_426.out,NB426_420.out,(hs5 HB GE395 GE396 GE415 GE420 GE426)⟩)
             rintro ⟨v424,gb426⟩ w68 ⟨hS_,h0_,h1_,h2_,h3_,h4_,h5_,h6_,h7_,h8_,h9_,h10_,h11_,h12_,h13_,h14_,h15_,h16_,h17_,h18_,h19_,h20_⟩;have n0_ : Aside0 (Kd.R (Kd.int .i64) 3 w68 w.heap.size (fun k_=>some k_ ≠ (.slice (some ⟨go49,0,none⟩) x11_2.length co49 : Value).ownBlock ∧ some k_ ≠ (v398 : Value).ownBlock ∧ some k_ ≠ (.slice Ao57 x7_2.length co57 : Value).ownBlock) v424 t423):=⟨h0_⟩;have n1_ : Aside0 (Kd.R (Kd.int .i64) 3 w68 w.heap.size (fun k_=>some k_ ≠ (v424 : Value).ownBlock ∧ some k_ ≠ (v398 : Value).ownBlock ∧ some k_ ≠ (.slice Ao57 x7_2.length co57 : Value).ownBlock) (.slice (some ⟨go49,0,none⟩) x11_2.length co49) y422):=⟨h1_⟩;have n2_ : Aside0 (Kd.S k47 47 w68 w.heap.size (fun k_=>some k_ ≠ (v424 : Value).ownBlock ∧ some k_ ≠ (.slice (some ⟨go49,0,none⟩) x11_2.length co49 : Value).ownBlock ∧ some k_ ≠ (v398 : Value).ownBlock ∧ some k_ ≠ (.slice Ao57 x7_2.length co57 : Value).ownBlock ∧ k_ ≠ gb420 ∧ k_ ≠ gb426) (.slice Ao61 x416000_2.length co61) x416000_2):=⟨h2_⟩;have n3_ : Aside0 (Kd.R (Kd.int .i64) 3 w68 w.heap.size (fun k_=>some k_ ≠ (v424 : Value).ownBlock ∧ some k_ ≠ (.slice (some ⟨go49,0,none⟩) x11_2.length co49 : Value).ownBlock ∧ some k_ ≠ (.slice Ao57 x7_2.length co57 : Value).ownBlock) v398 x6_2):=⟨h3_⟩;have n4_ : Aside0 (Kd.R (Kd.int .i64) 3 w68 w.heap.size (fun k_=>some k_ ≠ (v424 : Value).ownBlock ∧ some k_ ≠ (.slice (some ⟨go49,0,none⟩) x11_2.length co49 : Value).ownBlock ∧ some k_ ≠ (v398 : Value).ownBlock) (.slice Ao57 x7_2.length co57) x7_2):=⟨h4_⟩;have n5_ : Aside0 (w68.heap[gb395]? = some (.cells #[.slice (some ad419) l0_0.length c0_0] 26 (0,0))):=⟨h5_⟩;have n6_ : Aside0 (w68.heap[gb396]? = some (.cells #[.slice none 0 0] 26 (0,0))):=⟨h6_⟩;have n7_ : Aside0 (w68.heap[gb415]? = some (.cells #[.slice Ao61 x416000_2.length co61] 26 (0,0))):=⟨h7_⟩;have n8_ : Aside0 (w68.heap[gb420]? = some (.cells #[.bool ((rd_T47 l0_0 x57_2).f0),.slice A419_1 ((rd_T47 l0_0 x57_2).f1).length c419_1] 47 (0,0))):=⟨h8_⟩;have n9_ : Aside0 (w68.heap[gb426]? = some (.cells #[.bool false,.slice none 0 0] 47 (0,0))):=⟨h9_⟩;have n10_ : Aside0 (w.heap.size ≤ gb426):=⟨h10_⟩;have n11_ : Aside0 (w.heap.size ≤ gb426):=⟨h11_⟩;have n12_ : Aside0 (gb395 ≠ gb426):=⟨h12_⟩;have n13_ : Aside0 (gb426 ≠ gb395):=⟨h13_⟩;have n14_ : Aside0 (gb396 ≠ gb426):=⟨h14_⟩;have n15_ : Aside0 (gb426 ≠ gb396):=⟨h15_⟩;have n16_ : Aside0 (gb415 ≠ gb426):=⟨h16_⟩;have n17_ : Aside0 (gb426 ≠ gb415):=⟨h17_⟩;have n18_ : Aside0 (gb420 ≠ gb426):=⟨h18_⟩;have n19_ : Aside0 (gb426 ≠ gb420):=⟨h19_⟩;have n20_ : Aside0 (Below w.heap.size w w68):=⟨h20_⟩;clear HO_6;clear HO_7;clear HO_11;clear HO_416000;clear BK395;clear BK396;clear BK415;clear BK420;clear HB;clear h0_ h1_ h2_ h3_ h4_ h5_ h6_ h7_ h8_ h9_ h10_ h11_ h12_ h13_ h14_ h15_ h16_ h17_ h18_ h19_ h20_;have HO425:=n0_;have HO_11:=n1_;have HO_416000:=n2_;have HO_6:=n3_;have HO_7:=n4_;have BK395:=n5_;have BK396:=n6_;have BK415:=n7_;have BK420:=n8_;have BK426:=n9_;have GW426:=n10_;have GE426:=n11_;have NB395_426:=n12_;have NB426_395:=n13_;have NB396_426:=n14_;have NB426_396:=n15_;have NB415_426:=n16_;have NB426_415:=n17_;have NB420_426:=n18_;have NB426_420:=n19_;have HB:=n20_;clear n0_ n1_ n2_ n3_ n4_ n5_ n6_ n7_ n8_ n9_ n10_ n11_ n12_ n13_ n14_ n15_ n16_ n17_ n18_ n19_ n20_;have hHeld : w68.cell? ⟨gb420,0,none⟩ = some (.bool ((rd_T47 l0_0 x57_2).f0)) ∧ w68.cell? ⟨gb420,1,none⟩ = some (.slice A419_1 ((rd_T47 l0_0 x57_2).f1).length c419_1):=hS_;obtain ⟨Ao69,co69,eo69⟩:=Kd.R_slice HO425.out
             (first | subst eo69 | (injection eo69 with f1_ f2_ f3_;have f4_:=f1_.symm;have f5_:=f3_.symm;clear f1_ f2_ f3_;subst f4_;subst f5_))
             refine norm_ (a':=?_) ?_ ?_;rotate_left
             ·simp only [putAll,Act.put,List.setIfInBounds_toArray,List.set_cons_zero,List.set_cons_succ];rfl
             refine one_ (i:=7) (N:=none) #[true,true,true,true,true,true,true,true] rfl rfl (one_of HT_.out (by kernel_rfl)) (by decide) (fun K hK=>?_);have hs70 : w68.cell? ⟨gb426,0,none⟩ = some (.bool false):=(zCl BK426.out 0).trans rfl;have hfs70:=zFr BK426.out 0;have hns70_0:=NB395_426.out;have hns70_1:=NB396_426.out;have hns70_2:=NB415_426.out;have hns70_3:=NB420_426.out;have hms70_0:=NB426_395.out;have hms70_1:=NB426_396.out;have hms70_2:=NB426_415.out;have hms70_3:=NB426_420.out;have hs71 : w68.cell? ⟨gb426,1,none⟩ = some (.slice none 0 0):=(zCl BK426.out 1).trans rfl;have hfs71:=zFr BK426.out 1;have hns71_0:=NB395_426.out;have hns71_1:=NB396_426.out;have hns71_2:=NB415_426.out;have hns71_3:=NB420_426.out;have hms71_0:=NB426_395.out;have hms71_1:=NB426_396.out;have hms71_2:=NB426_415.out;have hms71_3:=NB426_420.out;refine skip_ (w1:=?_) (by rfl) rfl ?_ ?_;rotate_left
             ·go_simp;rfl
             refine hK.out _ _ ⟨((cell_far (p:=⟨gb426,_,none⟩) NB420_426.out _).trans (((cell_far (p:=⟨gb426,_,none⟩) NB420_426.out _).trans (hHeld.1)))),((cell_far (p:=⟨gb426,_,none⟩) NB420_426.out _).trans (((cell_far (p:=⟨gb426,_,none⟩) NB420_426.out _).trans (hHeld.2))))⟩ (fun hHeld=>?_);clear hK K;refine done_ (done_of HT_.out (by kernel_rfl)) ?_;have hnb72:=NB420_426.out;have hnc72:=NB426_420.out;have hcz73_0 : w68.cell? ⟨gb420,0,none⟩ = some (.bool ((rd_T47 l0_0 x57_2).f0)):=(zCl BK420.out 0).trans rfl;have hcz73_1 : w68.cell? ⟨gb420,1,none⟩ = some (.slice A419_1 ((rd_T47 l0_0 x57_2).f1).length c419_1):=(zCl BK420.out 1).trans rfl;have hfz73_0:=zFr BK420.out 0;have hfz73_1:=zFr BK420.out 1
             try go_wp2
             (try generalize (Value.agg #[.bool ((rd_T47 l0_0 x57_2).f0),.slice A419_1 ((rd_T47 l0_0 x57_2).f1).length c419_1]) = gd61)
             (try generalize (Value.agg #[.bool ((rd_T47 l0_0 x57_2).f0),.slice Ao69 t423.length co69]) = gd77)
             obtain ⟨gdx_,hgdx_⟩ : ∃ v_ : Value,v_ = (Value.bool (rd_T47 l0_0 x57_2).f0):=⟨_,rfl⟩
             (first | (conv=>arg 4;rw [← hgdx_]) | (conv=>arg 5;rw [← hgdx_]) | skip)
             have Ngdx_:=zMk hgdx_;clear hgdx_;go_loopg [81] k2 (fun kq v81 w'=>∃ (x6_3 : List Int) (x7_3 : List Int) (x11_3 : List Int) (x81_3 : Int) (x427001_3 : List Int) (u427001 : Value),v81 = .int .i64 x81_3 ∧ Aside0 (impl_SweepArena.l2 kq l1 x6_3 x7_3 x11_3 l0_0 (l0_0.length : Int) x57_2 ((rd_T47 l0_0 x57_2).f1) (((rd_T47 l0_0 x57_2).f1).length : Int) x81_3 x416000_2 ((rd_T47 l0_0 x57_2).f0) ((rd_T47 l0_0 x57_2).f1) ((rd_T47 l0_0 x57_2).f0) x427001_3 = some (r1,r2)) ∧ Aside0 (kq ≤ k2) ∧ Aside0 (Kd.R (Kd.int .i64) 3 w' w.heap.size (fun k_=>some k_ ≠ ((.slice Ao57 x7_2.length co57) : Value).ownBlock ∧ some k_ ≠ ((.slice (some ⟨go49,0,none⟩) x11_2.length co49) : Value).ownBlock ∧ some k_ ≠ (u427001 : Value).ownBlock) v398 x6_3) ∧ Aside0 (Kd.R (Kd.int .i64) 3 w' w.heap.size (fun k_=>some k_ ≠ (v398 : Value).ownBlock ∧ some k_ ≠ ((.slice (some ⟨go49,0,none⟩) x11_2.length co49) : Value).ownBlock ∧ some k_ ≠ (u427001 : Value).ownBlock) (.slice Ao57 x7_2.length co57) x7_3) ∧ Aside0 (Kd.R (Kd.int .i64) 3 w' w.heap.size (fun k_=>some k_ ≠ (v398 : Value).ownBlock ∧ some k_ ≠ ((.slice Ao57 x7_2.length co57) : Value).ownBlock ∧ some k_ ≠ (u427001 : Value).ownBlock) (.slice (some ⟨go49,0,none⟩) x11_2.length co49) x11_3) ∧ Aside0 (Kd.S k47 47 w' w.heap.size (fun k_=>some k_ ≠ (v398 : Value).ownBlock ∧ some k_ ≠ ((.slice Ao57 x7_2.length co57) : Value).ownBlock ∧ some k_ ≠ ((.slice (some ⟨go49,0,none⟩) x11_2.length co49) : Value).ownBlock ∧ some k_ ≠ (u427001 : Value).ownBlock ∧ k_ ≠ gb420 ∧ k_ ≠ gb426) (.slice Ao61 x416000_2.length co61) x416000_2) ∧ Aside0 (Kd.R (Kd.int .i64) 3 w' w.heap.size (fun k_=>some k_ ≠ (v398 : Value).ownBlock ∧ some k_ ≠ ((.slice Ao57 x7_2.length co57) : Value).ownBlock ∧ some k_ ≠ ((.slice (some ⟨go49,0,none⟩) x11_2.length co49) : Value).ownBlock) u427001 x427001_3) ∧ Aside0 (w'.heap[gb395]? = some (.cells #[(.slice (some ad419) l0_0.length c0_0)] 26 (0,0))) ∧ Aside0 (w'.heap[gb396]? = some (.cells #[(.slice none 0 0)] 26 (0,0))) ∧ Aside0 (w'.heap[gb415]? = some (.cells #[(.slice Ao61 x416000_2.length co61)] 26 (0,0))) ∧ Aside0 (w'.heap[gb420]? = some (.cells #[.bool ((rd_T47 l0_0 x57_2).f0),(.slice A419_1 ((rd_T47 l0_0 x57_2).f1).length c419_1)] 47 (0,0))) ∧ Aside0 (w'.heap[gb426]? = some (.cells #[.bool ((rd_T47 l0_0 x57_2).f0),u427001] 47 (0,0))) ∧ Aside0 (Below w.heap.size w w'));case atStart=>exact ⟨(x6_2),(x7_2),(y422),(0),(t423),(.slice Ao69 t423.length co69),(by first | rfl | (simp;done) | (simp [*];done)),H',⟨Nat.le_refl _⟩,⟨by (with_reducible repeat (first | apply Kd.R_alloc | apply Kd.R_drewN | apply Kd.R_drew));exact Kd.R_mono (Kd.R_far (p:=⟨gb426,1,none⟩) (Kd.R_far (p:=⟨gb426,0,none⟩) (Kd.R_types HO_6.out BK426.out (by decide)) (fun _ hk=>hk.2) (.bool ((rd_T47 l0_0 x57_2).f0))) (fun _ hk=>hk.2) (.slice Ao69 t423.length co69)) (fun _ hk=>⟨hk.1.2.2,⟨hk.1.2.1,hk.1.1⟩⟩)⟩,⟨by (with_reducible repeat (first | apply Kd.R_alloc | apply Kd.R_drewN | apply Kd.R_drew));exact Kd.R_mono (Kd.R_far (p:=⟨gb426,1,none⟩) (Kd.R_far (p:=⟨gb426,0,none⟩) (Kd.R_types HO_7.out BK426.out (by decide)) (fun _ hk=>hk.2) (.bool ((rd_T47 l0_0 x57_2).f0))) (fun _ hk=>hk.2) (.slice Ao69 t423.length co69)) (fun _ hk=>⟨hk.1.2.2,⟨hk.1.2.1,hk.1.1⟩⟩)⟩,⟨by (with_reducible repeat (first | apply Kd.R_alloc | apply Kd.R_drewN | apply Kd.R_drew));exact Kd.R_mono (Kd.R_far (p:=⟨gb426,1,none⟩) (Kd.R_far (p:=⟨gb426,0,none⟩) (Kd.R_types HO_11.out BK426.out (by decide)) (fun _ hk=>hk.2) (.bool ((rd_T47 l0_0 x57_2).f0))) (fun _ hk=>hk.2) (.slice Ao69 t423.length co69)) (fun _ hk=>⟨hk.1.2.1,⟨hk.1.2.2,hk.1.1⟩⟩)⟩,⟨by (with_reducible repeat (first | apply Kd.S_alloc | apply Kd.S_drewN | apply Kd.S_drew));exact Kd.S_mono (Kd.S_far (p:=⟨gb426,1,none⟩) (Kd.S_far (p:=⟨gb426,0,none⟩) (Kd.S_mono HO_416000.out (fun k_ hk=>(⟨hk,hk.2.2.2.2.2⟩ : _ ∧ k_ ≠ gb426))) (fun _ hk=>hk.2) (.bool ((rd_T47 l0_0 x57_2).f0))) (fun _ hk=>hk.2) (.slice Ao69 t423.length co69)) (fun _ hk=>⟨hk.1.2.2.1,⟨hk.1.2.2.2.1,⟨hk.1.2.1,⟨hk.1.1,⟨hk.1.2.2.2.2.1,hk.1.2.2.2.2.2⟩⟩⟩⟩⟩)⟩,⟨by (with_reducible repeat (first | apply Kd.R_alloc | apply Kd.R_drewN | apply Kd.R_drew));exact Kd.R_mono (Kd.R_far (p:=⟨gb426,1,none⟩) (Kd.R_far (p:=⟨gb426,0,none⟩) (Kd.R_types HO425.out BK426.out (by decide)) (fun _ hk=>hk.2) (.bool ((rd_T47 l0_0 x57_2).f0))) (fun _ hk=>hk.2) (.slice Ao69 t423.length co69)) (fun _ hk=>⟨hk.1.2.1,⟨hk.1.2.2,hk.1.1⟩⟩)⟩,⟨by (with_reducible repeat (first | refine blk_drewN ?_ _ | refine blk_drew ?_ | refine blk_alloc ?_ _));refine blk_far ?_ NB395_426.out _;(with_reducible repeat (first | refine blk_drewN ?_ _ | refine blk_drew ?_ | refine blk_alloc ?_ _));refine blk_far ?_ NB395_426.out _;(with_reducible repeat (first | refine blk_drewN ?_ _ | refine blk_drew ?_ | refine blk_alloc ?_ _));exact BK395.out⟩,⟨by (with_reducible repeat (first | refine blk_drewN ?_ _ | refine blk_drew ?_ | refine blk_alloc ?_ _));refine blk_far ?_ NB396_426.out _;(with_reducible repeat (first | refine blk_drewN ?_ _ | refine blk_drew ?_ | refine blk_alloc ?_ _));refine blk_far ?_ NB396_426.out _;(with_reducible repeat (first | refine blk_drewN ?_ _ | refine blk_drew ?_ | refine blk_alloc ?_ _));exact BK396.out⟩,⟨by (with_reducible repeat (first | refine blk_drewN ?_ _ | refine blk_drew ?_ | refine blk_alloc ?_ _));refine blk_far ?_ NB415_426.out _;(with_reducible repeat (first | refine blk_drewN ?_ _ | refine blk_drew ?_ | refine blk_alloc ?_ _));refine blk_far ?_ NB415_426.out _;(with_reducible repeat (first | refine blk_drewN ?_ _ | refine blk_drew ?_ | refine blk_alloc ?_ _));exact BK415.out⟩,⟨by (with_reducible repeat (first | refine blk_drewN ?_ _ | refine blk_drew ?_ | refine blk_alloc ?_ _));refine blk_far ?_ NB420_426.out _;(with_reducible repeat (first | refine blk_drewN ?_ _ | refine blk_drew ?_ | refine blk_alloc ?_ _));refine blk_far ?_ NB420_426.out _;(with_reducible repeat (first | refine blk_drewN ?_ _ | refine blk_drew ?_ | refine blk_alloc ?_ _));exact BK420.out⟩,⟨by (with_reducible repeat (first | refine blk_drewN ?_ _ | refine blk_drew ?_ | refine blk_alloc ?_ _));refine blk_put (cs:=#[.bool ((rd_T47 l0_0 x57_2).f0),.slice none 0 0]) ?_ 1 _ rfl;(with_reducible repeat (first | refine blk_drewN ?_ _ | refine blk_drew ?_ | refine blk_alloc ?_ _));refine blk_put (cs:=#[.bool false,.slice none 0 0]) ?_ 0 _ rfl;(with_reducible repeat (first | refine blk_drewN ?_ _ | refine blk_drew ?_ | refine blk_alloc ?_ _));exact BK426.out⟩,⟨hs5 HB GE395 GE396 GE415 GE420 GE426⟩⟩
             case round =>
              clear H'
              try clear c1
              try clear c2
              try clear p2
              try clear c3
              try clear c4
              try clear p4
              try clear q4
              try clear hx4
              try clear hf4
              try clear c5
              try clear p6
              try clear c7
              try clear c7b0
              try clear c8
              try clear c8b0
              try clear c9
              try clear c9b0
              try clear c10
              try clear c11
              try clear c11b0
              try clear c11b1
              try clear c13
              try clear c16
              try clear c18
              try clear c23
              try clear c24
              try clear c25
              try clear c26
              try clear c31
              try clear c32
              try clear c32b0
              try clear c32b1
              try clear c33
              try clear c33b0
              try clear c33b1
              try clear c34
              try clear c38
              try clear p40
              try clear q40
              try clear hx40
              try clear c41
              try clear p41
              try clear q41
              try clear hx41
              try clear c43
              try clear c43b0
              try clear c44
              try clear c44b0
              try clear c45
              try clear c45b0
              try clear c47
              try clear c48
              try clear c48b0
              try clear p49
              try clear q49
              try clear hx49
              try clear hf49
              try clear c52
              try clear c53
              try clear c54
              try clear c58
              try clear c59
              try clear p64
              try clear c72
              try clear hcz14_0
              try clear hcz19_0
              try clear hcz22_0
              try clear hcz26_0
              try clear hcz35_0
              try clear hcz39_0
              try clear hcz42_0
              try clear hcz55_0
              try clear hcz55_1
              try clear hcz60_0
              try clear hcz73_0
              try clear hcz73_1
              try clear hfz14_0
              try clear hfz19_0
              try clear hfz22_0
              try clear hfz26_0
              try clear hfz35_0
              try clear hfz39_0
              try clear hfz42_0
              try clear hfz55_0
              try clear hfz55_1
              try clear hfz60_0
              try clear hfz73_0
              try clear hfz73_1
              try clear hx400_0
              try clear hx419_0
              try clear hx419_1
              try clear hx49_0
              try clear p2
              try clear p4
              try clear p40
              try clear p400
              try clear p419
              try clear p49
              try clear p6
              try clear q4
              try clear q40
              try clear q400
              try clear q419
              try clear q49
              obtain ⟨x6_3,x7_3,x11_3,x81_3,x427001_3,u427001,rfl,HA,HK3,HO_6,HO_7,HO_11,HO_416000,HO_427001,BK395,BK396,BK415,BK420,BK426,HB⟩:=hrel;have hl7_3:=(Kd.R_reads' HO_7.out).1;rw [hl7_3] at HO_7
              (try simp only [hl7_3])
              (try simp only [hl7_3] at BK395)
              (try simp only [hl7_3] at BK396)
              (try simp only [hl7_3] at BK415)
              (try simp only [hl7_3] at BK420)
              (try simp only [hl7_3] at BK426)
              (try simp only [hl7_3] at HO_6)
              (try simp only [hl7_3] at HO_11)
              (try simp only [hl7_3] at HO_416000)
              (try simp only [hl7_3] at HO_427001)
              have hl11_3:=(Kd.R_reads' HO_11.out).1;rw [hl11_3] at HO_11
              (try simp only [hl11_3])
              (try simp only [hl11_3] at BK395)
              (try simp only [hl11_3] at BK396)
              (try simp only [hl11_3] at BK415)
              (try simp only [hl11_3] at BK420)
              (try simp only [hl11_3] at BK426)
              (try simp only [hl11_3] at HO_6)
              (try simp only [hl11_3] at HO_7)
              (try simp only [hl11_3] at HO_416000)
              (try simp only [hl11_3] at HO_427001)
              cases gk with
              | zero=>exact absurd HA.out (by simp [impl_SweepArena.l2])
              | succ k3 =>
               have H:=HA.out;clear HA;simp only [impl_SweepArena.l2] at H
               by_cases c74 : x81_3 < (((rd_T47 l0_0 x57_2).f1).length : Int)
               ·rw [if_pos c74] at H;have c74b0 : decide (x81_3 < (((rd_T47 l0_0 x57_2).f1).length : Int)) = true:=decide_eq_true c74;clear c74
                by_cases c75 : 0 ≤ x81_3
                ·rw [if_pos c75] at H;have c75b0 : decide (0 ≤ x81_3) = true:=decide_eq_true c75;clear c75
                 by_cases c76 : x81_3 < (((rd_T47 l0_0 x57_2).f1).length : Int)
                 ·rw [if_pos c76] at H;have c76b0 : decide (x81_3 < (((rd_T47 l0_0 x57_2).f1).length : Int)) = true:=decide_eq_true c76;clear c76
                  by_cases c77 : ((rd_T47 l0_0 x57_2).f0) = true
                  ·rw [if_pos c77] at H;have c77b0 : ((rd_T47 l0_0 x57_2).f0) = true:=c77;clear c77;have H':=zMk H;clear H;have p427 : 0 ≤ (x81_3 : Int):=of_decide_eq_true (by first | (with_reducible assumption) | assumption);have q427 : x81_3 < (((rd_T47 l0_0 x57_2).f1).length : Int):=of_decide_eq_true (by first | (with_reducible assumption) | assumption);obtain ⟨ad427,e427,hx427_0⟩:=Kd.at_int HR419_1.out x81_3 p427 q427;cases e427;replace hx427_0:=(HB.out.cell (World.block_lt_of_cell? w _ hx427_0)).trans hx427_0;replace p427:=eq_true p427;replace q427:=eq_true q427;have hnb78:=NB420_395.out;have hnc78:=NB395_420.out;have hnb79:=NB420_396.out;have hnc79:=NB396_420.out;have hnb80:=NB420_415.out;have hnc80:=NB415_420.out;have hnb81:=NB420_426.out;have hnc81:=NB426_420.out;have hcz82_0 : wr.cell? ⟨gb420,0,none⟩ = some (.bool ((rd_T47 l0_0 x57_2).f0)):=(zCl BK420.out 0).trans rfl;have hcz82_1 : wr.cell? ⟨gb420,1,none⟩ = some (.slice (some ad427) ((rd_T47 l0_0 x57_2).f1).length c419_1):=(zCl BK420.out 1).trans rfl;have hfz82_0:=zFr BK420.out 0;have hfz82_1:=zFr BK420.out 1
                   go_wp2
                   (try simp only [← hl7_3,← hl11_3])
                   go_roundg k3;case measure=>have:=HK1.out;have:=HK2.out;have:=HK3.out;omega
                   case rel=>exact ⟨(x6_3),(x7_3),(x11_3),(wrap64 (x81_3 + 1)),(x427001_3),(u427001),(by first | rfl | (simp;done) | (simp [*];done)),H',⟨by have:=HK1.out;have:=HK2.out;have:=HK3.out;omega⟩,⟨by (try simp only [hl7_3]);(try simp only [hl11_3]);(with_reducible repeat (first | apply Kd.R_alloc | apply Kd.R_drewN | apply Kd.R_drew));exact HO_6.out⟩,⟨by (try simp only [hl7_3]);(try simp only [hl11_3]);(with_reducible repeat (first | apply Kd.R_alloc | apply Kd.R_drewN | apply Kd.R_drew));exact HO_7.out⟩,⟨by (try simp only [hl7_3]);(try simp only [hl11_3]);(with_reducible repeat (first | apply Kd.R_alloc | apply Kd.R_drewN | apply Kd.R_drew));exact HO_11.out⟩,⟨by (try simp only [hl7_3]);(try simp only [hl11_3]);(with_reducible repeat (first | apply Kd.S_alloc | apply Kd.S_drewN | apply Kd.S_drew));exact HO_416000.out⟩,⟨by (try simp only [hl7_3]);(try simp only [hl11_3]);(with_reducible repeat (first | apply Kd.R_alloc | apply Kd.R_drewN | apply Kd.R_drew));exact HO_427001.out⟩,⟨by (try simp only [hl7_3]);(try simp only [hl11_3]);(with_reducible repeat (first | refine blk_drewN ?_ _ | refine blk_drew ?_ | refine blk_alloc ?_ _));exact BK395.out⟩,⟨by (try simp only [hl7_3]);(try simp only [hl11_3]);(with_reducible repeat (first | refine blk_drewN ?_ _ | refine blk_drew ?_ | refine blk_alloc ?_ _));exact BK396.out⟩,⟨by (try simp only [hl7_3]);(try simp only [hl11_3]);(with_reducible repeat (first | refine blk_drewN ?_ _ | refine blk_drew ?_ | refine blk_alloc ?_ _));exact BK415.out⟩,⟨by (try simp only [hl7_3]);(try simp only [hl11_3]);(with_reducible repeat (first | refine blk_drewN ?_ _ | refine blk_drew ?_ | refine blk_alloc ?_ _));exact BK420.out⟩,⟨by (try simp only [hl7_3]);(try simp only [hl11_3]);(with_reducible repeat (first | refine blk_drewN ?_ _ | refine blk_drew ?_ | refine blk_alloc ?_ _));exact BK426.out⟩,⟨hs5 HB GE395 GE396 GE415 GE420 GE426⟩⟩
                  rw [if_neg c77] at H;have c77b0 : ((rd_T47 l0_0 x57_2).f0) = false:=by simpa using c77
                  clear c77
                  by_cases c83 : (rd ((rd_T47 l0_0 x57_2).f1) x81_3) ≥ 0
                  ·rw [if_pos c83] at H;have c83b0 : decide (0 ≤ (rd ((rd_T47 l0_0 x57_2).f1) x81_3)) = true:=decide_eq_true c83;clear c83
                   by_cases c84 : 0 ≤ (rd ((rd_T47 l0_0 x57_2).f1) x81_3)
                   ·rw [if_pos c84] at H;have c84b0 : decide (0 ≤ (rd ((rd_T47 l0_0 x57_2).f1) x81_3)) = true:=decide_eq_true c84;clear c84
                    by_cases c85 : (rd ((rd_T47 l0_0 x57_2).f1) x81_3) < (x11_3.length : Int)
                    ·rw [if_pos c85] at H;have c85b0 : decide ((rd ((rd_T47 l0_0 x57_2).f1) x81_3) < (x11_3.length : Int)) = true:=decide_eq_true c85;clear c85
                     by_cases c86 : x81_3 < (x427001_3.length : Int)
                     ·rw [if_pos c86] at H;have c86b0 : decide (x81_3 < (x427001_3.length : Int)) = true:=decide_eq_true c86;clear c86;obtain ⟨y429,hy429⟩ : ∃ y_ : List Int,y_ = (x427001_3.set (x81_3 : Int).toNat (rd x11_3 (rd ((rd_T47 l0_0 x57_2).f1) x81_3))):=⟨_,rfl⟩;replace H : (impl_SweepArena.l2 k3 l1 x6_3 x7_3 x11_3 l0_0 (l0_0.length : Int) x57_2 ((rd_T47 l0_0 x57_2).f1) (((rd_T47 l0_0 x57_2).f1).length : Int) (wrap64 (x81_3 + 1)) x416000_2 ((rd_T47 l0_0 x57_2).f0) ((rd_T47 l0_0 x57_2).f1) ((rd_T47 l0_0 x57_2).f0) y429) = some (r1,r2):=by first | (rw [hy429];with_reducible exact H) | (have H2_:=(Option.bind_some _ _).symm.trans H;rw [hy429];with_reducible exact H2_) | (have H2_:=(Option.bind_some _ _).symm.trans H;with_reducible exact H2_) | with_reducible exact H | (rw [hy429];exact H) | exact H
                      have Ny429:=zMk hy429;clear hy429;have H':=zMk H;clear H;have p427 : 0 ≤ (x81_3 : Int):=of_decide_eq_true (by first | (with_reducible assumption) | assumption);have q427 : x81_3 < (((rd_T47 l0_0 x57_2).f1).length : Int):=of_decide_eq_true (by first | (with_reducible assumption) | assumption);obtain ⟨ad427,e427,hx427_0⟩:=Kd.at_int HR419_1.out x81_3 p427 q427;cases e427;replace hx427_0:=(HB.out.cell (World.block_lt_of_cell? w _ hx427_0)).trans hx427_0;replace p427:=eq_true p427;replace q427:=eq_true q427;have hnb88:=NB420_395.out;have hnc88:=NB395_420.out;have hnb89:=NB420_396.out;have hnc89:=NB396_420.out;have hnb90:=NB420_415.out;have hnc90:=NB415_420.out;have hnb91:=NB420_426.out;have hnc91:=NB426_420.out;have hcz92_0 : wr.cell? ⟨gb420,0,none⟩ = some (.bool ((rd_T47 l0_0 x57_2).f0)):=(zCl BK420.out 0).trans rfl;have hcz92_1 : wr.cell? ⟨gb420,1,none⟩ = some (.slice (some ad427) ((rd_T47 l0_0 x57_2).f1).length c419_1):=(zCl BK420.out 1).trans rfl;have hfz92_0:=zFr BK420.out 0;have hfz92_1:=zFr BK420.out 1
                      try go_wp2
                      have n0_:=zMk (Kd.R_drew HO_6.out);have n1_:=zMk (Kd.R_drew HO_7.out);have n2_:=zMk (Kd.R_drew HO_11.out);have n3_:=zMk (Kd.S_drew HO_416000.out);have n4_:=zMk (Kd.R_drew HO_427001.out);have n5_:=zMk (blk_drew BK395.out);have n6_:=zMk (blk_drew BK396.out);have n7_:=zMk (blk_drew BK415.out);have n8_:=zMk (blk_drew BK420.out);have n9_:=zMk (blk_drew BK426.out);have n10_:=zMk (below_drew1 HB.out);clear HO_6;clear HO_7;clear HO_11;clear HO_416000;clear HO_427001;clear BK395;clear BK396;clear BK415;clear BK420;clear BK426;clear HB;have HO_6:=n0_;have HO_7:=n1_;have HO_11:=n2_;have HO_416000:=n3_;have HO_427001:=n4_;have BK395:=n5_;have BK396:=n6_;have BK415:=n7_;have BK420:=n8_;have BK426:=n9_;have HB:=n10_;clear n0_ n1_ n2_ n3_ n4_ n5_ n6_ n7_ n8_ n9_ n10_;have p428 : 0 ≤ ((rd ((rd_T47 l0_0 x57_2).f1) x81_3) : Int):=of_decide_eq_true (by first | (with_reducible assumption) | assumption);have q428 : (rd ((rd_T47 l0_0 x57_2).f1) x81_3) < (x11_3.length : Int):=of_decide_eq_true (by first | (with_reducible assumption) | assumption);obtain ⟨ad428,e428,hx428_0⟩:=Kd.at_int (Kd.R_reads' HO_11.out).2.2 (rd ((rd_T47 l0_0 x57_2).f1) x81_3) p428 q428;obtain rfl : (⟨go49,0,none⟩ : Addr) = ad428:=(by injection e428)
                      (first | simp only [add_plain] at hx428_0 | simp only [add_at] at hx428_0 | simp only [Addr.add,Nat.zero_add] at hx428_0 | skip)
                      replace p428:=eq_true p428;replace q428:=eq_true q428;have p87 : 0 ≤ (x81_3 : Int):=of_decide_eq_true (by first | (with_reducible assumption) | assumption);have q87 : (x81_3 : Int) < ((x427001_3.length : Int) : Int):=of_decide_eq_true (by first | (with_reducible assumption) | assumption);obtain ⟨go87,co87,eo87,gb87,gl87,cl87,HG87⟩:=Kd.R_form HO_427001.out (by omega)
                      (first | cases eo87 | (injection eo87 with ea_ en_ ec_;(first | subst ea_ | (injection ea_ with ea_;subst ea_));subst ec_;clear en_))
                      have GB87:=zMk gb87;have GG87:=zMk HG87;clear gb87 gl87 HG87;obtain ⟨hx87_0,hf87_0⟩:=Kd.R_celln 0 HO_427001.out (x81_3 : Int) p87 q87;replace p87:=eq_true p87;replace q87:=eq_true q87;have HP94:=Kd.R_putn HO_427001.out (x81_3 : Int) (rd x11_3 (rd ((rd_T47 l0_0 x57_2).f1) x81_3));rw [← Ny429.out] at HP94;have HQ94:=zMk HP94;clear HP94;refine start_ (n:=9) (S:=fun w'=>w'.cell? ⟨gb426,0,none⟩ = some (.bool ((rd_T47 l0_0 x57_2).f0)) ∧ w'.cell? ⟨gb426,1,none⟩ = some (.slice (some ⟨go87,0,none⟩) x427001_3.length co87) ∧ w'.cell? ⟨go49,((rd ((rd_T47 l0_0 x57_2).f1) x81_3)).toNat,none⟩ = some (.int .i64 (rd x11_3 (rd ((rd_T47 l0_0 x57_2).f1) x81_3)))) (ds:=[8]) #[false,false,false,false,false,false,false,false,false] (by kernel_rfl) rfl rfl ⟨(zCl BK426.out 0).trans rfl,(zCl BK426.out 1).trans rfl,hx428_0⟩ (fun hHeld=>?_);refine with_tabW impl_SweepArena.tab24 impl_SweepArena.bits24 (fun HT_ HW_=>?_);generalize wr.drew = w93 at HO_6 HO_7 HO_11 HO_416000 HO_427001 BK395 BK396 BK415 BK420 BK426 HB GG87 HQ94 hf87_0 hx428_0 hx87_0 hHeld ⊢;refine pure_ (i:=0) (N:=some 93) (v:=?_) (a':=?_) #[true,false,false,false,false,false,false,false,false] rfl rfl (any_of HT_.out (by kernel_rfl)) (fun _ _ _ h=>h) (Or.inl ⟨by rfl,?_⟩) ?_ ?_;rotate_left
                      ·intro w';go_simp;with_reducible rfl
                      rotate_left
                      ·simp only [Act.put,List.setIfInBounds_toArray,List.set_cons_zero,List.set_cons_succ,i64_w,i32_w];rfl
                      refine pure_ (i:=2) (N:=some 95) (v:=?_) (a':=?_) #[true,false,true,false,false,false,false,false,false] rfl rfl (any_of HT_.out (by kernel_rfl)) (fun _ _ _ h=>h) (Or.inl ⟨by rfl,?_⟩) ?_ ?_;rotate_left
                      ·intro w';go_simp;with_reducible rfl
                      rotate_left
                      ·simp only [Act.put,List.setIfInBounds_toArray,List.set_cons_zero,List.set_cons_succ,i64_w,i32_w];rfl
                      refine pure_ (i:=3) (N:=some 96) (v:=?_) (a':=?_) #[true,false,true,true,false,false,false,false,false] rfl rfl (any_of HT_.out (by kernel_rfl)) (fun _ _ _ h=>h) (Or.inl ⟨by rfl,?_⟩) ?_ ?_;rotate_left
                      ·intro w';go_simp;with_reducible rfl
                      rotate_left
                      ·simp only [Act.put,List.setIfInBounds_toArray,List.set_cons_zero,List.set_cons_succ,i64_w,i32_w];rfl
                      refine pure_ (i:=4) (N:=some 97) (v:=?_) (a':=?_) #[true,false,true,true,true,false,false,false,false] rfl rfl (any_of HT_.out (by kernel_rfl)) (fun _ _ _ h=>h) (Or.inl ⟨by rfl,?_⟩) ?_ ?_;rotate_left
                      ·intro w';go_simp;with_reducible rfl
                      rotate_left
                      ·simp only [Act.put,List.setIfInBounds_toArray,List.set_cons_zero,List.set_cons_succ,i64_w,i32_w];rfl
                      refine pure_ (i:=5) (N:=some 98) (v:=?_) (a':=?_) #[true,false,true,true,true,true,false,false,false] rfl rfl (any_of HT_.out (by kernel_rfl)) (fun _ _ _ h=>h) (Or.inl ⟨by rfl,?_⟩) ?_ ?_;rotate_left
                      ·intro w';go_simp;with_reducible rfl
                      rotate_left
                      ·simp only [Act.put,List.setIfInBounds_toArray,List.set_cons_zero,List.set_cons_succ,i64_w,i32_w];rfl
                      refine take_ (i:=1) (N:=some 94) (v:=?_) (a':=?_) #[true,true,true,true,true,true,false,false,false] rfl rfl (take_ofW HT_.out HW_.out (by kernel_rfl)) (fun _ _ _ h=>h) (Or.inl ⟨by rfl,?_⟩) hHeld ?_ ?_;rotate_left
                      ·rintro w' ⟨s0,s1,s2⟩;go_simp;with_reducible rfl
                      rotate_left
                      ·simp only [Act.put,List.setIfInBounds_toArray,List.set_cons_zero,List.set_cons_succ,i64_w,i32_w];rfl
                      refine take_ (i:=6) (N:=some 99) (v:=?_) (a':=?_) #[true,true,true,true,true,true,true,false,false] rfl rfl (take_ofW HT_.out HW_.out (by kernel_rfl)) (fun _ _ _ h=>h) (Or.inl ⟨by rfl,?_⟩) hHeld ?_ ?_;rotate_left
                      ·rintro w' ⟨s0,s1,s2⟩;go_simp;with_reducible rfl
                      rotate_left
                      ·simp only [Act.put,List.setIfInBounds_toArray,List.set_cons_zero,List.set_cons_succ,i64_w,i32_w];rfl
                      refine pure_ (i:=7) (N:=some 100) (v:=?_) (a':=?_) #[true,true,true,true,true,true,true,true,false] rfl rfl (any_of HT_.out (by kernel_rfl)) (fun _ _ _ h=>h) (Or.inl ⟨by rfl,?_⟩) ?_ ?_;rotate_left
                      ·intro w';go_simp;with_reducible rfl
                      rotate_left
                      ·simp only [Act.put,List.setIfInBounds_toArray,List.set_cons_zero,List.set_cons_succ,i64_w,i32_w];rfl
                      refine last_ (i:=8) (N:=none) #[true,true,true,true,true,true,true,true,true] rfl rfl (one_of HT_.out (by kernel_rfl)) (by decide) (fun K hK=>?_);refine skip_ (w1:=?_) (by rfl) rfl ?_ ?_;rotate_left
                      ·go_simp;rfl
                      refine hK.out _ _ ?_;clear hK K;refine done_ (done_of HT_.out (by kernel_rfl)) ?_
                      try go_wp2
                      (try simp only [← hl7_3,← hl11_3])
                      go_roundg k3;case measure=>have:=HK1.out;have:=HK2.out;have:=HK3.out;omega
                      case rel=>exact ⟨(x6_3),(x7_3),(x11_3),(wrap64 (x81_3 + 1)),(y429),(.slice (some ⟨go87,0,none⟩) x427001_3.length co87),(by first | rfl | (simp;done) | (simp [*];done)),H',⟨by have:=HK1.out;have:=HK2.out;have:=HK3.out;omega⟩,⟨by (try simp only [hl7_3]);(try simp only [hl11_3]);(with_reducible repeat (first | apply Kd.R_alloc | apply Kd.R_drewN | apply Kd.R_drew));exact Kd.R_mono (Kd.R_far (p:=⟨go87,(x81_3 : Int).toNat,none⟩) (Kd.R_mono HO_6.out (fun k_ hk=>(⟨hk,fun e_=>hk.2.2 (by rw [e_];rfl)⟩ : _ ∧ k_ ≠ go87))) (fun _ hk=>hk.2) (.int .i64 (rd x11_3 (rd ((rd_T47 l0_0 x57_2).f1) x81_3)))) (fun _ hk=>⟨hk.1.1,⟨hk.1.2.1,hk.1.2.2⟩⟩)⟩,⟨by (try simp only [hl7_3]);(try simp only [hl11_3]);(with_reducible repeat (first | apply Kd.R_alloc | apply Kd.R_drewN | apply Kd.R_drew));exact Kd.R_mono (Kd.R_far (p:=⟨go87,(x81_3 : Int).toNat,none⟩) (Kd.R_mono HO_7.out (fun k_ hk=>(⟨hk,fun e_=>hk.2.2 (by rw [e_];rfl)⟩ : _ ∧ k_ ≠ go87))) (fun _ hk=>hk.2) (.int .i64 (rd x11_3 (rd ((rd_T47 l0_0 x57_2).f1) x81_3)))) (fun _ hk=>⟨hk.1.1,⟨hk.1.2.1,hk.1.2.2⟩⟩)⟩,⟨by (try simp only [hl7_3]);(try simp only [hl11_3]);(with_reducible repeat (first | apply Kd.R_alloc | apply Kd.R_drewN | apply Kd.R_drew));exact Kd.R_mono (Kd.R_far (p:=⟨go87,(x81_3 : Int).toNat,none⟩) (Kd.R_mono HO_11.out (fun k_ hk=>(⟨hk,fun e_=>hk.2.2 (by rw [e_];rfl)⟩ : _ ∧ k_ ≠ go87))) (fun _ hk=>hk.2) (.int .i64 (rd x11_3 (rd ((rd_T47 l0_0 x57_2).f1) x81_3)))) (fun _ hk=>⟨hk.1.1,⟨hk.1.2.1,hk.1.2.2⟩⟩)⟩,⟨by (try simp only [hl7_3]);(try simp only [hl11_3]);(with_reducible repeat (first | apply Kd.S_alloc | apply Kd.S_drewN | apply Kd.S_drew));exact Kd.S_mono (Kd.S_far (p:=⟨go87,(x81_3 : Int).toNat,none⟩) (Kd.S_mono HO_416000.out (fun k_ hk=>(⟨hk,fun e_=>hk.2.2.2.1 (by rw [e_];rfl)⟩ : _ ∧ k_ ≠ go87))) (fun _ hk=>hk.2) (.int .i64 (rd x11_3 (rd ((rd_T47 l0_0 x57_2).f1) x81_3)))) (fun _ hk=>⟨hk.1.1,⟨hk.1.2.1,⟨hk.1.2.2.1,⟨hk.1.2.2.2.1,⟨hk.1.2.2.2.2.1,hk.1.2.2.2.2.2⟩⟩⟩⟩⟩)⟩,⟨by (try simp only [hl7_3]);(try simp only [hl11_3]);(with_reducible repeat (first | apply Kd.R_alloc | apply Kd.R_drewN | apply Kd.R_drew));exact HQ94.out⟩,⟨by (try simp only [hl7_3]);(try simp only [hl11_3]);(with_reducible repeat (first | refine blk_drewN ?_ _ | refine blk_drew ?_ | refine blk_alloc ?_ _));refine blk_far ?_ (by have h_:=Kd.R_ne HO_427001.out BK395.out (by decide);intro e_;exact h_ (by rw [e_];rfl)) _;(with_reducible repeat (first | refine blk_drewN ?_ _ | refine blk_drew ?_ | refine blk_alloc ?_ _));exact BK395.out⟩,⟨by (try simp only [hl7_3]);(try simp only [hl11_3]);(with_reducible repeat (first | refine blk_drewN ?_ _ | refine blk_drew ?_ | refine blk_alloc ?_ _));refine blk_far ?_ (by have h_:=Kd.R_ne HO_427001.out BK396.out (by decide);intro e_;exact h_ (by rw [e_];rfl)) _;(with_reducible repeat (first | refine blk_drewN ?_ _ | refine blk_drew ?_ | refine blk_alloc ?_ _));exact BK396.out⟩,⟨by (try simp only [hl7_3]);(try simp only [hl11_3]);(with_reducible repeat (first | refine blk_drewN ?_ _ | refine blk_drew ?_ | refine blk_alloc ?_ _));refine blk_far ?_ (by have h_:=Kd.R_ne HO_427001.out BK415.out (by decide);intro e_;exact h_ (by rw [e_];rfl)) _;(with_reducible repeat (first | refine blk_drewN ?_ _ | refine blk_drew ?_ | refine blk_alloc ?_ _));exact BK415.out⟩,⟨by (try simp only [hl7_3]);(try simp only [hl11_3]);(with_reducible repeat (first | refine blk_drewN ?_ _ | refine blk_drew ?_ | refine blk_alloc ?_ _));refine blk_far ?_ (by have h_:=Kd.R_ne HO_427001.out BK420.out (by decide);intro e_;exact h_ (by rw [e_];rfl)) _;(with_reducible repeat (first | refine blk_drewN ?_ _ | refine blk_drew ?_ | refine blk_alloc ?_ _));exact BK420.out⟩,⟨by (try simp only [hl7_3]);(try simp only [hl11_3]);(with_reducible repeat (first | refine blk_drewN ?_ _ | refine blk_drew ?_ | refine blk_alloc ?_ _));refine blk_far ?_ (by have h_:=Kd.R_ne HO_427001.out BK426.out (by decide);intro e_;exact h_ (by rw [e_];rfl)) _;(with_reducible repeat (first | refine blk_drewN ?_ _ | refine blk_drew ?_ | refine blk_alloc ?_ _));exact BK426.out⟩,⟨by repeat (first | (with_reducible first | exact HB.out | apply below_alloc | apply pw_below_drewN | apply below_drew1 | refine below_set ?_ GB87.out | refine below_set ?_ GE395.out | refine below_set ?_ GE396.out | refine below_set ?_ GE415.out | refine below_set ?_ GE420.out | refine below_set ?_ GE426.out) | exact HB.out)⟩⟩
                     rw [if_neg c86] at H;exact absurd H (by simp)
                    rw [if_neg c85] at H;exact absurd H (by simp)
                   rw [if_neg c84] at H;exact absurd H (by simp)
                  rw [if_neg c83] at H;have c83b0 : decide (0 ≤ (rd ((rd_T47 l0_0 x57_2).f1) x81_3)) = false:=decide_eq_false c83;clear c83;have H':=zMk H;clear H;have p427 : 0 ≤ (x81_3 : Int):=of_decide_eq_true (by first | (with_reducible assumption) | assumption);have q427 : x81_3 < (((rd_T47 l0_0 x57_2).f1).length : Int):=of_decide_eq_true (by first | (with_reducible assumption) | assumption);obtain ⟨ad427,e427,hx427_0⟩:=Kd.at_int HR419_1.out x81_3 p427 q427;cases e427;replace hx427_0:=(HB.out.cell (World.block_lt_of_cell? w _ hx427_0)).trans hx427_0;replace p427:=eq_true p427;replace q427:=eq_true q427;have hnb95:=NB420_395.out;have hnc95:=NB395_420.out;have hnb96:=NB420_396.out;have hnc96:=NB396_420.out;have hnb97:=NB420_415.out;have hnc97:=NB415_420.out;have hnb98:=NB420_426.out;have hnc98:=NB426_420.out;have hcz99_0 : wr.cell? ⟨gb420,0,none⟩ = some (.bool ((rd_T47 l0_0 x57_2).f0)):=(zCl BK420.out 0).trans rfl;have hcz99_1 : wr.cell? ⟨gb420,1,none⟩ = some (.slice (some ad427) ((rd_T47 l0_0 x57_2).f1).length c419_1):=(zCl BK420.out 1).trans rfl;have hfz99_0:=zFr BK420.out 0;have hfz99_1:=zFr BK420.out 1
                  go_wp2
                  (try simp only [← hl7_3,← hl11_3])
                  go_roundg k3;case measure=>have:=HK1.out;have:=HK2.out;have:=HK3.out;omega
                  case rel=>exact ⟨(x6_3),(x7_3),(x11_3),(wrap64 (x81_3 + 1)),(x427001_3),(u427001),(by first | rfl | (simp;done) | (simp [*];done)),H',⟨by have:=HK1.out;have:=HK2.out;have:=HK3.out;omega⟩,⟨by (try simp only [hl7_3]);(try simp only [hl11_3]);(with_reducible repeat (first | apply Kd.R_alloc | apply Kd.R_drewN | apply Kd.R_drew));exact HO_6.out⟩,⟨by (try simp only [hl7_3]);(try simp only [hl11_3]);(with_reducible repeat (first | apply Kd.R_alloc | apply Kd.R_drewN | apply Kd.R_drew));exact HO_7.out⟩,⟨by (try simp only [hl7_3]);(try simp only [hl11_3]);(with_reducible repeat (first | apply Kd.R_alloc | apply Kd.R_drewN | apply Kd.R_drew));exact HO_11.out⟩,⟨by (try simp only [hl7_3]);(try simp only [hl11_3]);(with_reducible repeat (first | apply Kd.S_alloc | apply Kd.S_drewN | apply Kd.S_drew));exact HO_416000.out⟩,⟨by (try simp only [hl7_3]);(try simp only [hl11_3]);(with_reducible repeat (first | apply Kd.R_alloc | apply Kd.R_drewN | apply Kd.R_drew));exact HO_427001.out⟩,⟨by (try simp only [hl7_3]);(try simp only [hl11_3]);(with_reducible repeat (first | refine blk_drewN ?_ _ | refine blk_drew ?_ | refine blk_alloc ?_ _));exact BK395.out⟩,⟨by (try simp only [hl7_3]);(try simp only [hl11_3]);(with_reducible repeat (first | refine blk_drewN ?_ _ | refine blk_drew ?_ | refine blk_alloc ?_ _));exact BK396.out⟩,⟨by (try simp only [hl7_3]);(try simp only [hl11_3]);(with_reducible repeat (first | refine blk_drewN ?_ _ | refine blk_drew ?_ | refine blk_alloc ?_ _));exact BK415.out⟩,⟨by (try simp only [hl7_3]);(try simp only [hl11_3]);(with_reducible repeat (first | refine blk_drewN ?_ _ | refine blk_drew ?_ | refine blk_alloc ?_ _));exact BK420.out⟩,⟨by (try simp only [hl7_3]);(try simp only [hl11_3]);(with_reducible repeat (first | refine blk_drewN ?_ _ | refine blk_drew ?_ | refine blk_alloc ?_ _));exact BK426.out⟩,⟨hs5 HB GE395 GE396 GE415 GE420 GE426⟩⟩
                 rw [if_neg c76] at H;exact absurd H (by simp)
                rw [if_neg c75] at H;exact absurd H (by simp)
               rw [if_neg c74] at H;have c74b0 : decide (x81_3 < (((rd_T47 l0_0 x57_2).f1).length : Int)) = false:=decide_eq_false c74;clear c74
               by_cases c100 : x416000_2.length < 4398046511104
               ·rw [if_pos c100] at H;have LMc100:=zMk c100;clear c100;obtain ⟨y430,hy430⟩ : ∃ y_ : List (S47),y_ = (x416000_2 ++ [(⟨((rd_T47 l0_0 x57_2).f0),x427001_3⟩ : S47)]):=⟨_,rfl⟩;replace H : (impl_SweepArena.l1 k3 l1 x6_3 x7_3 x11_3 l0_0 (l0_0.length : Int) (wrap64 (x57_2 + 1)) y430) = some (r1,r2):=by first | (rw [hy430];with_reducible exact H) | (have H2_:=(Option.bind_some _ _).symm.trans H;rw [hy430];with_reducible exact H2_) | (have H2_:=(Option.bind_some _ _).symm.trans H;with_reducible exact H2_) | with_reducible exact H | (rw [hy430];exact H) | exact H
                have Ny430:=zMk hy430;clear hy430;have H':=zMk H;clear H;have hnb101:=NB415_395.out;have hnc101:=NB395_415.out;have hnb102:=NB415_396.out;have hnc102:=NB396_415.out;have hnb103:=NB415_420.out;have hnc103:=NB420_415.out;have hnb104:=NB415_426.out;have hnc104:=NB426_415.out;have hcz105_0 : wr.cell? ⟨gb415,0,none⟩ = some (.slice Ao61 x416000_2.length co61):=(zCl BK415.out 0).trans rfl;have hfz105_0:=zFr BK415.out 0;have hnb106:=NB426_395.out;have hnc106:=NB395_426.out;have hnb107:=NB426_396.out;have hnc107:=NB396_426.out;have hnb108:=NB426_420.out;have hnc108:=NB420_426.out;have hcz109_0 : wr.cell? ⟨gb426,0,none⟩ = some (.bool ((rd_T47 l0_0 x57_2).f0)):=(zCl BK426.out 0).trans rfl;have hcz109_1 : wr.cell? ⟨gb426,1,none⟩ = some (u427001):=(zCl BK426.out 1).trans rfl;have hfz109_0:=zFr BK426.out 0;have hfz109_1:=zFr BK426.out 1;obtain ⟨Ao111,co111,eo111⟩:=Kd.R_slice HO_427001.out;subst eo111;go_wp2_with (first | ((with_reducible refine gate_builtin (b:=.append) (xs:=#[.tmp 103,.tmp 105]) rfl ?_);at_builtin;refine Kd.S_append k47 (w0:=w) w.heap.size rfl (.tmp 103) (.tmp 105) 24 47 (.agg #[(.bool false),(.slice none 0 0)]) 32 rfl Try.underlying24 info47 rfl (by decide) (by omega) (.slice Ao61 x416000_2.length co61) x416000_2 (⟨((rd_T47 l0_0 x57_2).f0),x427001_3⟩ : S47) [.bool ((rd_T47 l0_0 x57_2).f0),.slice Ao111 x427001_3.length co111] (fun k_=>some k_ ≠ (v398 : Value).ownBlock ∧ some k_ ≠ (.slice Ao57 x7_3.length co57 : Value).ownBlock ∧ some k_ ≠ (.slice (some ⟨go49,0,none⟩) x11_3.length co49 : Value).ownBlock ∧ k_ ≠ gb420 ∧ k_ ≠ gb426) (fun k_=>some k_ = (.slice Ao111 x427001_3.length co111 : Value).ownBlock) rfl rfl ?aP (fun k_ hk_=>((Kd.R_mono (ok':=fun k_=>((fun k_=>some k_ ≠ (v398 : Value).ownBlock ∧ some k_ ≠ (.slice Ao57 x7_3.length co57 : Value).ownBlock ∧ some k_ ≠ (.slice (some ⟨go49,0,none⟩) x11_3.length co49 : Value).ownBlock ∧ k_ ≠ gb420 ∧ k_ ≠ gb426)) k_ ∧ some k_ ≠ (.slice Ao61 x416000_2.length co61 : Value).ownBlock) (Kd.R_types (Kd.R_types (Kd.R_apart' (HO_427001.out) (Kd.S_typed HO_416000.out) (by decide)) BK420.out (by decide)) BK426.out (by decide)) (fun k_ hk=>⟨⟨hk.1.1.1.1,⟨hk.1.1.1.2.1,⟨hk.1.1.1.2.2,⟨hk.1.2,hk.2⟩⟩⟩⟩,hk.1.1.2⟩))).1 k_ hk_.symm) ?aF ?aO ?aB ?aS ?aL ?_;(case aP=>exact k47_mkM _ _ _ (⟨((rd_T47 l0_0 x57_2).f0),x427001_3⟩ : S47) (Kd.R_mono (Kd.R_tight rfl (Kd.R_mono (ok':=fun k_=>((fun k_=>some k_ ≠ (v398 : Value).ownBlock ∧ some k_ ≠ (.slice Ao57 x7_3.length co57 : Value).ownBlock ∧ some k_ ≠ (.slice (some ⟨go49,0,none⟩) x11_3.length co49 : Value).ownBlock ∧ k_ ≠ gb420 ∧ k_ ≠ gb426)) k_ ∧ some k_ ≠ (.slice Ao61 x416000_2.length co61 : Value).ownBlock) (Kd.R_types (Kd.R_types (Kd.R_apart' (HO_427001.out) (Kd.S_typed HO_416000.out) (by decide)) BK420.out (by decide)) BK426.out (by decide)) (fun k_ hk=>⟨⟨hk.1.1.1.1,⟨hk.1.1.1.2.1,⟨hk.1.1.1.2.2,⟨hk.1.2,hk.2⟩⟩⟩⟩,hk.1.1.2⟩))) (fun _ h_=>h_)));(case aB=>exact (hs5 HB GE395 GE396 GE415 GE420 GE426));(case aF=>exact (fun k_ hk=>⟨Kd.fresh' (Kd.R_lt (rs HO_6)) k_ hk,Kd.fresh' (Kd.R_lt (rs HO_7)) k_ hk,Kd.fresh' (Kd.R_lt (rs HO_11)) k_ hk,Kd.freshB (g:=gb420) (o:=.cells #[.bool ((rd_T47 l0_0 x57_2).f0),.slice A419_1 ((rd_T47 l0_0 x57_2).f1).length c419_1] 47 (0,0)) (bs BK420) k_ hk,Kd.freshB (g:=gb426) (o:=.cells #[.bool ((rd_T47 l0_0 x57_2).f0),.slice Ao111 x427001_3.length co111] 47 (0,0)) (bs BK426) k_ hk⟩));(case aO=>exact (by (with_reducible repeat (first | apply Kd.S_alloc | apply Kd.S_drewN | apply Kd.S_drew));exact Kd.S_mono HO_416000.out (fun k_ hk=>⟨⟨hk.1,⟨hk.2.1,⟨hk.2.2.1,⟨hk.2.2.2.2.1,hk.2.2.2.2.2⟩⟩⟩⟩,fun e_=>hk.2.2.2.1 e_⟩)));(case aS=>exact (below_size (hs5 HB GE395 GE396 GE415 GE420 GE426)));(case aL=>have:=LMc100.out;omega);intro v431 w110 ho hb hg hat;rw [← Ny430.out] at ho;have n0_:=zMk (Kd.R_over' (rs HO_6) (Kd.S_typed (ss HO_416000)) (by decide) hg);have n1_:=zMk (Kd.R_over' (rs HO_7) (Kd.S_typed (ss HO_416000)) (by decide) hg);have n2_:=zMk (Kd.R_over' (rs HO_11) (Kd.S_typed (ss HO_416000)) (by decide) hg);have n3_:=zMk (blk_grown (g:=gb395) (o:=.cells #[.slice (some ad419) l0_0.length c0_0] 26 (0,0)) (bs BK395) hg (Kd.S_ne HO_416000.out BK395.out (by decide)));have n4_:=zMk (blk_grown (g:=gb396) (o:=.cells #[.slice none 0 0] 26 (0,0)) (bs BK396) hg (Kd.S_ne HO_416000.out BK396.out (by decide)));have n5_:=zMk (blk_grown (g:=gb415) (o:=.cells #[.slice Ao61 x416000_2.length co61] 26 (0,0)) (bs BK415) hg (Kd.S_ne HO_416000.out BK415.out (by decide)));have n6_:=zMk (blk_grown (g:=gb420) (o:=.cells #[.bool ((rd_T47 l0_0 x57_2).f0),.slice A419_1 ((rd_T47 l0_0 x57_2).f1).length c419_1] 47 (0,0)) (bs BK420) hg (Kd.S_away HO_416000.out (fun _ hk=>hk.2.2.2.2.1)));have n7_:=zMk (blk_grown (g:=gb426) (o:=.cells #[.bool ((rd_T47 l0_0 x57_2).f0),.slice Ao111 x427001_3.length co111] 47 (0,0)) (bs BK426) hg (Kd.S_away HO_416000.out (fun _ hk=>hk.2.2.2.2.2)));have n8_:=zMk (hb);have n9_:=zMk (ho);clear HO_6;clear HO_7;clear HO_11;clear BK395;clear BK396;clear BK415;clear BK420;clear BK426;clear HB;clear HO_416000;clear HO_427001;have HO_6:=n0_;have HO_7:=n1_;have HO_11:=n2_;have BK395:=n3_;have BK396:=n4_;have BK415:=n5_;have BK420:=n6_;have BK426:=n7_;have HB:=n8_;have HO432:=n9_;clear n0_ n1_ n2_ n3_ n4_ n5_ n6_ n7_ n8_ n9_;clear ho hb hg hat;obtain ⟨Ao112,co112,eo112⟩:=Kd.S_slice HO432.out;subst eo112;have hcz113_0 : w110.cell? ⟨gb415,0,none⟩ = some (.slice Ao61 x416000_2.length co61):=(zCl BK415.out 0).trans rfl;have hfz113_0:=zFr BK415.out 0))
                (try simp only [← hl7_3,← hl11_3])
                go_roundg k3;case measure=>have:=HK1.out;have:=HK2.out;have:=HK3.out;omega
                case rel=>exact ⟨(x6_3),(x7_3),(x11_3),(wrap64 (x57_2 + 1)),(y430),(.slice Ao112 y430.length co112),(by first | rfl | (simp;done) | (simp [*];done)),H',⟨by have:=HK1.out;have:=HK2.out;have:=HK3.out;omega⟩,⟨by (try simp only [hl7_3]);(try simp only [hl11_3]);(with_reducible repeat (first | apply Kd.R_alloc | apply Kd.R_drewN | apply Kd.R_drew));exact Kd.R_mono (Kd.R_far (p:=⟨gb415,0,none⟩) (Kd.R_types HO_6.out BK415.out (by decide)) (fun _ hk=>hk.2) (.slice Ao112 y430.length co112)) (fun _ hk=>⟨hk.1.1,hk.1.2.1⟩)⟩,⟨by (try simp only [hl7_3]);(try simp only [hl11_3]);(with_reducible repeat (first | apply Kd.R_alloc | apply Kd.R_drewN | apply Kd.R_drew));exact Kd.R_mono (Kd.R_far (p:=⟨gb415,0,none⟩) (Kd.R_types HO_7.out BK415.out (by decide)) (fun _ hk=>hk.2) (.slice Ao112 y430.length co112)) (fun _ hk=>⟨hk.1.1,hk.1.2.1⟩)⟩,⟨by (try simp only [hl7_3]);(try simp only [hl11_3]);(with_reducible repeat (first | apply Kd.R_alloc | apply Kd.R_drewN | apply Kd.R_drew));exact Kd.R_mono (Kd.R_far (p:=⟨gb415,0,none⟩) (Kd.R_types HO_11.out BK415.out (by decide)) (fun _ hk=>hk.2) (.slice Ao112 y430.length co112)) (fun _ hk=>⟨hk.1.1,hk.1.2.1⟩)⟩,⟨by (try simp only [hl7_3]);(try simp only [hl11_3]);(with_reducible repeat (first | apply Kd.S_alloc | apply Kd.S_drewN | apply Kd.S_drew));exact Kd.S_mono (Kd.S_far (p:=⟨gb415,0,none⟩) (Kd.S_types HO432.out BK415.out (by decide)) (fun _ hk=>hk.2) (.slice Ao112 y430.length co112)) (fun _ hk=>⟨hk.1.1,⟨hk.1.2.1,hk.1.2.2.1⟩⟩)⟩,⟨by (try simp only [hl7_3]);(try simp only [hl11_3]);(with_reducible repeat (first | refine blk_drewN ?_ _ | refine blk_drew ?_ | refine blk_alloc ?_ _));refine blk_far ?_ NB395_415.out _;(with_reducible repeat (first | refine blk_drewN ?_ _ | refine blk_drew ?_ | refine blk_alloc ?_ _));exact BK395.out⟩,⟨by (try simp only [hl7_3]);(try simp only [hl11_3]);(with_reducible repeat (first | refine blk_drewN ?_ _ | refine blk_drew ?_ | refine blk_alloc ?_ _));refine blk_far ?_ NB396_415.out _;(with_reducible repeat (first | refine blk_drewN ?_ _ | refine blk_drew ?_ | refine blk_alloc ?_ _));exact BK396.out⟩,⟨by (try simp only [hl7_3]);(try simp only [hl11_3]);(with_reducible repeat (first | refine blk_drewN ?_ _ | refine blk_drew ?_ | refine blk_alloc ?_ _));refine blk_put (cs:=#[.slice Ao61 x416000_2.length co61]) ?_ 0 _ rfl;(with_reducible repeat (first | refine blk_drewN ?_ _ | refine blk_drew ?_ | refine blk_alloc ?_ _));exact BK415.out⟩,⟨hs5 HB GE395 GE396 GE415 GE420 GE426⟩⟩
               rw [if_neg c100] at H;exact absurd H (by simp)
            rw [if_neg c48] at H;exact absurd H (by simp)
           replace c47:=Bool.eq_false_iff.mpr c47;subst c47;have H1 : (impl_SweepArena.l1 k2 l1 x6_2 x7_2 x11_2 l0_0 (l0_0.length : Int) (wrap64 (x57_2 + 1)) x416000_2) = some (r1,r2):=by rw [if_neg (show ¬ (false = true) by decide)] at H;exact H
           clear H;have H:=H1;clear H1;have H':=zMk H;clear H;have p419 : 0 ≤ (x57_2 : Int):=of_decide_eq_true (by first | (with_reducible assumption) | assumption);have q419 : x57_2 < (l0_0.length : Int):=of_decide_eq_true (by first | (with_reducible assumption) | assumption);obtain ⟨ad419,A419_1,c419_1,e419,hx419_0,hx419_1,hl419_1,hi419_1⟩:=at_T47 HR0_0.out x57_2 p419 q419;cases e419;replace hx419_0:=(HB.out.cell (World.block_lt_of_cell? w _ hx419_0)).trans hx419_0;replace hx419_1:=(HB.out.cell (World.block_lt_of_cell? w _ hx419_1)).trans hx419_1;have HR419_1:=zMk hi419_1;have HC419_1:=zMk hl419_1;clear hi419_1 hl419_1;replace p419:=eq_true p419;replace q419:=eq_true q419;go_wp2_with (first | ((with_reducible refine gate_dst (N:=13) rfl ?_);refine box_event ?hg (N:=13) ?hd (cs:=#[.bool false,.slice none 0 0]) (t:=47) ?hr ?_;(case hd=>rfl);(case hg=>rfl);(case hr=>first | (go_simp;done) | (go_simp;rfl));intro gb420 hg w114 hbox hb;have n0_:=zMk (Kd.R_below (rs HO_6) hb);have n1_:=zMk (Kd.R_below (rs HO_7) hb);have n2_:=zMk (Kd.R_below (rs HO_11) hb);have n3_:=zMk (Kd.S_below (Kd.S_elderB (ss HO_416000) gb420 (Nat.le_of_eq hg.symm)) hb);have n4_:=zMk (blk_below (g:=gb395) (o:=.cells #[.slice (some ad419) l0_0.length c0_0] 26 (0,0)) (bs BK395) hb);have n5_:=zMk (blk_below (g:=gb396) (o:=.cells #[.slice none 0 0] 26 (0,0)) (bs BK396) hb);have n6_:=zMk (blk_below (g:=gb415) (o:=.cells #[u416000] 26 (0,0)) (bs BK415) hb);have n7_:=zMk (below_step (hs3 HB GE395 GE396 GE415) hb);have n8_:=zMk (hbox);have n9_:=zMk ((by rw [hg];exact (below_size (hs3 HB GE395 GE396 GE415)) : w.heap.size ≤ gb420));have n10_:=zMk ((by rw [hg];exact (below_size (hs3 HB GE395 GE396 GE415)) : w.heap.size ≤ gb420));have n11_:=zMk ((by rw [hg];exact Nat.ne_of_lt (blk_lt (g:=gb395) (o:=.cells #[.slice (some ad419) l0_0.length c0_0] 26 (0,0)) (bs BK395)) : gb395 ≠ gb420));have n12_:=zMk ((by rw [hg];exact Nat.ne_of_gt (blk_lt (g:=gb395) (o:=.cells #[.slice (some ad419) l0_0.length c0_0] 26 (0,0)) (bs BK395)) : gb420 ≠ gb395));have n13_:=zMk ((by rw [hg];exact Nat.ne_of_lt (blk_lt (g:=gb396) (o:=.cells #[.slice none 0 0] 26 (0,0)) (bs BK396)) : gb396 ≠ gb420));have n14_:=zMk ((by rw [hg];exact Nat.ne_of_gt (blk_lt (g:=gb396) (o:=.cells #[.slice none 0 0] 26 (0,0)) (bs BK396)) : gb420 ≠ gb396));have n15_:=zMk ((by rw [hg];exact Nat.ne_of_lt (blk_lt (g:=gb415) (o:=.cells #[u416000] 26 (0,0)) (bs BK415)) : gb415 ≠ gb420));have n16_:=zMk ((by rw [hg];exact Nat.ne_of_gt (blk_lt (g:=gb415) (o:=.cells #[u416000] 26 (0,0)) (bs BK415)) : gb420 ≠ gb415));clear HO_6;clear HO_7;clear HO_11;clear HO_416000;clear BK395;clear BK396;clear BK415;clear HB;have HO_6:=n0_;have HO_7:=n1_;have HO_11:=n2_;have HO_416000:=n3_;have BK395:=n4_;have BK396:=n5_;have BK415:=n6_;have HB:=n7_;have BK420:=n8_;have GW420:=n9_;have GE420:=n10_;have NB395_420:=n11_;have NB420_395:=n12_;have NB396_420:=n13_;have NB420_396:=n14_;have NB415_420:=n15_;have NB420_415:=n16_;clear n0_ n1_ n2_ n3_ n4_ n5_ n6_ n7_ n8_ n9_ n10_ n11_ n12_ n13_ n14_ n15_ n16_;clear hb hbox hg;have hnb115:=NB420_395.out;have hnc115:=NB395_420.out;have hnb116:=NB420_396.out;have hnc116:=NB396_420.out;have hnb117:=NB420_415.out;have hnc117:=NB415_420.out;have hcz118_0 : w114.cell? ⟨gb420,0,none⟩ = some (.bool false):=(zCl BK420.out 0).trans rfl;have hcz118_1 : w114.cell? ⟨gb420,1,none⟩ = some (.slice none 0 0):=(zCl BK420.out 1).trans rfl;have hfz118_0:=zFr BK420.out 0;have hfz118_1:=zFr BK420.out 1;obtain ⟨Ao119,co119,eo119⟩:=Kd.R_slice HO_7.out;subst eo119) | ((with_reducible refine gate_callee (f:=33) rfl ?_);refine goesL_ (some 64) rfl rfl Try.func33 (by kernel_rfl) rfl #[.slice Ao119 x7_2.length co119,.int .i64 x57_2] rfl (by (try simp only [List.map_toArray,List.map_cons,List.map_nil]);first | done | rfl | (simp only [List.length_drop,List.length_take];rfl)) ?_;(with_reducible refine (impl_hasInt.calls k2 _ _ x7_2 x57_2 false _ ?side1 ?side2 A46.out).mono ?_);(case side1=>refine (Kd.R_reads' (e:=3) (base:=w.heap.size) (ok:=fun k_=>(some k_ ≠ (v398 : Value).ownBlock ∧ some k_ ≠ (v417 : Value).ownBlock)) (n:=x7_2.length) (c:=co119) ?_).2.2;exact (by (with_reducible repeat (first | apply Kd.R_alloc | apply Kd.R_drewN | apply Kd.R_drew));exact (Kd.R_mono (Kd.R_far (p:=⟨gb420,1,none⟩) (Kd.R_far (p:=⟨gb420,0,none⟩) (Kd.R_types HO_7.out BK420.out (by decide)) (fun _ hk=>hk.2) (.bool ((rd_T47 l0_0 x57_2).f0))) (fun _ hk=>hk.2) (.slice A419_1 ((rd_T47 l0_0 x57_2).f1).length c419_1)) (fun _ h_=>h_.1))));(case side2=>exact (Kd.R_reads' HO_7.out).2.1);rintro e w' ⟨rfl,⟨nd,rfl⟩⟩;refine ⟨_,rfl,?_⟩));go_roundg k2;case measure=>have:=HK1.out;have:=HK2.out;omega
           case rel=>exact ⟨(x6_2),(x7_2),(x11_2),(wrap64 (x57_2 + 1)),(x416000_2),(u416000),(by first | rfl | (simp;done) | (simp [*];done)),H',⟨by have:=HK1.out;have:=HK2.out;omega⟩,⟨by (with_reducible repeat (first | apply Kd.R_alloc | apply Kd.R_drewN | apply Kd.R_drew));exact Kd.R_mono (Kd.R_far (p:=⟨gb420,1,none⟩) (Kd.R_far (p:=⟨gb420,0,none⟩) (Kd.R_types HO_6.out BK420.out (by decide)) (fun _ hk=>hk.2) (.bool ((rd_T47 l0_0 x57_2).f0))) (fun _ hk=>hk.2) (.slice A419_1 ((rd_T47 l0_0 x57_2).f1).length c419_1)) (fun _ hk=>⟨hk.1.1,hk.1.2⟩)⟩,⟨by (with_reducible repeat (first | apply Kd.R_alloc | apply Kd.R_drewN | apply Kd.R_drew));exact Kd.R_mono (Kd.R_far (p:=⟨gb420,1,none⟩) (Kd.R_far (p:=⟨gb420,0,none⟩) (Kd.R_types HO_7.out BK420.out (by decide)) (fun _ hk=>hk.2) (.bool ((rd_T47 l0_0 x57_2).f0))) (fun _ hk=>hk.2) (.slice A419_1 ((rd_T47 l0_0 x57_2).f1).length c419_1)) (fun _ hk=>⟨hk.1.1,hk.1.2⟩)⟩,⟨by (with_reducible repeat (first | apply Kd.R_alloc | apply Kd.R_drewN | apply Kd.R_drew));exact Kd.R_mono (Kd.R_far (p:=⟨gb420,1,none⟩) (Kd.R_far (p:=⟨gb420,0,none⟩) (Kd.R_types HO_11.out BK420.out (by decide)) (fun _ hk=>hk.2) (.bool ((rd_T47 l0_0 x57_2).f0))) (fun _ hk=>hk.2) (.slice A419_1 ((rd_T47 l0_0 x57_2).f1).length c419_1)) (fun _ hk=>⟨hk.1.1,hk.1.2⟩)⟩,⟨by (with_reducible repeat (first | apply Kd.S_alloc | apply Kd.S_drewN | apply Kd.S_drew));exact Kd.S_mono (Kd.S_far (p:=⟨gb420,1,none⟩) (Kd.S_far (p:=⟨gb420,0,none⟩) (Kd.S_mono HO_416000.out (fun k_ hk=>(⟨hk,hk.2⟩ : _ ∧ k_ ≠ gb420))) (fun _ hk=>hk.2) (.bool ((rd_T47 l0_0 x57_2).f0))) (fun _ hk=>hk.2) (.slice A419_1 ((rd_T47 l0_0 x57_2).f1).length c419_1)) (fun _ hk=>⟨hk.1.1.1,⟨hk.1.1.2.1,hk.1.1.2.2⟩⟩)⟩,⟨by (with_reducible repeat (first | refine blk_drewN ?_ _ | refine blk_drew ?_ | refine blk_alloc ?_ _));refine blk_far ?_ NB395_420.out _;(with_reducible repeat (first | refine blk_drewN ?_ _ | refine blk_drew ?_ | refine blk_alloc ?_ _));refine blk_far ?_ NB395_420.out _;(with_reducible repeat (first | refine blk_drewN ?_ _ | refine blk_drew ?_ | refine blk_alloc ?_ _));exact BK395.out⟩,⟨by (with_reducible repeat (first | refine blk_drewN ?_ _ | refine blk_drew ?_ | refine blk_alloc ?_ _));refine blk_far ?_ NB396_420.out _;(with_reducible repeat (first | refine blk_drewN ?_ _ | refine blk_drew ?_ | refine blk_alloc ?_ _));refine blk_far ?_ NB396_420.out _;(with_reducible repeat (first | refine blk_drewN ?_ _ | refine blk_drew ?_ | refine blk_alloc ?_ _));exact BK396.out⟩,⟨by (with_reducible repeat (first | refine blk_drewN ?_ _ | refine blk_drew ?_ | refine blk_alloc ?_ _));refine blk_far ?_ NB415_420.out _;(with_reducible repeat (first | refine blk_drewN ?_ _ | refine blk_drew ?_ | refine blk_alloc ?_ _));refine blk_far ?_ NB415_420.out _;(with_reducible repeat (first | refine blk_drewN ?_ _ | refine blk_drew ?_ | refine blk_alloc ?_ _));exact BK415.out⟩,⟨hs4 HB GE395 GE396 GE415 GE420⟩⟩
          rw [if_neg c45] at H;exact absurd H (by simp)
         rw [if_neg c44] at H;exact absurd H (by simp)
        rw [if_neg c43] at H;have c43b0 : decide (x57_2 < (l0_0.length : Int)) = false:=decide_eq_false c43;clear c43;have H':=zMk H;clear H
        go_wp2
        go_loopg [111] k2 (fun kq v111 w'=>∃ (x6_3 : List Int) (x111_3 : Int),v111 = .int .i64 x111_3 ∧ Aside0 (impl_SweepArena.l3 kq x6_3 x11_2 l1 (l1.length : Int) x111_3 x416000_2 = some (r1,r2)) ∧ Aside0 (kq ≤ k2) ∧ Aside0 (Kd.R (Kd.int .i64) 3 w' w.heap.size (fun k_=>some k_ ≠ (v417 : Value).ownBlock) v398 x6_3) ∧ Aside0 (Kd.R (Kd.int .i64) 3 w' w.heap.size (fun k_=>some k_ ≠ (v398 : Value).ownBlock) v417 x11_2) ∧ Aside0 (Kd.S k47 47 w' w.heap.size (fun k_=>some k_ ≠ (v398 : Value).ownBlock ∧ some k_ ≠ (v417 : Value).ownBlock) u416000 x416000_2) ∧ Aside0 (w'.heap[gb395]? = some (.cells #[(.slice A0_0 l0_0.length c0_0)] 26 (0,0))) ∧ Aside0 (w'.heap[gb396]? = some (.cells #[(.slice none 0 0)] 26 (0,0))) ∧ Aside0 (w'.heap[gb415]? = some (.cells #[u416000] 26 (0,0))) ∧ Aside0 (Below w.heap.size w w'));case atStart=>exact ⟨(x6_2),(0),(by first | rfl | (simp;done) | (simp [*];done)),H',⟨Nat.le_refl _⟩,⟨by (with_reducible repeat (first | apply Kd.R_alloc | apply Kd.R_drewN | apply Kd.R_drew));exact Kd.R_mono HO_6.out (fun _ hk=>hk.2)⟩,⟨by (with_reducible repeat (first | apply Kd.R_alloc | apply Kd.R_drewN | apply Kd.R_drew));exact Kd.R_mono HO_11.out (fun _ hk=>hk.1)⟩,⟨by (with_reducible repeat (first | apply Kd.S_alloc | apply Kd.S_drewN | apply Kd.S_drew));exact Kd.S_mono HO_416000.out (fun _ hk=>⟨hk.1,hk.2.2⟩)⟩,⟨bs BK395⟩,⟨bs BK396⟩,⟨bs BK415⟩,⟨hs3 HB GE395 GE396 GE415⟩⟩
        case round =>
         clear H'
         try clear c1
         try clear c2
         try clear p2
         try clear c3
         try clear c4
         try clear p4
         try clear q4
         try clear hx4
         try clear hf4
         try clear c5
         try clear p6
         try clear c7
         try clear c7b0
         try clear c8
         try clear c8b0
         try clear p8
         try clear q8
         try clear hx8
         try clear hf8
         try clear c9
         try clear c9b0
         try clear c10
         try clear c11
         try clear c11b0
         try clear c11b1
         try clear c13
         try clear c16
         try clear c18
         try clear c23
         try clear c24
         try clear c25
         try clear c26
         try clear c31
         try clear c32
         try clear c32b0
         try clear c32b1
         try clear c33
         try clear c33b0
         try clear c33b1
         try clear c34
         try clear c38
         try clear p40
         try clear q40
         try clear hx40
         try clear c41
         try clear p41
         try clear q41
         try clear hx41
         try clear p42
         try clear q42
         try clear hx42
         try clear c43
         try clear c43b0
         try clear c44
         try clear c44b0
         try clear c45
         try clear c45b0
         try clear c47
         try clear c48
         try clear c48b0
         try clear p49
         try clear q49
         try clear hx49
         try clear hf49
         try clear c52
         try clear c53
         try clear c54
         try clear c58
         try clear c59
         try clear p64
         try clear c72
         try clear c74
         try clear c74b0
         try clear c75
         try clear c75b0
         try clear c76
         try clear c76b0
         try clear c77
         try clear c77b0
         try clear c78
         try clear c79
         try clear c80
         try clear c81
         try clear c83
         try clear c83b0
         try clear c84
         try clear c84b0
         try clear c85
         try clear c85b0
         try clear c86
         try clear c86b0
         try clear p87
         try clear q87
         try clear hx87
         try clear hf87
         try clear c88
         try clear c89
         try clear c90
         try clear c91
         try clear c95
         try clear c96
         try clear c97
         try clear c98
         try clear c100
         try clear c101
         try clear c102
         try clear c103
         try clear c104
         try clear c106
         try clear c107
         try clear c108
         try clear c115
         try clear c116
         try clear c117
         try clear hcz105_0
         try clear hcz109_0
         try clear hcz109_1
         try clear hcz113_0
         try clear hcz118_0
         try clear hcz118_1
         try clear hcz14_0
         try clear hcz19_0
         try clear hcz22_0
         try clear hcz26_0
         try clear hcz35_0
         try clear hcz39_0
         try clear hcz42_0
         try clear hcz55_0
         try clear hcz55_1
         try clear hcz60_0
         try clear hcz73_0
         try clear hcz73_1
         try clear hcz82_0
         try clear hcz82_1
         try clear hcz92_0
         try clear hcz92_1
         try clear hcz99_0
         try clear hcz99_1
         try clear hfz105_0
         try clear hfz109_0
         try clear hfz109_1
         try clear hfz113_0
         try clear hfz118_0
         try clear hfz118_1
         try clear hfz14_0
         try clear hfz19_0
         try clear hfz22_0
         try clear hfz26_0
         try clear hfz35_0
         try clear hfz39_0
         try clear hfz42_0
         try clear hfz55_0
         try clear hfz55_1
         try clear hfz60_0
         try clear hfz73_0
         try clear hfz73_1
         try clear hfz82_0
         try clear hfz82_1
         try clear hfz92_0
         try clear hfz92_1
         try clear hfz99_0
         try clear hfz99_1
         try clear hx400_0
         try clear hx419_0
         try clear hx419_1
         try clear hx427_0
         try clear hx428_0
         try clear hx49_0
         try clear hx87_0
         try clear p2
         try clear p4
         try clear p40
         try clear p400
         try clear p41
         try clear p419
         try clear p427
         try clear p428
         try clear p49
         try clear p6
         try clear p64
         try clear p87
         try clear q4
         try clear q40
         try clear q400
         try clear q41
         try clear q419
         try clear q427
         try clear q428
         try clear q49
         try clear q87
         obtain ⟨x6_3,x111_3,rfl,HA,HK3,HO_6,HO_11,HO_416000,BK395,BK396,BK415,HB⟩:=hrel;cases gk with
         | zero=>exact absurd HA.out (by simp [impl_SweepArena.l3])
         | succ k3 =>
          have H:=HA.out;clear HA;simp only [impl_SweepArena.l3] at H
          by_cases c120 : x111_3 < (l1.length : Int)
          ·rw [if_pos c120] at H;have c120b0 : decide (x111_3 < (l1.length : Int)) = true:=decide_eq_true c120;clear c120
           by_cases c121 : 0 ≤ x111_3
           ·rw [if_pos c121] at H;have c121b0 : decide (0 ≤ x111_3) = true:=decide_eq_true c121;clear c121
            by_cases c122 : x111_3 < (l1.length : Int)
            ·rw [if_pos c122] at H;have c122b0 : decide (x111_3 < (l1.length : Int)) = true:=decide_eq_true c122;clear c122
             by_cases c123 : (rd l1 x111_3) ≥ 0
             ·rw [if_pos c123] at H;have c123b0 : decide (0 ≤ (rd l1 x111_3)) = true:=decide_eq_true c123;clear c123
              by_cases c124 : 0 ≤ (rd l1 x111_3)
              ·rw [if_pos c124] at H;have c124b0 : decide (0 ≤ (rd l1 x111_3)) = true:=decide_eq_true c124;clear c124
               by_cases c125 : (rd l1 x111_3) < (x11_2.length : Int)
               ·rw [if_pos c125] at H;have c125b0 : decide ((rd l1 x111_3) < (x11_2.length : Int)) = true:=decide_eq_true c125;clear c125
                by_cases c126 : x111_3 < (x6_3.length : Int)
                ·rw [if_pos c126] at H;have c126b0 : decide (x111_3 < (x6_3.length : Int)) = true:=decide_eq_true c126;clear c126;obtain ⟨y435,hy435⟩ : ∃ y_ : List Int,y_ = (x6_3.set (x111_3 : Int).toNat (rd x11_2 (rd l1 x111_3))):=⟨_,rfl⟩;replace H : (impl_SweepArena.l3 k3 y435 x11_2 l1 (l1.length : Int) (wrap64 (x111_3 + 1)) x416000_2) = some (r1,r2):=by first | (rw [hy435];with_reducible exact H) | (have H2_:=(Option.bind_some _ _).symm.trans H;rw [hy435];with_reducible exact H2_) | (have H2_:=(Option.bind_some _ _).symm.trans H;with_reducible exact H2_) | with_reducible exact H | (rw [hy435];exact H) | exact H
                 have Ny435:=zMk hy435;clear hy435;have H':=zMk H;clear H;have p433 : 0 ≤ (x111_3 : Int):=of_decide_eq_true (by first | (with_reducible assumption) | assumption);have q433 : x111_3 < (l1.length : Int):=of_decide_eq_true (by first | (with_reducible assumption) | assumption);obtain ⟨ad433,e433,hx433_0⟩:=Kd.at_int HR1.out x111_3 p433 q433;cases e433;replace hx433_0:=(HB.out.cell (World.block_lt_of_cell? w _ hx433_0)).trans hx433_0;replace p433:=eq_true p433;replace q433:=eq_true q433;obtain ⟨Ao128,co128,eo128⟩:=Kd.R_slice HO_11.out;subst eo128;have p434 : 0 ≤ ((rd l1 x111_3) : Int):=of_decide_eq_true (by first | (with_reducible assumption) | assumption);have q434 : (rd l1 x111_3) < (x11_2.length : Int):=of_decide_eq_true (by first | (with_reducible assumption) | assumption);obtain ⟨ad434,e434,hx434_0⟩:=Kd.at_int (Kd.R_reads' HO_11.out).2.2 (rd l1 x111_3) p434 q434;cases e434;replace p434:=eq_true p434;replace q434:=eq_true q434;have p127 : 0 ≤ (x111_3 : Int):=of_decide_eq_true (by first | (with_reducible assumption) | assumption);have q127 : (x111_3 : Int) < ((x6_3.length : Int) : Int):=of_decide_eq_true (by first | (with_reducible assumption) | assumption);obtain ⟨go127,co127,eo127,gb127,gl127,cl127,HG127⟩:=Kd.R_form HO_6.out (by omega)
                 (first | cases eo127 | (injection eo127 with ea_ en_ ec_;(first | subst ea_ | (injection ea_ with ea_;subst ea_));subst ec_;clear en_))
                 have GB127:=zMk gb127;have GG127:=zMk HG127;clear gb127 gl127 HG127;obtain ⟨hx127_0,hf127_0⟩:=Kd.R_celln 0 HO_6.out (x111_3 : Int) p127 q127;replace p127:=eq_true p127;replace q127:=eq_true q127;have HP129:=Kd.R_putg HO_6.out (x111_3 : Int) (rd x11_2 (rd l1 x111_3));go_wp2_with (first | ((with_reducible refine gate_store (t:=3) (p:=124) rfl ?_);refine store_event (t:=3) (p:=124) (v:=?vo_w130) (w1:=(wr.setCell ⟨go127,(x111_3 : Int).toNat,none⟩ (.int .i64 (rd x11_2 (rd l1 x111_3))))) ?hg ?ho ?hn ?hr ?_;(case ho=>rfl);(case hg=>rfl);(case hn=>rfl);(case hr=>first | (go_simp;done) | (go_simp;rfl));intro w130 hw;have hg : wr.grownBy w130 (some go127):=(by rw [hw];exact HP129.2);have hp_ : Kd.R (Kd.int .i64) 3 w130 w.heap.size (fun k_=>some k_ ≠ (.slice (some ad434) x11_2.length co128 : Value).ownBlock) (.slice (some ⟨go127,0,none⟩) x6_3.length co127) y435:=(by rw [hw,Ny435.out];exact HP129.1);clear HP129;have n0_:=zMk (hp_);have n1_:=zMk (Kd.R_after (v:=(.slice (some ⟨go127,0,none⟩) x6_3.length co127)) (v1:=(.slice (some ⟨go127,0,none⟩) x6_3.length co127)) (ok:=(fun _=>True)) (by (with_reducible repeat (first | apply Kd.R_alloc | apply Kd.R_drewN | apply Kd.R_drew));exact Kd.R_mono HO_11.out (fun _ hk=>⟨trivial,hk⟩)) hg (.inl rfl));have n2_:=zMk (Kd.S_after (v:=(.slice (some ⟨go127,0,none⟩) x6_3.length co127)) (v1:=(.slice (some ⟨go127,0,none⟩) x6_3.length co127)) (ok:=(fun k_=>some k_ ≠ (.slice (some ad434) x11_2.length co128 : Value).ownBlock)) (by (with_reducible repeat (first | apply Kd.S_alloc | apply Kd.S_drewN | apply Kd.S_drew));exact Kd.S_mono HO_416000.out (fun _ hk=>⟨hk.2,hk.1⟩)) hg (.inl rfl));have n3_:=zMk (blk_grown (g:=gb395) (o:=.cells #[.slice A0_0 l0_0.length c0_0] 26 (0,0)) (bs BK395) hg (Kd.R_ne HO_6.out BK395.out (by decide)));have n4_:=zMk (blk_grown (g:=gb396) (o:=.cells #[.slice none 0 0] 26 (0,0)) (bs BK396) hg (Kd.R_ne HO_6.out BK396.out (by decide)));have n5_:=zMk (blk_grown (g:=gb415) (o:=.cells #[u416000] 26 (0,0)) (bs BK415) hg (Kd.R_ne HO_6.out BK415.out (by decide)));have n6_:=zMk ((by rw [hw];exact below_set (HB.out) GB127.out : Below w.heap.size w w130));clear HO_6;clear HO_11;clear HO_416000;clear BK395;clear BK396;clear BK415;clear HB;have HO_6:=n0_;have HO_11:=n1_;have HO_416000:=n2_;have BK395:=n3_;have BK396:=n4_;have BK415:=n5_;have HB:=n6_;clear n0_ n1_ n2_ n3_ n4_ n5_ n6_;clear hg hw hp_));go_roundg k3;case measure=>have:=HK1.out;have:=HK2.out;have:=HK3.out;omega
                 case rel=>exact ⟨(y435),(wrap64 (x111_3 + 1)),(by first | rfl | (simp;done) | (simp [*];done)),H',⟨by have:=HK1.out;have:=HK2.out;have:=HK3.out;omega⟩,⟨rs HO_6⟩,⟨by (with_reducible repeat (first | apply Kd.R_alloc | apply Kd.R_drewN | apply Kd.R_drew));exact Kd.R_mono HO_11.out (fun _ hk=>hk.2)⟩,⟨by (with_reducible repeat (first | apply Kd.S_alloc | apply Kd.S_drewN | apply Kd.S_drew));exact Kd.S_mono HO_416000.out (fun _ hk=>⟨hk.2,hk.1⟩)⟩,⟨bs BK395⟩,⟨bs BK396⟩,⟨bs BK415⟩,⟨hs3 HB GE395 GE396 GE415⟩⟩
                rw [if_neg c126] at H;exact absurd H (by simp)
               rw [if_neg c125] at H;exact absurd H (by simp)
              rw [if_neg c124] at H;exact absurd H (by simp)
             rw [if_neg c123] at H;have c123b0 : decide (0 ≤ (rd l1 x111_3)) = false:=decide_eq_false c123;clear c123;have H':=zMk H;clear H;have p433 : 0 ≤ (x111_3 : Int):=of_decide_eq_true (by first | (with_reducible assumption) | assumption);have q433 : x111_3 < (l1.length : Int):=of_decide_eq_true (by first | (with_reducible assumption) | assumption);obtain ⟨ad433,e433,hx433_0⟩:=Kd.at_int HR1.out x111_3 p433 q433;cases e433;replace hx433_0:=(HB.out.cell (World.block_lt_of_cell? w _ hx433_0)).trans hx433_0;replace p433:=eq_true p433;replace q433:=eq_true q433
             go_wp2
             go_roundg k3;case measure=>have:=HK1.out;have:=HK2.out;have:=HK3.out;omega
             case rel=>exact ⟨(x6_3),(wrap64 (x111_3 + 1)),(by first | rfl | (simp;done) | (simp [*];done)),H',⟨by have:=HK1.out;have:=HK2.out;have:=HK3.out;omega⟩,⟨rs HO_6⟩,⟨rs HO_11⟩,⟨ss HO_416000⟩,⟨bs BK395⟩,⟨bs BK396⟩,⟨bs BK415⟩,⟨hs3 HB GE395 GE396 GE415⟩⟩
            rw [if_neg c122] at H;exact absurd H (by simp)
           rw [if_neg c121] at H;exact absurd H (by simp)
          rw [if_neg c120] at H;have c120b0 : decide (x111_3 < (l1.length : Int)) = false:=decide_eq_false c120;clear c120;simp only [Option.some.injEq,Prod.mk.injEq] at H;obtain ⟨rfl,rfl⟩:=H;have hnb131:=NB415_395.out;have hnc131:=NB395_415.out;have hnb132:=NB415_396.out;have hnc132:=NB396_415.out;have hcz133_0 : wr.cell? ⟨gb415,0,none⟩ = some (u416000):=(zCl BK415.out 0).trans rfl;have hfz133_0:=zFr BK415.out 0;obtain ⟨Ao134,co134,eo134⟩:=Kd.S_slice HO_416000.out;subst eo134;have hnb135:=NB396_395.out;have hnc135:=NB395_396.out;have hcz136_0 : wr.cell? ⟨gb396,0,none⟩ = some (.slice none 0 0):=(zCl BK396.out 0).trans rfl;have hfz136_0:=zFr BK396.out 0
          go_wp2
          refine bodyPost_ret (results_ct rfl _ _ gb396 26 #[.slice Ao134 x416000_2.length co134] (0,0) _ rfl (by (with_reducible repeat (first | refine blk_drewN ?_ _ | refine blk_drew ?_ | refine blk_alloc ?_ _));refine blk_put (cs:=#[.slice none 0 0]) ?_ 0 _ rfl;(with_reducible repeat (first | refine blk_drewN ?_ _ | refine blk_drew ?_ | refine blk_alloc ?_ _));exact BK396.out) Try.underlying26 rfl (by kernel_rfl)) rfl ?_;exact ⟨_,_,by first | rfl | (simp [errW_none,errW_some] <;> rfl) | (simp [*,errW_none,errW_some] <;> rfl),by (with_reducible repeat (first | apply Kd.S_alloc | apply Kd.S_drewN | apply Kd.S_drew));exact Kd.S_mono (Kd.S_far (p:=⟨gb396,0,none⟩) (Kd.S_types HO_416000.out BK396.out (by decide)) (fun _ hk=>hk.2) (.slice Ao134 x416000_2.length co134)) (fun _ hk=>hk.1.1),by (with_reducible repeat (first | apply Kd.R_alloc | apply Kd.R_drewN | apply Kd.R_drew));exact Kd.R_mono (Kd.R_far (p:=⟨gb396,0,none⟩) (Kd.R_types HO_6.out BK396.out (by decide)) (fun _ hk=>hk.2) (.slice Ao134 x416000_2.length co134)) (fun _ hk=>trivial),hs3 HB GE395 GE396 GE415⟩
     rw [if_neg c33] at H;exact absurd H (by simp)
    rw [if_neg c32] at H;exact absurd H (by simp)
   replace c31:=Bool.eq_false_iff.mpr c31;subst c31;have H1 : ((impl_copyArena.f k1 l0_0).bind fun t412=>(some (t412,t397))) = some (r1,r2):=by rw [if_neg (show ¬ (false = true) by decide)] at H;exact H
   clear H;have H:=H1;clear H1;replace H:=Option.bind_eq_some_iff.mp H;obtain ⟨t412,A1370,H⟩:=H;replace H : (some (t412,t397)) = some (r1,r2):=H;have A137:=zMk A1370;clear A1370;simp only [Option.some.injEq,Prod.mk.injEq] at H;obtain ⟨rfl,rfl⟩:=H;have hnb138:=NB395_396.out;have hnc138:=NB396_395.out;have hcz139_0 : wr.cell? ⟨gb395,0,none⟩ = some (.slice A0_0 l0_0.length c0_0):=(zCl BK395.out 0).trans rfl;have hfz139_0:=zFr BK395.out 0;go_wp2_with (first | ((with_reducible refine gate_callee (f:=10) rfl ?_);refine goesL_ (some 45) rfl rfl Try.func10 (by kernel_rfl) rfl #[.agg #[.slice A0_0 l0_0.length c0_0]] rfl (by (try simp only [List.map_toArray,List.map_cons,List.map_nil]);first | done | rfl | (simp only [List.length_drop,List.length_take];rfl)) ?_;(with_reducible refine (impl_ArenaOk.calls k1 _ _ l0_0 false _ ?side1 ?side2 A30.out).mono ?_);(case side1=>repeat (first | exact (Kd.C_below HR0_0.out HB.out) | (with_reducible refine Kd.C_alloc ?_ _) | (with_reducible refine Kd.C_drewN ?_ _) | (with_reducible refine Kd.C_drew ?_)));(case side2=>exact HC0_0.out);rintro e w140 ⟨rfl,hb⟩;refine ⟨_,rfl,?_⟩;have n0_:=zMk (Kd.R_below (rs HO_6) hb);have n1_:=zMk (Kd.R_below (rs HO_7) hb);have n2_:=zMk (blk_below (g:=gb395) (o:=.cells #[.slice A0_0 l0_0.length c0_0] 26 (0,0)) (bs BK395) hb);have n3_:=zMk (blk_below (g:=gb396) (o:=.cells #[.slice none 0 0] 26 (0,0)) (bs BK396) hb);have n4_:=zMk (below_step (hs2 HB GE395 GE396) hb);clear HO_6;clear HO_7;clear BK395;clear BK396;clear HB;have HO_6:=n0_;have HO_7:=n1_;have BK395:=n2_;have BK396:=n3_;have HB:=n4_;clear n0_ n1_ n2_ n3_ n4_;(try clear hb);(try clear hb2);(try clear hk);(try clear hi);have hcz141_0 : w140.cell? ⟨gb395,0,none⟩ = some (.slice A0_0 l0_0.length c0_0):=(zCl BK395.out 0).trans rfl;have hfz141_0:=zFr BK395.out 0) | ((with_reducible refine gate_callee (f:=23) rfl ?_);refine goesL_ (some 48) rfl rfl Try.func23 (by kernel_rfl) rfl #[.agg #[.slice A0_0 l0_0.length c0_0]] rfl (by (try simp only [List.map_toArray,List.map_cons,List.map_nil]);first | done | rfl | (simp only [List.length_drop,List.length_take];rfl)) ?_;(with_reducible refine (impl_copyArena.calls k1 _ _ l0_0 t412 _ ?side1 ?side2 A137.out).mono ?_);(case side1=>repeat (first | exact (Kd.C_below HR0_0.out HB.out) | (with_reducible refine Kd.C_alloc ?_ _) | (with_reducible refine Kd.C_drewN ?_ _) | (with_reducible refine Kd.C_drew ?_)));(case side2=>exact HC0_0.out);rintro e w142 ⟨v413,rfl,ho0,hb⟩;refine ⟨_,rfl,?_⟩;have n0_:=zMk (Kd.R_below (rs HO_6) hb);have n1_:=zMk (Kd.R_below (rs HO_7) hb);have n2_:=zMk (Kd.S_lower (Kd.S_new' (Kd.S_new' ho0 (Kd.R_lt (rs HO_6))) (Kd.R_lt (rs HO_7))) (below_size (hs2 HB GE395 GE396)));have n3_:=zMk (blk_below (g:=gb395) (o:=.cells #[.slice A0_0 l0_0.length c0_0] 26 (0,0)) (bs BK395) hb);have n4_:=zMk (blk_below (g:=gb396) (o:=.cells #[.slice none 0 0] 26 (0,0)) (bs BK396) hb);have n5_:=zMk (below_step (hs2 HB GE395 GE396) hb);clear HO_6;clear HO_7;clear BK395;clear BK396;clear HB;have HO_6:=n0_;have HO_7:=n1_;have HO414:=n2_;have BK395:=n3_;have BK396:=n4_;have HB:=n5_;clear n0_ n1_ n2_ n3_ n4_ n5_;(try clear hb);(try clear hb2);(try clear hk);(try clear hi);(try clear ho0);obtain ⟨Ao143,co143,eo143⟩:=Kd.S_slice HO414.out;subst eo143;have hcz144_0 : w142.cell? ⟨gb396,0,none⟩ = some (.slice none 0 0):=(zCl BK396.out 0).trans rfl;have hfz144_0:=zFr BK396.out 0));refine bodyPost_ret (results_ct rfl _ _ gb396 26 #[.slice Ao143 t412.length co143] (0,0) _ rfl (by (with_reducible repeat (first | refine blk_drewN ?_ _ | refine blk_drew ?_ | refine blk_alloc ?_ _));refine blk_put (cs:=#[.slice none 0 0]) ?_ 0 _ rfl;(with_reducible repeat (first | refine blk_drewN ?_ _ | refine blk_drew ?_ | refine blk_alloc ?_ _));exact BK396.out) Try.underlying26 rfl (by kernel_rfl)) rfl ?_;exact ⟨_,_,by first | rfl | (simp [errW_none,errW_some] <;> rfl) | (simp [*,errW_none,errW_some] <;> rfl),by (with_reducible repeat (first | apply Kd.S_alloc | apply Kd.S_drewN | apply Kd.S_drew));exact Kd.S_mono (Kd.S_far (p:=⟨gb396,0,none⟩) (Kd.S_types HO414.out BK396.out (by decide)) (fun _ hk=>hk.2) (.slice Ao143 t412.length co143)) (fun _ hk=>hk.1.1.2),by (with_reducible repeat (first | apply Kd.R_alloc | apply Kd.R_drewN | apply Kd.R_drew));exact Kd.R_mono (Kd.R_far (p:=⟨gb396,0,none⟩) (Kd.R_types HO_6.out BK396.out (by decide)) (fun _ hk=>hk.2) (.slice Ao143 t412.length co143)) (fun _ hk=>trivial),hs2 HB GE395 GE396⟩
end Go.Proofs.Ytjpjikhokpfhmaa.PT
