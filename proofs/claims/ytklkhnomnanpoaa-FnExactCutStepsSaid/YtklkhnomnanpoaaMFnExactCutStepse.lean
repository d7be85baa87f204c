/- FnExactCutSteps: functions of the translation as Lean functions with what their calls come to, plain lemmas on them, and, at the end, the row. Parts of one proof, merged by a program of this session; each part's own sentence stands at its head. -/
import Derived.ChangeArms
import Derived.DataReads
import Derived.Test.YtklkhnomnanpoaaMFnExactCutStepsd
set_option linter.unusedSimpArgs false
set_option linter.unusedVariables false
namespace Go.Proofs.Ytklkhnomnanpoaa.PK
open Go.RowKit Go.Proofs.YtklkhnomnanpoaaW.PrintWords Go.Proofs.YtklkhnomnanpoaaW.PrintLast Go.Proofs.YtklkhnomnanpoaaW.PrintMore
attribute [local go_sem] max2_int min2_int max_two min_two max_three min_three max_four min_four
def laws_markStepS.l0 : Nat → List (S56) → Int → Int → Option (Int × (List (S56)))
 | 0,_,_,_=>none
 | k + 1,x0,x1,x5=>if x5 < (x0.length : Int) then (if 0 ≤ x5 then ((some (x0.set (x5 : Int).toNat (⟨x1,(rd_T56 x0 x5).f1,(rd_T56 x0 x5).f2,(rd_T56 x0 x5).f3⟩ : S56) : List (S56))).bind fun y813=>((some (y813.set (x5 : Int).toNat (⟨(rd_T56 y813 x5).f0,wrap64 (x1 + 1),(rd_T56 y813 x5).f2,(rd_T56 y813 x5).f3⟩ : S56) : List (S56))).bind fun y814=>((some (y814.set (x5 : Int).toNat (⟨(rd_T56 y814 x5).f0,(rd_T56 y814 x5).f1,wrap64 ((wrap64 (x1 + 1)) + 1),(rd_T56 y814 x5).f3⟩ : S56) : List (S56))).bind fun y815=>((laws_markText.f k (wrap64 ((wrap64 ((wrap64 (x1 + 1)) + 1)) + 1))).bind fun t816=>(laws_markStepS.l0 k (y815.set (x5 : Int).toNat (⟨(rd_T56 y815 x5).f0,(rd_T56 y815 x5).f1,(rd_T56 y815 x5).f2,t816⟩ : S56)) (wrap64 ((wrap64 ((wrap64 ((wrap64 (x1 + 1)) + 1)) + 1)) + 1)) (wrap64 (x5 + 1))))))) else (none)) else (some (x1,x0))
def laws_markStepS.f (k : Nat) (l0 : List (S56)) (a1 : Int) : Option (Int × (List (S56))):=laws_markStepS.l0 k l0 a1 0
theorem laws_markStepS.mono_l : ∀ k,(∀ y0 y1 y2,LeO (laws_markStepS.l0 k y0 y1 y2) (laws_markStepS.l0 (k + 1) y0 y1 y2))
 | 0=>fun _ _ _ r h=>by simp [laws_markStepS.l0] at h
 | k + 1=>by
  have ih0:=laws_markStepS.mono_l k;intro y0 y1 y2;unfold laws_markStepS.l0
  repeat' first
  | (with_reducible exact ih0 _ _ _)
  | (with_reducible exact laws_markText.mono _ _)
  | (with_reducible exact LeO.refl _)
  | (with_reducible exact LeO.none _)
  | (with_reducible refine LeO.ite ?_ ?_)
  | (with_reducible refine LeO.bind ?_ (fun _=>?_))
  | exact ih0 _ _ _
  | exact laws_markText.mono _ _
  | exact LeO.none _
  | refine LeO.ite ?_ ?_
  | refine LeO.bind ?_ (fun _=>?_)
theorem laws_markStepS.mono : ∀ a0 a1 k,LeO (laws_markStepS.f k a0 a1) (laws_markStepS.f (k + 1) a0 a1):=by
 intro a0 a1 k;have ih0:=laws_markStepS.mono_l k;unfold laws_markStepS.f
 repeat' first
   | (with_reducible exact ih0 _ _ _)
   | (with_reducible exact laws_markText.mono _ _)
   | (with_reducible exact LeO.refl _)
   | (with_reducible exact LeO.none _)
   | (with_reducible refine LeO.ite ?_ ?_)
   | (with_reducible refine LeO.bind ?_ (fun _=>?_))
   | exact ih0 _ _ _
   | exact laws_markText.mono _ _
   | exact LeO.none _
   | refine LeO.ite ?_ ?_
   | refine LeO.bind ?_ (fun _=>?_)
set_option maxHeartbeats 8000000 in
set_option maxRecDepth 100000 in
theorem laws_markStepS.calls (k : Nat) (P0_ : Nat → Prop) (u9000_ : Value) (l0 : List (S56)) (a1 : Int) (r1 : Int) (r2 : List (S56)) (w0 w : World) (hB : Below w0.heap.size w0 w) (ho0 : Kd.R k56 56 w w0.heap.size P0_ u9000_ l0) (h : laws_markStepS.f k l0 a1 = some (r1,r2)) :
  Calls Try.prog 31 #[u9000_,.int .i64 a1] w fun e w'=>e = .returned (.int .i64 r1) ∧ Kd.R k56 56 w' w0.heap.size (fun k_=>(P0_ k_ ∨ w.heap.size ≤ k_)) u9000_ r2 ∧ Below w0.heap.size w0 w' ∧ Kept w w' (fun k_=>P0_ k_):=by
 have HO0:=zMk (show Kd.R k56 56 w w0.heap.size (fun k_=>(P0_ k_ ∨ w.heap.size ≤ k_)) u9000_ l0 from Kd.R_mono ho0 (fun k_ hk=>(.inl hk)));have HK:=zMk (Kept.refl w (fun k_=>P0_ k_));have HW0:=zMk hB.size;have HB:=zMk hB;clear hB;have H : (laws_markStepS.l0 k l0 a1 0) = some (r1,r2):=h;clear h;have H':=zMk H;clear H
 go_enter Try.func31,Try.ntmps31
 go_wp2
 go_loopg [1,5] k (fun kq v1 v5 w'=>∃ (x0_1 : List (S56)) (x1_1 : Int) (x5_1 : Int),v1 = .int .i64 x1_1 ∧ v5 = .int .i64 x5_1 ∧ Aside0 (laws_markStepS.l0 kq x0_1 x1_1 x5_1 = some (r1,r2)) ∧ Aside0 (kq ≤ k) ∧ Aside0 (Kd.R k56 56 w' w0.heap.size (fun k_=>(P0_ k_ ∨ w.heap.size ≤ k_)) u9000_ x0_1) ∧ Aside0 (Kept w w' (fun k_=>P0_ k_)) ∧ Aside0 (Below w0.heap.size w0 w'));case atStart=>exact ⟨(l0),(a1),(0),(by first | rfl | (simp;done) | (simp [*];done)),(by first | rfl | (simp;done) | (simp [*];done)),H',⟨Nat.le_refl _⟩,⟨rs HO0⟩,⟨by repeat (first | (with_reducible first | exact HK.out | apply Kept.alloc | apply Kept.drewN | apply Kept.drew) | exact HK.out)⟩,⟨hs HB⟩⟩
 case round =>
  clear H'
  try clear p2
  obtain ⟨x0_1,x1_1,x5_1,rfl,rfl,HA,HK1,HO_0,HK,HB⟩:=hrel;cases gk with
  | zero=>exact absurd HA.out (by simp [laws_markStepS.l0])
  | succ k1 =>
   have H:=HA.out;clear HA;simp only [laws_markStepS.l0] at H
   by_cases c3 : x5_1 < (x0_1.length : Int)
   ·rw [if_pos c3] at H;have c3b0 : decide (x5_1 < (x0_1.length : Int)) = true:=decide_eq_true c3;clear c3
    by_cases c4 : 0 ≤ x5_1
    ·rw [if_pos c4] at H;have c4b0 : decide (0 ≤ x5_1) = true:=decide_eq_true c4;clear c4;obtain ⟨y813,hy813⟩ : ∃ y_ : List (S56),y_ = (x0_1.set (x5_1 : Int).toNat (⟨x1_1,(rd_T56 x0_1 x5_1).f1,(rd_T56 x0_1 x5_1).f2,(rd_T56 x0_1 x5_1).f3⟩ : S56)):=⟨_,rfl⟩;replace H : ((some (y813.set (x5_1 : Int).toNat (⟨(rd_T56 y813 x5_1).f0,wrap64 (x1_1 + 1),(rd_T56 y813 x5_1).f2,(rd_T56 y813 x5_1).f3⟩ : S56) : List (S56))).bind fun y814=>((some (y814.set (x5_1 : Int).toNat (⟨(rd_T56 y814 x5_1).f0,(rd_T56 y814 x5_1).f1,wrap64 ((wrap64 (x1_1 + 1)) + 1),(rd_T56 y814 x5_1).f3⟩ : S56) : List (S56))).bind fun y815=>((laws_markText.f k1 (wrap64 ((wrap64 ((wrap64 (x1_1 + 1)) + 1)) + 1))).bind fun t816=>(laws_markStepS.l0 k1 (y815.set (x5_1 : Int).toNat (⟨(rd_T56 y815 x5_1).f0,(rd_T56 y815 x5_1).f1,(rd_T56 y815 x5_1).f2,t816⟩ : S56)) (wrap64 ((wrap64 ((wrap64 ((wrap64 (x1_1 + 1)) + 1)) + 1)) + 1)) (wrap64 (x5_1 + 1)))))) = some (r1,r2):=by first | (rw [hy813];with_reducible exact H) | (have H2_:=(Option.bind_some _ _).symm.trans H;rw [hy813];with_reducible exact H2_) | (have H2_:=(Option.bind_some _ _).symm.trans H;with_reducible exact H2_) | with_reducible exact H | (rw [hy813];exact H) | exact H
     have Ny813:=zMk hy813;clear hy813;obtain ⟨y814,hy814⟩ : ∃ y_ : List (S56),y_ = (y813.set (x5_1 : Int).toNat (⟨(rd_T56 y813 x5_1).f0,wrap64 (x1_1 + 1),(rd_T56 y813 x5_1).f2,(rd_T56 y813 x5_1).f3⟩ : S56)):=⟨_,rfl⟩;replace H : ((some (y814.set (x5_1 : Int).toNat (⟨(rd_T56 y814 x5_1).f0,(rd_T56 y814 x5_1).f1,wrap64 ((wrap64 (x1_1 + 1)) + 1),(rd_T56 y814 x5_1).f3⟩ : S56) : List (S56))).bind fun y815=>((laws_markText.f k1 (wrap64 ((wrap64 ((wrap64 (x1_1 + 1)) + 1)) + 1))).bind fun t816=>(laws_markStepS.l0 k1 (y815.set (x5_1 : Int).toNat (⟨(rd_T56 y815 x5_1).f0,(rd_T56 y815 x5_1).f1,(rd_T56 y815 x5_1).f2,t816⟩ : S56)) (wrap64 ((wrap64 ((wrap64 ((wrap64 (x1_1 + 1)) + 1)) + 1)) + 1)) (wrap64 (x5_1 + 1))))) = some (r1,r2):=by first | (rw [hy814];with_reducible exact H) | (have H2_:=(Option.bind_some _ _).symm.trans H;rw [hy814];with_reducible exact H2_) | (have H2_:=(Option.bind_some _ _).symm.trans H;with_reducible exact H2_) | with_reducible exact H | (rw [hy814];exact H) | exact H
     have Ny814:=zMk hy814;clear hy814;obtain ⟨y815,hy815⟩ : ∃ y_ : List (S56),y_ = (y814.set (x5_1 : Int).toNat (⟨(rd_T56 y814 x5_1).f0,(rd_T56 y814 x5_1).f1,wrap64 ((wrap64 (x1_1 + 1)) + 1),(rd_T56 y814 x5_1).f3⟩ : S56)):=⟨_,rfl⟩;replace H : ((laws_markText.f k1 (wrap64 ((wrap64 ((wrap64 (x1_1 + 1)) + 1)) + 1))).bind fun t816=>(laws_markStepS.l0 k1 (y815.set (x5_1 : Int).toNat (⟨(rd_T56 y815 x5_1).f0,(rd_T56 y815 x5_1).f1,(rd_T56 y815 x5_1).f2,t816⟩ : S56)) (wrap64 ((wrap64 ((wrap64 ((wrap64 (x1_1 + 1)) + 1)) + 1)) + 1)) (wrap64 (x5_1 + 1)))) = some (r1,r2):=by first | (rw [hy815];with_reducible exact H) | (have H2_:=(Option.bind_some _ _).symm.trans H;rw [hy815];with_reducible exact H2_) | (have H2_:=(Option.bind_some _ _).symm.trans H;with_reducible exact H2_) | with_reducible exact H | (rw [hy815];exact H) | exact H
     have Ny815:=zMk hy815;clear hy815;replace H:=Option.bind_eq_some_iff.mp H;obtain ⟨t816,A80,H⟩:=H;replace H : (laws_markStepS.l0 k1 (y815.set (x5_1 : Int).toNat (⟨(rd_T56 y815 x5_1).f0,(rd_T56 y815 x5_1).f1,(rd_T56 y815 x5_1).f2,t816⟩ : S56)) (wrap64 ((wrap64 ((wrap64 ((wrap64 (x1_1 + 1)) + 1)) + 1)) + 1)) (wrap64 (x5_1 + 1))) = some (r1,r2):=H;have A8:=zMk A80;clear A80;obtain ⟨y817,hy817⟩ : ∃ y_ : List (S56),y_ = (y815.set (x5_1 : Int).toNat (⟨(rd_T56 y815 x5_1).f0,(rd_T56 y815 x5_1).f1,(rd_T56 y815 x5_1).f2,t816⟩ : S56)):=⟨_,rfl⟩;replace H : (laws_markStepS.l0 k1 y817 (wrap64 ((wrap64 ((wrap64 ((wrap64 (x1_1 + 1)) + 1)) + 1)) + 1)) (wrap64 (x5_1 + 1))) = some (r1,r2):=by first | (rw [hy817];with_reducible exact H) | (have H2_:=(Option.bind_some _ _).symm.trans H;rw [hy817];with_reducible exact H2_) | (have H2_:=(Option.bind_some _ _).symm.trans H;with_reducible exact H2_) | with_reducible exact H | (rw [hy817];exact H) | exact H
     have Ny817:=zMk hy817;clear hy817;have H':=zMk H;clear H;obtain ⟨Ao10,co10,eo10⟩:=Kd.R_slice HO_0.out;subst eo10;have p5 : 0 ≤ (x5_1 : Int):=zDe (by first | (with_reducible assumption) | assumption);have q5 : (x5_1 : Int) < ((x0_1.length : Int) : Int):=zDe (by first | (with_reducible assumption) | assumption);obtain ⟨go5,co5,eo5,gb5,gl5,cl5,HG5⟩:=Kd.R_form HO_0.out (by omega)
     (first | cases eo5 | (injection eo5 with ea_ en_ ec_;(first | subst ea_ | (injection ea_ with ea_;subst ea_));subst ec_;clear en_))
     have GB5:=zMk gb5;have GG5:=zMk HG5;clear gb5 gl5 HG5;have HMgo5:=zMk (show (P0_ go5 ∨ w.heap.size ≤ go5) from (HO_0.out.1 _ rfl));obtain ⟨ce5,hcl5,hM5,hcc5,hfr5⟩:=Kd.R_elem HO_0.out z56 (x5_1 : Int) p5 q5;obtain rfl:=k56_openM hM5;have hx5_0 : wr.cell? ⟨go5,(x5_1 : Int).toNat * 4,none⟩ = some (.int .i64 ((rd_T56 x0_1 x5_1).f0)):=hcc5 0 _ rfl;have hx5_1 : wr.cell? ⟨go5,(x5_1 : Int).toNat * 4 + 1,none⟩ = some (.int .i64 ((rd_T56 x0_1 x5_1).f1)):=hcc5 1 _ rfl;have hx5_2 : wr.cell? ⟨go5,(x5_1 : Int).toNat * 4 + 2,none⟩ = some (.int .i64 ((rd_T56 x0_1 x5_1).f2)):=hcc5 2 _ rfl;have hx5_3 : wr.cell? ⟨go5,(x5_1 : Int).toNat * 4 + 3,none⟩ = some (.string ((rd_T56 x0_1 x5_1).f3)):=hcc5 3 _ rfl;have hf5_0 : wr.frozen? ⟨go5,(x5_1 : Int).toNat * 4,none⟩ = false:=hfr5 0;have hf5_1 : wr.frozen? ⟨go5,(x5_1 : Int).toNat * 4 + 1,none⟩ = false:=hfr5 1;have hf5_2 : wr.frozen? ⟨go5,(x5_1 : Int).toNat * 4 + 2,none⟩ = false:=hfr5 2;have hf5_3 : wr.frozen? ⟨go5,(x5_1 : Int).toNat * 4 + 3,none⟩ = false:=hfr5 3;clear hcl5 hcc5 hfr5 hM5;replace p5:=eq_true p5;replace q5:=eq_true q5;have HX11:=zMk (show Kd.R k56 56 wr w0.heap.size (fun k_=>(P0_ k_ ∨ w.heap.size ≤ k_)) (.slice (some ⟨go5,0,none⟩) x0_1.length co10) x0_1 from (rs HO_0));obtain ⟨ce11,hcl11,hM11,hcc11,hfr11⟩:=Kd.R_elem HX11.out z56 (x5_1 : Int) (zDe (by first | (with_reducible assumption) | assumption)) (by have h_ : (x5_1 : Int) < ((x0_1.length : Int) : Int):=zDe (by first | (with_reducible assumption) | assumption);first | exact h_ | (have e_:=(Kd.R_reads' HO_0.out).1;omega) | simpa using h_);obtain rfl:=k56_openM hM11;have HP11:=Kd.R_seg HX11.out (x5_1 : Int) (zDe (by first | (with_reducible assumption) | assumption)) (by have h_ : (x5_1 : Int) < ((x0_1.length : Int) : Int):=zDe (by first | (with_reducible assumption) | assumption);first | exact h_ | (have e_:=(Kd.R_reads' HO_0.out).1;omega) | simpa using h_) (seg:=[.int .i64 x1_1]) (j:=0) hcl11 hcc11 (show 1 ≤ 4 from by decide) (x':=(⟨x1_1,(rd_T56 x0_1 x5_1).f1,(rd_T56 x0_1 x5_1).f2,(rd_T56 x0_1 x5_1).f3⟩ : S56)) (k56_mkM _ _ _ (⟨x1_1,(rd_T56 x0_1 x5_1).f1,(rd_T56 x0_1 x5_1).f2,(rd_T56 x0_1 x5_1).f3⟩ : S56) ) (fun _ hk=>hk);have hx11_0:=hcc11 0 _ rfl
     (try simp only [show (k56).sz = 4 from rfl,Nat.mul_one,Nat.add_zero] at hx11_0)
     have hf11_0:=hfr11 0
     (try simp only [show (k56).sz = 4 from rfl,Nat.mul_one,Nat.add_zero] at hf11_0)
     clear hcl11 hcc11 hfr11 hM11;go_wp2_with (first | ((with_reducible refine gate_store (t:=3) (p:=16) rfl ?_);refine store_event (t:=3) (p:=16) (v:=?vo_w12) (w1:=(wr.setCell ⟨go5,(x5_1 : Int).toNat * 4,none⟩ (.int .i64 x1_1))) ?hg ?ho ?hn ?hr ?_;(case ho=>rfl);(case hg=>rfl);(case hn=>rfl);(case hr=>first | (go_simp;done) | (go_simp;rfl));intro w12 hw;have hg : wr.grownBy w12 (some go5):=(by rw [hw];exact HP11.2);have hp_ : Kd.R k56 56 w12 w0.heap.size (fun k_=>(P0_ k_ ∨ w.heap.size ≤ k_)) (.slice (some ⟨go5,0,none⟩) x0_1.length co10) y813:=(by rw [hw,Ny813.out];exact HP11.1);clear HP11;have n0_:=zMk (hp_);have n1_:=zMk ((by rw [hw];exact below_set (HB.out) GB5.out : Below w0.heap.size w0 w12));have n2_:=zMk (Kept.of_grown (S:=(fun k_=>P0_ k_)) hg (by repeat (first | (with_reducible first | exact HK.out | apply Kept.alloc | apply Kept.drewN | apply Kept.drew) | exact HK.out)) (fun k_ e_=>(HO_0.out.1 k_ e_)));clear HO_0;clear HB;clear HK;have HO_0:=n0_;have HB:=n1_;have HK:=n2_;clear n0_ n1_ n2_;clear hg hw hp_;have p6 : 0 ≤ (x5_1 : Int):=zDe (by first | (with_reducible assumption) | assumption);have q6 : (x5_1 : Int) < ((x0_1.length : Int) : Int):=zDe (by first | (with_reducible assumption) | assumption);obtain ⟨ce6,hcl6,hM6,hcc6,hfr6⟩:=Kd.R_elem HO_0.out z56 (x5_1 : Int) p6 q6;obtain rfl:=k56_openM hM6;have hx6_0 : w12.cell? ⟨go5,(x5_1 : Int).toNat * 4,none⟩ = some (.int .i64 ((rd_T56 y813 x5_1).f0)):=hcc6 0 _ rfl;have hx6_1 : w12.cell? ⟨go5,(x5_1 : Int).toNat * 4 + 1,none⟩ = some (.int .i64 ((rd_T56 y813 x5_1).f1)):=hcc6 1 _ rfl;have hx6_2 : w12.cell? ⟨go5,(x5_1 : Int).toNat * 4 + 2,none⟩ = some (.int .i64 ((rd_T56 y813 x5_1).f2)):=hcc6 2 _ rfl;have hx6_3 : w12.cell? ⟨go5,(x5_1 : Int).toNat * 4 + 3,none⟩ = some (.string ((rd_T56 y813 x5_1).f3)):=hcc6 3 _ rfl;have hf6_0 : w12.frozen? ⟨go5,(x5_1 : Int).toNat * 4,none⟩ = false:=hfr6 0;have hf6_1 : w12.frozen? ⟨go5,(x5_1 : Int).toNat * 4 + 1,none⟩ = false:=hfr6 1;have hf6_2 : w12.frozen? ⟨go5,(x5_1 : Int).toNat * 4 + 2,none⟩ = false:=hfr6 2;have hf6_3 : w12.frozen? ⟨go5,(x5_1 : Int).toNat * 4 + 3,none⟩ = false:=hfr6 3;clear hcl6 hcc6 hfr6 hM6;replace p6:=eq_true p6;replace q6:=eq_true q6;have HX13:=zMk (show Kd.R k56 56 w12 w0.heap.size (fun k_=>(P0_ k_ ∨ w.heap.size ≤ k_)) (.slice (some ⟨go5,0,none⟩) x0_1.length co10) y813 from (rs HO_0));obtain ⟨ce13,hcl13,hM13,hcc13,hfr13⟩:=Kd.R_elem HX13.out z56 (x5_1 : Int) (zDe (by first | (with_reducible assumption) | assumption)) (by have h_ : (x5_1 : Int) < ((x0_1.length : Int) : Int):=zDe (by first | (with_reducible assumption) | assumption);first | exact h_ | (have e_:=(Kd.R_reads' HO_0.out).1;omega) | simpa using h_);obtain rfl:=k56_openM hM13;have HP13:=Kd.R_seg HX13.out (x5_1 : Int) (zDe (by first | (with_reducible assumption) | assumption)) (by have h_ : (x5_1 : Int) < ((x0_1.length : Int) : Int):=zDe (by first | (with_reducible assumption) | assumption);first | exact h_ | (have e_:=(Kd.R_reads' HO_0.out).1;omega) | simpa using h_) (seg:=[.int .i64 (wrap64 (x1_1 + 1))]) (j:=1) hcl13 hcc13 (show 2 ≤ 4 from by decide) (x':=(⟨(rd_T56 y813 x5_1).f0,wrap64 (x1_1 + 1),(rd_T56 y813 x5_1).f2,(rd_T56 y813 x5_1).f3⟩ : S56)) (k56_mkM _ _ _ (⟨(rd_T56 y813 x5_1).f0,wrap64 (x1_1 + 1),(rd_T56 y813 x5_1).f2,(rd_T56 y813 x5_1).f3⟩ : S56) ) (fun _ hk=>hk);have hx13_1:=hcc13 1 _ rfl;(try simp only [show (k56).sz = 4 from rfl,Nat.mul_one,Nat.add_zero] at hx13_1);have hf13_1:=hfr13 1;(try simp only [show (k56).sz = 4 from rfl,Nat.mul_one,Nat.add_zero] at hf13_1);clear hcl13 hcc13 hfr13 hM13) | ((with_reducible refine gate_store (t:=3) (p:=23) rfl ?_);refine store_event (t:=3) (p:=23) (v:=?vo_w14) (w1:=(w12.setCell ⟨go5,(x5_1 : Int).toNat * 4 + 1,none⟩ (.int .i64 (wrap64 (x1_1 + 1))))) ?hg ?ho ?hn ?hr ?_;(case ho=>rfl);(case hg=>rfl);(case hn=>rfl);(case hr=>first | (go_simp;done) | (go_simp;rfl));intro w14 hw;have hg : w12.grownBy w14 (some go5):=(by rw [hw];exact HP13.2);have hp_ : Kd.R k56 56 w14 w0.heap.size (fun k_=>(P0_ k_ ∨ w.heap.size ≤ k_)) (.slice (some ⟨go5,0,none⟩) x0_1.length co10) y814:=(by rw [hw,Ny814.out];exact HP13.1);clear HP13;have n0_:=zMk (hp_);have n1_:=zMk ((by rw [hw];exact below_set (HB.out) GB5.out : Below w0.heap.size w0 w14));have n2_:=zMk (Kept.of_grown (S:=(fun k_=>P0_ k_)) hg (by repeat (first | (with_reducible first | exact HK.out | apply Kept.alloc | apply Kept.drewN | apply Kept.drew) | exact HK.out)) (fun k_ e_=>(HO_0.out.1 k_ e_)));clear HO_0;clear HB;clear HK;have HO_0:=n0_;have HB:=n1_;have HK:=n2_;clear n0_ n1_ n2_;clear hg hw hp_;have p7 : 0 ≤ (x5_1 : Int):=zDe (by first | (with_reducible assumption) | assumption);have q7 : (x5_1 : Int) < ((x0_1.length : Int) : Int):=zDe (by first | (with_reducible assumption) | assumption);obtain ⟨ce7,hcl7,hM7,hcc7,hfr7⟩:=Kd.R_elem HO_0.out z56 (x5_1 : Int) p7 q7;obtain rfl:=k56_openM hM7;have hx7_0 : w14.cell? ⟨go5,(x5_1 : Int).toNat * 4,none⟩ = some (.int .i64 ((rd_T56 y814 x5_1).f0)):=hcc7 0 _ rfl;have hx7_1 : w14.cell? ⟨go5,(x5_1 : Int).toNat * 4 + 1,none⟩ = some (.int .i64 ((rd_T56 y814 x5_1).f1)):=hcc7 1 _ rfl;have hx7_2 : w14.cell? ⟨go5,(x5_1 : Int).toNat * 4 + 2,none⟩ = some (.int .i64 ((rd_T56 y814 x5_1).f2)):=hcc7 2 _ rfl;have hx7_3 : w14.cell? ⟨go5,(x5_1 : Int).toNat * 4 + 3,none⟩ = some (.string ((rd_T56 y814 x5_1).f3)):=hcc7 3 _ rfl;have hf7_0 : w14.frozen? ⟨go5,(x5_1 : Int).toNat * 4,none⟩ = false:=hfr7 0;have hf7_1 : w14.frozen? ⟨go5,(x5_1 : Int).toNat * 4 + 1,none⟩ = false:=hfr7 1;have hf7_2 : w14.frozen? ⟨go5,(x5_1 : Int).toNat * 4 + 2,none⟩ = false:=hfr7 2;have hf7_3 : w14.frozen? ⟨go5,(x5_1 : Int).toNat * 4 + 3,none⟩ = false:=hfr7 3;clear hcl7 hcc7 hfr7 hM7;replace p7:=eq_true p7;replace q7:=eq_true q7;have HX15:=zMk (show Kd.R k56 56 w14 w0.heap.size (fun k_=>(P0_ k_ ∨ w.heap.size ≤ k_)) (.slice (some ⟨go5,0,none⟩) x0_1.length co10) y814 from (rs HO_0));obtain ⟨ce15,hcl15,hM15,hcc15,hfr15⟩:=Kd.R_elem HX15.out z56 (x5_1 : Int) (zDe (by first | (with_reducible assumption) | assumption)) (by have h_ : (x5_1 : Int) < ((x0_1.length : Int) : Int):=zDe (by first | (with_reducible assumption) | assumption);first | exact h_ | (have e_:=(Kd.R_reads' HO_0.out).1;omega) | simpa using h_);obtain rfl:=k56_openM hM15;have HP15:=Kd.R_seg HX15.out (x5_1 : Int) (zDe (by first | (with_reducible assumption) | assumption)) (by have h_ : (x5_1 : Int) < ((x0_1.length : Int) : Int):=zDe (by first | (with_reducible assumption) | assumption);first | exact h_ | (have e_:=(Kd.R_reads' HO_0.out).1;omega) | simpa using h_) (seg:=[.int .i64 (wrap64 ((wrap64 (x1_1 + 1)) + 1))]) (j:=2) hcl15 hcc15 (show 3 ≤ 4 from by decide) (x':=(⟨(rd_T56 y814 x5_1).f0,(rd_T56 y814 x5_1).f1,wrap64 ((wrap64 (x1_1 + 1)) + 1),(rd_T56 y814 x5_1).f3⟩ : S56)) (k56_mkM _ _ _ (⟨(rd_T56 y814 x5_1).f0,(rd_T56 y814 x5_1).f1,wrap64 ((wrap64 (x1_1 + 1)) + 1),(rd_T56 y814 x5_1).f3⟩ : S56) ) (fun _ hk=>hk);have hx15_2:=hcc15 2 _ rfl;(try simp only [show (k56).sz = 4 from rfl,Nat.mul_one,Nat.add_zero] at hx15_2);have hf15_2:=hfr15 2;(try simp only [show (k56).sz = 4 from rfl,Nat.mul_one,Nat.add_zero] at hf15_2);clear hcl15 hcc15 hfr15 hM15) | ((with_reducible refine gate_store (t:=3) (p:=30) rfl ?_);refine store_event (t:=3) (p:=30) (v:=?vo_w16) (w1:=(w14.setCell ⟨go5,(x5_1 : Int).toNat * 4 + 2,none⟩ (.int .i64 (wrap64 ((wrap64 (x1_1 + 1)) + 1))))) ?hg ?ho ?hn ?hr ?_;(case ho=>rfl);(case hg=>rfl);(case hn=>rfl);(case hr=>first | (go_simp;done) | (go_simp;rfl));intro w16 hw;have hg : w14.grownBy w16 (some go5):=(by rw [hw];exact HP15.2);have hp_ : Kd.R k56 56 w16 w0.heap.size (fun k_=>(P0_ k_ ∨ w.heap.size ≤ k_)) (.slice (some ⟨go5,0,none⟩) x0_1.length co10) y815:=(by rw [hw,Ny815.out];exact HP15.1);clear HP15;have n0_:=zMk (hp_);have n1_:=zMk ((by rw [hw];exact below_set (HB.out) GB5.out : Below w0.heap.size w0 w16));have n2_:=zMk (Kept.of_grown (S:=(fun k_=>P0_ k_)) hg (by repeat (first | (with_reducible first | exact HK.out | apply Kept.alloc | apply Kept.drewN | apply Kept.drew) | exact HK.out)) (fun k_ e_=>(HO_0.out.1 k_ e_)));clear HO_0;clear HB;clear HK;have HO_0:=n0_;have HB:=n1_;have HK:=n2_;clear n0_ n1_ n2_;clear hg hw hp_) | ((with_reducible refine gate_callee (f:=66) rfl ?_);refine goesL_ (some 36) rfl rfl Try.func66 (by kernel_rfl) rfl #[.int .i64 (wrap64 ((wrap64 ((wrap64 (x1_1 + 1)) + 1)) + 1))] rfl (by (try simp only [List.map_toArray,List.map_cons,List.map_nil]);first | done | rfl | (simp only [List.length_drop,List.length_take];rfl)) ?_;(with_reducible refine (laws_markText.calls k1 (wrap64 ((wrap64 ((wrap64 (x1_1 + 1)) + 1)) + 1)) t816 _ A8.out).mono ?_);rintro e w17 ⟨rfl,hb⟩;refine ⟨_,rfl,?_⟩;have n0_:=zMk (Kd.R_below (rs HO_0) hb);have n1_:=zMk (Kept.below (S:=(fun k_=>P0_ k_)) (by repeat (first | (with_reducible first | exact HK.out | apply Kept.alloc | apply Kept.drewN | apply Kept.drew) | exact HK.out)) hb);have n2_:=zMk (below_step (hs HB) hb);clear HO_0;clear HK;clear HB;have HO_0:=n0_;have HK:=n1_;have HB:=n2_;clear n0_ n1_ n2_;(try clear hb);(try clear hb2);(try clear hk);(try clear hi);have p9 : 0 ≤ (x5_1 : Int):=zDe (by first | (with_reducible assumption) | assumption);have q9 : (x5_1 : Int) < ((x0_1.length : Int) : Int):=zDe (by first | (with_reducible assumption) | assumption);obtain ⟨ce9,hcl9,hM9,hcc9,hfr9⟩:=Kd.R_elem HO_0.out z56 (x5_1 : Int) p9 q9;obtain rfl:=k56_openM hM9;have hx9_0 : w17.cell? ⟨go5,(x5_1 : Int).toNat * 4,none⟩ = some (.int .i64 ((rd_T56 y815 x5_1).f0)):=hcc9 0 _ rfl;have hx9_1 : w17.cell? ⟨go5,(x5_1 : Int).toNat * 4 + 1,none⟩ = some (.int .i64 ((rd_T56 y815 x5_1).f1)):=hcc9 1 _ rfl;have hx9_2 : w17.cell? ⟨go5,(x5_1 : Int).toNat * 4 + 2,none⟩ = some (.int .i64 ((rd_T56 y815 x5_1).f2)):=hcc9 2 _ rfl;have hx9_3 : w17.cell? ⟨go5,(x5_1 : Int).toNat * 4 + 3,none⟩ = some (.string ((rd_T56 y815 x5_1).f3)):=hcc9 3 _ rfl;have hf9_0 : w17.frozen? ⟨go5,(x5_1 : Int).toNat * 4,none⟩ = false:=hfr9 0;have hf9_1 : w17.frozen? ⟨go5,(x5_1 : Int).toNat * 4 + 1,none⟩ = false:=hfr9 1;have hf9_2 : w17.frozen? ⟨go5,(x5_1 : Int).toNat * 4 + 2,none⟩ = false:=hfr9 2;have hf9_3 : w17.frozen? ⟨go5,(x5_1 : Int).toNat * 4 + 3,none⟩ = false:=hfr9 3;clear hcl9 hcc9 hfr9 hM9;replace p9:=eq_true p9;replace q9:=eq_true q9;have HX18:=zMk (show Kd.R k56 56 w17 w0.heap.size (fun k_=>(P0_ k_ ∨ w.heap.size ≤ k_)) (.slice (some ⟨go5,0,none⟩) x0_1.length co10) y815 from (rs HO_0));obtain ⟨ce18,hcl18,hM18,hcc18,hfr18⟩:=Kd.R_elem HX18.out z56 (x5_1 : Int) (zDe (by first | (with_reducible assumption) | assumption)) (by have h_ : (x5_1 : Int) < ((x0_1.length : Int) : Int):=zDe (by first | (with_reducible assumption) | assumption);first | exact h_ | (have e_:=(Kd.R_reads' HO_0.out).1;omega) | simpa using h_);obtain rfl:=k56_openM hM18;have HP18:=Kd.R_seg HX18.out (x5_1 : Int) (zDe (by first | (with_reducible assumption) | assumption)) (by have h_ : (x5_1 : Int) < ((x0_1.length : Int) : Int):=zDe (by first | (with_reducible assumption) | assumption);first | exact h_ | (have e_:=(Kd.R_reads' HO_0.out).1;omega) | simpa using h_) (seg:=[.string t816]) (j:=3) hcl18 hcc18 (show 4 ≤ 4 from by decide) (x':=(⟨(rd_T56 y815 x5_1).f0,(rd_T56 y815 x5_1).f1,(rd_T56 y815 x5_1).f2,t816⟩ : S56)) (k56_mkM _ _ _ (⟨(rd_T56 y815 x5_1).f0,(rd_T56 y815 x5_1).f1,(rd_T56 y815 x5_1).f2,t816⟩ : S56) ) (fun _ hk=>hk);have hx18_3:=hcc18 3 _ rfl;(try simp only [show (k56).sz = 4 from rfl,Nat.mul_one,Nat.add_zero] at hx18_3);have hf18_3:=hfr18 3;(try simp only [show (k56).sz = 4 from rfl,Nat.mul_one,Nat.add_zero] at hf18_3);clear hcl18 hcc18 hfr18 hM18) | ((with_reducible refine gate_store (t:=9) (p:=38) rfl ?_);refine store_event (t:=9) (p:=38) (v:=?vo_w19) (w1:=(w17.setCell ⟨go5,(x5_1 : Int).toNat * 4 + 3,none⟩ (.string t816))) ?hg ?ho ?hn ?hr ?_;(case ho=>rfl);(case hg=>rfl);(case hn=>rfl);(case hr=>first | (go_simp;done) | (go_simp;rfl));intro w19 hw;have hg : w17.grownBy w19 (some go5):=(by rw [hw];exact HP18.2);have hp_ : Kd.R k56 56 w19 w0.heap.size (fun k_=>(P0_ k_ ∨ w.heap.size ≤ k_)) (.slice (some ⟨go5,0,none⟩) x0_1.length co10) y817:=(by rw [hw,Ny817.out];exact HP18.1);clear HP18;have n0_:=zMk (hp_);have n1_:=zMk ((by rw [hw];exact below_set (HB.out) GB5.out : Below w0.heap.size w0 w19));have n2_:=zMk (Kept.of_grown (S:=(fun k_=>P0_ k_)) hg (by repeat (first | (with_reducible first | exact HK.out | apply Kept.alloc | apply Kept.drewN | apply Kept.drew) | exact HK.out)) (fun k_ e_=>(HO_0.out.1 k_ e_)));clear HO_0;clear HB;clear HK;have HO_0:=n0_;have HB:=n1_;have HK:=n2_;clear n0_ n1_ n2_;clear hg hw hp_));go_roundg k1;case measure=>have:=HK1.out;omega
     case rel=>exact ⟨(y817),(wrap64 ((wrap64 ((wrap64 ((wrap64 (x1_1 + 1)) + 1)) + 1)) + 1)),(wrap64 (x5_1 + 1)),(by first | rfl | (simp;done) | (simp [*];done)),(by first | rfl | (simp;done) | (simp [*];done)),H',⟨by have:=HK1.out;omega⟩,⟨rs HO_0⟩,⟨by repeat (first | (with_reducible first | exact HK.out | apply Kept.alloc | apply Kept.drewN | apply Kept.drew) | exact HK.out)⟩,⟨hs HB⟩⟩
    rw [if_neg c4] at H;exact absurd H (by simp)
   rw [if_neg c3] at H;have c3b0 : decide (x5_1 < (x0_1.length : Int)) = false:=decide_eq_false c3;clear c3;simp only [Option.some.injEq,Prod.mk.injEq] at H;obtain ⟨rfl,rfl⟩:=H;obtain ⟨Ao20,co20,eo20⟩:=Kd.R_slice HO_0.out;subst eo20
   go_wp2
   go_ret
   exact ⟨by first | rfl | (simp [errW_none,errW_some] <;> rfl) | (simp [*,errW_none,errW_some] <;> rfl),rs HO_0,hs HB,by repeat (first | (with_reducible first | exact HK.out | apply Kept.alloc | apply Kept.drewN | apply Kept.drew) | exact HK.out)⟩
def laws_szLeaf.f (a0_0 : Int) (a0_1 : ByteArray) (a1 : Int) : Option (Int):=if (wrap64 (a1 - (a0_1.size : Int))) < 0 then (some (-1)) else (some (wrap64 (a1 - (a0_1.size : Int))))
set_option maxHeartbeats 8000000 in
set_option maxRecDepth 100000 in
theorem laws_szLeaf.calls (a0_0 : Int) (a0_1 : ByteArray) (a1 : Int) (r : Int) (w : World) (h : laws_szLeaf.f a0_0 a0_1 a1 = some r) :
  Calls Try.prog 134 #[.agg #[.int .i64 a0_0,.string a0_1],.int .i64 a1] w fun e w'=>e = .returned (.int .i64 r) ∧ Below w.heap.size w w':=by
 have hu176:=Try.underlying176;have HB:=zMk (Below.refl w.heap.size w);have H : (if (wrap64 (a1 - (a0_1.size : Int))) < 0 then (some (-1)) else (some (wrap64 (a1 - (a0_1.size : Int))))) = some r:=h;clear h
 go_enter Try.func134,Try.ntmps134
 go_upto_if 11 with (first | ((with_reducible refine gate_dst (N:=2) rfl ?_);refine box_event ?hg (N:=2) ?hd (cs:=#[.int .i64 a0_0,.string a0_1]) (t:=176) ?hr ?_;(case hd=>rfl);(case hg=>rfl);(case hr=>first | (go_simp;done) | (go_simp;rfl));intro gb439 hg w4 hbox hb;have n0_:=zMk (below_step (hs HB) hb);have n1_:=zMk (hbox);have n2_:=zMk ((by rw [hg];exact (below_size (hs HB)) : w.heap.size ≤ gb439));have n3_:=zMk ((by rw [hg];exact (below_size (hs HB)) : w.heap.size ≤ gb439));clear HB;have HB:=n0_;have BK439:=n1_;have GW439:=n2_;have GE439:=n3_;clear n0_ n1_ n2_ n3_;clear hb hbox hg;have hcz5_0 : w4.cell? ⟨gb439,0,none⟩ = some (.int .i64 a0_0):=(zCl BK439.out 0).trans rfl;have hcz5_1 : w4.cell? ⟨gb439,1,none⟩ = some (.string a0_1):=(zCl BK439.out 1).trans rfl;have hfz5_0:=zFr BK439.out 0;have hfz5_1:=zFr BK439.out 1))
 (try simp only [Act.put,zS1,zS2,zS3])
 by_cases c3 : (wrap64 (a1 - (a0_1.size : Int))) < 0
 ·rw [if_pos c3] at H;have c3b0 : decide ((wrap64 (a1 - (a0_1.size : Int))) < 0) = true:=decide_eq_true c3;clear c3
  (first | rw [c3b0] | (simp only [i64_w,i32_w];rw [c3b0]) | skip)
  obtain rfl:=Option.some.inj H
  go_wp2
  go_ret
  exact ⟨by first | rfl | (simp [errW_none,errW_some] <;> rfl) | (simp [*,errW_none,errW_some] <;> rfl),hs1 HB GE439⟩
 rw [if_neg c3] at H;have c3b0 : decide ((wrap64 (a1 - (a0_1.size : Int))) < 0) = false:=decide_eq_false c3;clear c3
 (first | rw [c3b0] | (simp only [i64_w,i32_w];rw [c3b0]) | skip)
 obtain rfl:=Option.some.inj H
 go_wp2
 go_ret
 exact ⟨by first | rfl | (simp [errW_none,errW_some] <;> rfl) | (simp [*,errW_none,errW_some] <;> rfl),hs1 HB GE439⟩
def laws_szLeafS.l0 : Nat → List (S176) → Int → Int → Option (Int)
 | 0,_,_,_=>none
 | k + 1,x0,x1,x5=>if x5 < (x0.length : Int) then (if 0 ≤ x5 then ((laws_szLeaf.f ((rd_T176 x0 x5).f0) ((rd_T176 x0 x5).f1) x1).bind fun t441=>(if t441 < 0 then (some (-1)) else (laws_szLeafS.l0 k x0 t441 (wrap64 (x5 + 1))))) else (none)) else (some x1)
def laws_szLeafS.f (k : Nat) (l0 : List (S176)) (a1 : Int) : Option (Int):=if (wrap64 (a1 - (l0.length : Int))) < 0 then (some (-1)) else (laws_szLeafS.l0 k l0 (wrap64 (a1 - (l0.length : Int))) 0)
theorem laws_szLeafS.mono_l : ∀ k,(∀ y0 y1 y2,LeO (laws_szLeafS.l0 k y0 y1 y2) (laws_szLeafS.l0 (k + 1) y0 y1 y2))
 | 0=>fun _ _ _ r h=>by simp [laws_szLeafS.l0] at h
 | k + 1=>by
  have ih0:=laws_szLeafS.mono_l k;intro y0 y1 y2;unfold laws_szLeafS.l0
  repeat' first
  | (with_reducible exact ih0 _ _ _)
  | (with_reducible exact LeO.refl _)
  | (with_reducible exact LeO.none _)
  | (with_reducible refine LeO.ite ?_ ?_)
  | (with_reducible refine LeO.bind ?_ (fun _=>?_))
  | exact ih0 _ _ _
  | exact LeO.none _
  | refine LeO.ite ?_ ?_
  | refine LeO.bind ?_ (fun _=>?_)
theorem laws_szLeafS.mono : ∀ a0 a1 k,LeO (laws_szLeafS.f k a0 a1) (laws_szLeafS.f (k + 1) a0 a1):=by
 intro a0 a1 k;have ih0:=laws_szLeafS.mono_l k;unfold laws_szLeafS.f
 repeat' first
   | (with_reducible exact ih0 _ _ _)
   | (with_reducible exact LeO.refl _)
   | (with_reducible exact LeO.none _)
   | (with_reducible refine LeO.ite ?_ ?_)
   | (with_reducible refine LeO.bind ?_ (fun _=>?_))
   | exact ih0 _ _ _
   | exact LeO.none _
   | refine LeO.ite ?_ ?_
   | refine LeO.bind ?_ (fun _=>?_)
set_option maxHeartbeats 8000000 in
set_option maxRecDepth 100000 in
theorem laws_szLeafS.calls (k : Nat) (A0 : Option Addr) (c0 : Nat) (l0 : List (S176)) (a1 : Int) (r : Int) (w : World) (hr0 : Kd.C k176 w A0 l0.length l0) (hc0 : l0.length ≤ c0) (h : laws_szLeafS.f k l0 a1 = some r) :
  Calls Try.prog 107 #[.slice A0 l0.length c0,.int .i64 a1] w fun e w'=>e = .returned (.int .i64 r) ∧ Below w.heap.size w w':=by
 have hu176:=Try.underlying176;have HR0:=zMk hr0;have HC0:=zMk hc0;clear hr0 hc0;have HB:=zMk (Below.refl w.heap.size w);have H : (if (wrap64 (a1 - (l0.length : Int))) < 0 then (some (-1)) else (laws_szLeafS.l0 k l0 (wrap64 (a1 - (l0.length : Int))) 0)) = some r:=h;clear h
 by_cases c3 : (wrap64 (a1 - (l0.length : Int))) < 0
 ·rw [if_pos c3] at H;have c3b0 : decide ((wrap64 (a1 - (l0.length : Int))) < 0) = true:=decide_eq_true c3;clear c3;obtain rfl:=Option.some.inj H
  go_enter Try.func107,Try.ntmps107
  go_wp2
  go_ret
  exact ⟨by first | rfl | (simp [errW_none,errW_some] <;> rfl) | (simp [*,errW_none,errW_some] <;> rfl),hs HB⟩
 rw [if_neg c3] at H;have c3b0 : decide ((wrap64 (a1 - (l0.length : Int))) < 0) = false:=decide_eq_false c3;clear c3;have H':=zMk H;clear H
 go_enter Try.func107,Try.ntmps107
 go_wp2
 go_loopg [1,5] k (fun kq v1 v5 w'=>∃ (x1_1 : Int) (x5_1 : Int),v1 = .int .i64 x1_1 ∧ v5 = .int .i64 x5_1 ∧ Aside0 (laws_szLeafS.l0 kq l0 x1_1 x5_1 = some r) ∧ Aside0 (kq ≤ k) ∧ Aside0 (Below w.heap.size w w'));case atStart=>exact ⟨(wrap64 (a1 - (l0.length : Int))),(0),(by first | rfl | (simp;done) | (simp [*];done)),(by first | rfl | (simp;done) | (simp [*];done)),H',⟨Nat.le_refl _⟩,⟨hs HB⟩⟩
 case round =>
  clear H'
  try clear c1
  try clear p2
  try clear c3
  try clear c3b0
  obtain ⟨x1_1,x5_1,rfl,rfl,HA,HK1,HB⟩:=hrel;cases gk with
  | zero=>exact absurd HA.out (by simp [laws_szLeafS.l0])
  | succ k1 =>
   have H:=HA.out;clear HA;simp only [laws_szLeafS.l0] at H
   by_cases c4 : x5_1 < (l0.length : Int)
   ·rw [if_pos c4] at H;have c4b0 : decide (x5_1 < (l0.length : Int)) = true:=decide_eq_true c4;clear c4
    by_cases c5 : 0 ≤ x5_1
    ·rw [if_pos c5] at H;have c5b0 : decide (0 ≤ x5_1) = true:=decide_eq_true c5;clear c5;replace H:=Option.bind_eq_some_iff.mp H;obtain ⟨t441,A60,H⟩:=H;replace H : (if t441 < 0 then (some (-1)) else (laws_szLeafS.l0 k1 l0 t441 (wrap64 (x5_1 + 1)))) = some r:=H;have A6:=zMk A60;clear A60;have p440 : 0 ≤ (x5_1 : Int):=zDe (by first | (with_reducible assumption) | assumption);have q440 : x5_1 < (l0.length : Int):=zDe (by first | (with_reducible assumption) | assumption);obtain ⟨ad440,e440,hx440_0,hx440_1⟩:=at_T176 HR0.out x5_1 p440 q440;cases e440;replace hx440_0:=(HB.out.cell (zBl w _ hx440_0)).trans hx440_0;replace hx440_1:=(HB.out.cell (zBl w _ hx440_1)).trans hx440_1;replace p440:=eq_true p440;replace q440:=eq_true q440
     go_upto_if 25 with (first | ((with_reducible refine gate_callee (f:=134) rfl ?_);refine goesL_ (some 23) rfl rfl Try.func134 (by kernel_rfl) rfl #[.agg #[.int .i64 ((rd_T176 l0 x5_1).f0),.string ((rd_T176 l0 x5_1).f1)],.int .i64 x1_1] rfl (by (try simp only [List.map_toArray,List.map_cons,List.map_nil]);first | done | rfl | (simp only [List.length_drop,List.length_take];rfl)) ?_;(with_reducible refine (laws_szLeaf.calls ((rd_T176 l0 x5_1).f0) ((rd_T176 l0 x5_1).f1) x1_1 t441 _ A6.out).mono ?_);rintro e w8 ⟨rfl,hb⟩;refine ⟨_,rfl,?_⟩;have n0_:=zMk (below_step (hs HB) hb);clear HB;have HB:=n0_;clear n0_;(try clear hb);(try clear hb2);(try clear hk);(try clear hi)))
     (try simp only [Act.put,zS1,zS2,zS3])
     by_cases c7 : t441 < 0
     ·rw [if_pos c7] at H;have c7b0 : decide (t441 < 0) = true:=decide_eq_true c7;clear c7
      (first | rw [c7b0] | (simp only [i64_w,i32_w];rw [c7b0]) | skip)
      obtain rfl:=Option.some.inj H
      go_wp2
      go_ret
      exact ⟨by first | rfl | (simp [errW_none,errW_some] <;> rfl) | (simp [*,errW_none,errW_some] <;> rfl),hs HB⟩
     rw [if_neg c7] at H;have c7b0 : decide (t441 < 0) = false:=decide_eq_false c7;clear c7
     (first | rw [c7b0] | (simp only [i64_w,i32_w];rw [c7b0]) | skip)
     have H':=zMk H;clear H
     go_wp2
     go_roundg k1;case measure=>have:=HK1.out;omega
     case rel=>exact ⟨(t441),(wrap64 (x5_1 + 1)),(by first | rfl | (simp;done) | (simp [*];done)),(by first | rfl | (simp;done) | (simp [*];done)),H',⟨by have:=HK1.out;omega⟩,⟨hs HB⟩⟩
    rw [if_neg c5] at H;exact absurd H (by simp)
   rw [if_neg c4] at H;have c4b0 : decide (x5_1 < (l0.length : Int)) = false:=decide_eq_false c4;clear c4;obtain rfl:=Option.some.inj H
   go_wp2
   go_ret
   exact ⟨by first | rfl | (simp [errW_none,errW_some] <;> rfl) | (simp [*,errW_none,errW_some] <;> rfl),hs HB⟩
def laws_szBlock.f (k : Nat) (a0_0 : Bool) (a0_1 : Int) (l0_2 : List (S176)) (a1 : Int) : Option (Int):=(laws_szLeafS.f k l0_2 a1).bind fun t443=>(if t443 < 0 then (some (-1)) else (some t443))
theorem laws_szBlock.mono : ∀ a0 a1 a2 a3 k,LeO (laws_szBlock.f k a0 a1 a2 a3) (laws_szBlock.f (k + 1) a0 a1 a2 a3):=by
 intro a0 a1 a2 a3 k;unfold laws_szBlock.f
 repeat' first
   | (with_reducible exact laws_szLeafS.mono _ _ _)
   | (with_reducible exact LeO.refl _)
   | (with_reducible exact LeO.none _)
   | (with_reducible refine LeO.ite ?_ ?_)
   | (with_reducible refine LeO.bind ?_ (fun _=>?_))
   | exact laws_szLeafS.mono _ _ _
   | exact LeO.none _
   | refine LeO.ite ?_ ?_
   | refine LeO.bind ?_ (fun _=>?_)
set_option maxHeartbeats 8000000 in
set_option maxRecDepth 100000 in
theorem laws_szBlock.calls (k : Nat) (a0_0 : Bool) (a0_1 : Int) (A0_2 : Option Addr) (c0_2 : Nat) (l0_2 : List (S176)) (a1 : Int) (r : Int) (w : World) (hr0_2 : Kd.C k176 w A0_2 l0_2.length l0_2) (hc0_2 : l0_2.length ≤ c0_2) (h : laws_szBlock.f k a0_0 a0_1 l0_2 a1 = some r) :
  Calls Try.prog 85 #[.agg #[.bool a0_0,.int .i64 a0_1,.slice A0_2 l0_2.length c0_2],.int .i64 a1] w fun e w'=>e = .returned (.int .i64 r) ∧ Below w.heap.size w w':=by
 have hu129:=Try.underlying129;have HR0_2:=zMk hr0_2;have HC0_2:=zMk hc0_2;clear hr0_2 hc0_2;have HB:=zMk (Below.refl w.heap.size w);have H : ((laws_szLeafS.f k l0_2 a1).bind fun t443=>(if t443 < 0 then (some (-1)) else (some t443))) = some r:=h;clear h;replace H:=Option.bind_eq_some_iff.mp H;obtain ⟨t443,A30,H⟩:=H;replace H : (if t443 < 0 then (some (-1)) else (some t443)) = some r:=H;have A3:=zMk A30;clear A30
 go_enter Try.func85,Try.ntmps85
 go_upto_if 10 with (first | ((with_reducible refine gate_dst (N:=2) rfl ?_);refine box_event ?hg (N:=2) ?hd (cs:=#[.bool a0_0,.int .i64 a0_1,.slice A0_2 l0_2.length c0_2]) (t:=129) ?hr ?_;(case hd=>rfl);(case hg=>rfl);(case hr=>first | (go_simp;done) | (go_simp;rfl));intro gb442 hg w5 hbox hb;have n0_:=zMk (below_step (hs HB) hb);have n1_:=zMk (hbox);have n2_:=zMk ((by rw [hg];exact (below_size (hs HB)) : w.heap.size ≤ gb442));have n3_:=zMk ((by rw [hg];exact (below_size (hs HB)) : w.heap.size ≤ gb442));clear HB;have HB:=n0_;have BK442:=n1_;have GW442:=n2_;have GE442:=n3_;clear n0_ n1_ n2_ n3_;clear hb hbox hg;have hcz6_0 : w5.cell? ⟨gb442,0,none⟩ = some (.bool a0_0):=(zCl BK442.out 0).trans rfl;have hcz6_1 : w5.cell? ⟨gb442,1,none⟩ = some (.int .i64 a0_1):=(zCl BK442.out 1).trans rfl;have hcz6_2 : w5.cell? ⟨gb442,2,none⟩ = some (.slice A0_2 l0_2.length c0_2):=(zCl BK442.out 2).trans rfl;have hfz6_0:=zFr BK442.out 0;have hfz6_1:=zFr BK442.out 1;have hfz6_2:=zFr BK442.out 2) | ((with_reducible refine gate_callee (f:=107) rfl ?_);refine goesL_ (some 8) rfl rfl Try.func107 (by kernel_rfl) rfl #[.slice A0_2 l0_2.length c0_2,.int .i64 a1] rfl (by (try simp only [List.map_toArray,List.map_cons,List.map_nil]);first | done | rfl | (simp only [List.length_drop,List.length_take];rfl)) ?_;(with_reducible refine (laws_szLeafS.calls k _ _ l0_2 a1 t443 _ ?side1 ?side2 A3.out).mono ?_);(case side1=>repeat (first | exact (Kd.C_below HR0_2.out HB.out) | (with_reducible refine Kd.C_alloc ?_ _) | (with_reducible refine Kd.C_drewN ?_ _) | (with_reducible refine Kd.C_drew ?_)));(case side2=>exact HC0_2.out);rintro e w7 ⟨rfl,hb⟩;refine ⟨_,rfl,?_⟩;have n0_:=zMk (blk_below (g:=gb442) (o:=.cells #[.bool a0_0,.int .i64 a0_1,.slice A0_2 l0_2.length c0_2] 129 (0,0)) (bs BK442) hb);have n1_:=zMk (below_step (hs1 HB GE442) hb);clear BK442;clear HB;have BK442:=n0_;have HB:=n1_;clear n0_ n1_;(try clear hb);(try clear hb2);(try clear hk);(try clear hi)))
 (try simp only [Act.put,zS1,zS2,zS3])
 by_cases c4 : t443 < 0
 ·rw [if_pos c4] at H;have c4b0 : decide (t443 < 0) = true:=decide_eq_true c4;clear c4
  (first | rw [c4b0] | (simp only [i64_w,i32_w];rw [c4b0]) | skip)
  obtain rfl:=Option.some.inj H
  go_wp2
  go_ret
  exact ⟨by first | rfl | (simp [errW_none,errW_some] <;> rfl) | (simp [*,errW_none,errW_some] <;> rfl),hs1 HB GE442⟩
 rw [if_neg c4] at H;have c4b0 : decide (t443 < 0) = false:=decide_eq_false c4;clear c4
 (first | rw [c4b0] | (simp only [i64_w,i32_w];rw [c4b0]) | skip)
 obtain rfl:=Option.some.inj H
 go_wp2
 go_ret
 exact ⟨by first | rfl | (simp [errW_none,errW_some] <;> rfl) | (simp [*,errW_none,errW_some] <;> rfl),hs1 HB GE442⟩
def laws_szBlockS.l0 : Nat → List (S129) → Int → Int → Option (Int)
 | 0,_,_,_=>none
 | k + 1,x0,x1,x5=>if x5 < (x0.length : Int) then (if 0 ≤ x5 then ((laws_szBlock.f k ((rd_T129 x0 x5).f0) ((rd_T129 x0 x5).f1) ((rd_T129 x0 x5).f2) x1).bind fun t445=>(if t445 < 0 then (some (-1)) else (laws_szBlockS.l0 k x0 t445 (wrap64 (x5 + 1))))) else (none)) else (some x1)
def laws_szBlockS.f (k : Nat) (l0 : List (S129)) (a1 : Int) : Option (Int):=if (wrap64 (a1 - (l0.length : Int))) < 0 then (some (-1)) else (laws_szBlockS.l0 k l0 (wrap64 (a1 - (l0.length : Int))) 0)
theorem laws_szBlockS.mono_l : ∀ k,(∀ y0 y1 y2,LeO (laws_szBlockS.l0 k y0 y1 y2) (laws_szBlockS.l0 (k + 1) y0 y1 y2))
 | 0=>fun _ _ _ r h=>by simp [laws_szBlockS.l0] at h
 | k + 1=>by
  have ih0:=laws_szBlockS.mono_l k;intro y0 y1 y2;unfold laws_szBlockS.l0
  repeat' first
  | (with_reducible exact ih0 _ _ _)
  | (with_reducible exact laws_szBlock.mono _ _ _ _ _)
  | (with_reducible exact LeO.refl _)
  | (with_reducible exact LeO.none _)
  | (with_reducible refine LeO.ite ?_ ?_)
  | (with_reducible refine LeO.bind ?_ (fun _=>?_))
  | exact ih0 _ _ _
  | exact laws_szBlock.mono _ _ _ _ _
  | exact LeO.none _
  | refine LeO.ite ?_ ?_
  | refine LeO.bind ?_ (fun _=>?_)
theorem laws_szBlockS.mono : ∀ a0 a1 k,LeO (laws_szBlockS.f k a0 a1) (laws_szBlockS.f (k + 1) a0 a1):=by
 intro a0 a1 k;have ih0:=laws_szBlockS.mono_l k;unfold laws_szBlockS.f
 repeat' first
   | (with_reducible exact ih0 _ _ _)
   | (with_reducible exact laws_szBlock.mono _ _ _ _ _)
   | (with_reducible exact LeO.refl _)
   | (with_reducible exact LeO.none _)
   | (with_reducible refine LeO.ite ?_ ?_)
   | (with_reducible refine LeO.bind ?_ (fun _=>?_))
   | exact ih0 _ _ _
   | exact laws_szBlock.mono _ _ _ _ _
   | exact LeO.none _
   | refine LeO.ite ?_ ?_
   | refine LeO.bind ?_ (fun _=>?_)
set_option maxHeartbeats 8000000 in
set_option maxRecDepth 100000 in
theorem laws_szBlockS.calls (k : Nat) (A0 : Option Addr) (c0 : Nat) (l0 : List (S129)) (a1 : Int) (r : Int) (w : World) (hr0 : Kd.C k129 w A0 l0.length l0) (hc0 : l0.length ≤ c0) (h : laws_szBlockS.f k l0 a1 = some r) :
  Calls Try.prog 54 #[.slice A0 l0.length c0,.int .i64 a1] w fun e w'=>e = .returned (.int .i64 r) ∧ Below w.heap.size w w':=by
 have hu129:=Try.underlying129;have HR0:=zMk hr0;have HC0:=zMk hc0;clear hr0 hc0;have HB:=zMk (Below.refl w.heap.size w);have H : (if (wrap64 (a1 - (l0.length : Int))) < 0 then (some (-1)) else (laws_szBlockS.l0 k l0 (wrap64 (a1 - (l0.length : Int))) 0)) = some r:=h;clear h
 by_cases c3 : (wrap64 (a1 - (l0.length : Int))) < 0
 ·rw [if_pos c3] at H;have c3b0 : decide ((wrap64 (a1 - (l0.length : Int))) < 0) = true:=decide_eq_true c3;clear c3;obtain rfl:=Option.some.inj H
  go_enter Try.func54,Try.ntmps54
  go_wp2
  go_ret
  exact ⟨by first | rfl | (simp [errW_none,errW_some] <;> rfl) | (simp [*,errW_none,errW_some] <;> rfl),hs HB⟩
 rw [if_neg c3] at H;have c3b0 : decide ((wrap64 (a1 - (l0.length : Int))) < 0) = false:=decide_eq_false c3;clear c3;have H':=zMk H;clear H
 go_enter Try.func54,Try.ntmps54
 go_wp2
 go_loopg [1,5] k (fun kq v1 v5 w'=>∃ (x1_1 : Int) (x5_1 : Int),v1 = .int .i64 x1_1 ∧ v5 = .int .i64 x5_1 ∧ Aside0 (laws_szBlockS.l0 kq l0 x1_1 x5_1 = some r) ∧ Aside0 (kq ≤ k) ∧ Aside0 (Below w.heap.size w w'));case atStart=>exact ⟨(wrap64 (a1 - (l0.length : Int))),(0),(by first | rfl | (simp;done) | (simp [*];done)),(by first | rfl | (simp;done) | (simp [*];done)),H',⟨Nat.le_refl _⟩,⟨hs HB⟩⟩
 case round =>
  clear H'
  try clear p2
  try clear c3
  try clear c3b0
  obtain ⟨x1_1,x5_1,rfl,rfl,HA,HK1,HB⟩:=hrel;cases gk with
  | zero=>exact absurd HA.out (by simp [laws_szBlockS.l0])
  | succ k1 =>
   have H:=HA.out;clear HA;simp only [laws_szBlockS.l0] at H
   by_cases c4 : x5_1 < (l0.length : Int)
   ·rw [if_pos c4] at H;have c4b0 : decide (x5_1 < (l0.length : Int)) = true:=decide_eq_true c4;clear c4
    by_cases c5 : 0 ≤ x5_1
    ·rw [if_pos c5] at H;have c5b0 : decide (0 ≤ x5_1) = true:=decide_eq_true c5;clear c5;replace H:=Option.bind_eq_some_iff.mp H;obtain ⟨t445,A60,H⟩:=H;replace H : (if t445 < 0 then (some (-1)) else (laws_szBlockS.l0 k1 l0 t445 (wrap64 (x5_1 + 1)))) = some r:=H;have A6:=zMk A60;clear A60;have p444 : 0 ≤ (x5_1 : Int):=zDe (by first | (with_reducible assumption) | assumption);have q444 : x5_1 < (l0.length : Int):=zDe (by first | (with_reducible assumption) | assumption);obtain ⟨ad444,A444_2,c444_2,e444,hx444_0,hx444_1,hx444_2,hl444_2,hi444_2⟩:=at_T129 HR0.out x5_1 p444 q444;cases e444;replace hx444_0:=(HB.out.cell (zBl w _ hx444_0)).trans hx444_0;replace hx444_1:=(HB.out.cell (zBl w _ hx444_1)).trans hx444_1;replace hx444_2:=(HB.out.cell (zBl w _ hx444_2)).trans hx444_2;have HR444_2:=zMk hi444_2;have HC444_2:=zMk hl444_2;clear hi444_2 hl444_2;replace p444:=eq_true p444;replace q444:=eq_true q444
     go_upto_if 25 with (first | ((with_reducible refine gate_callee (f:=85) rfl ?_);refine goesL_ (some 23) rfl rfl Try.func85 (by kernel_rfl) rfl #[.agg #[.bool ((rd_T129 l0 x5_1).f0),.int .i64 ((rd_T129 l0 x5_1).f1),.slice A444_2 ((rd_T129 l0 x5_1).f2).length c444_2],.int .i64 x1_1] rfl (by (try simp only [List.map_toArray,List.map_cons,List.map_nil]);first | done | rfl | (simp only [List.length_drop,List.length_take];rfl)) ?_;(with_reducible refine (laws_szBlock.calls k1 ((rd_T129 l0 x5_1).f0) ((rd_T129 l0 x5_1).f1) _ _ ((rd_T129 l0 x5_1).f2) x1_1 t445 _ ?side1 ?side2 A6.out).mono ?_);(case side1=>repeat (first | exact (Kd.C_below HR444_2.out HB.out) | (with_reducible refine Kd.C_alloc ?_ _) | (with_reducible refine Kd.C_drewN ?_ _) | (with_reducible refine Kd.C_drew ?_)));(case side2=>exact HC444_2.out);rintro e w8 ⟨rfl,hb⟩;refine ⟨_,rfl,?_⟩;have n0_:=zMk (below_step (hs HB) hb);clear HB;have HB:=n0_;clear n0_;(try clear hb);(try clear hb2);(try clear hk);(try clear hi)))
     (try simp only [Act.put,zS1,zS2,zS3])
     by_cases c7 : t445 < 0
     ·rw [if_pos c7] at H;have c7b0 : decide (t445 < 0) = true:=decide_eq_true c7;clear c7
      (first | rw [c7b0] | (simp only [i64_w,i32_w];rw [c7b0]) | skip)
      obtain rfl:=Option.some.inj H
      go_wp2
      go_ret
      exact ⟨by first | rfl | (simp [errW_none,errW_some] <;> rfl) | (simp [*,errW_none,errW_some] <;> rfl),hs HB⟩
     rw [if_neg c7] at H;have c7b0 : decide (t445 < 0) = false:=decide_eq_false c7;clear c7
     (first | rw [c7b0] | (simp only [i64_w,i32_w];rw [c7b0]) | skip)
     have H':=zMk H;clear H
     go_wp2
     go_roundg k1;case measure=>have:=HK1.out;omega
     case rel=>exact ⟨(t445),(wrap64 (x5_1 + 1)),(by first | rfl | (simp;done) | (simp [*];done)),(by first | rfl | (simp;done) | (simp [*];done)),H',⟨by have:=HK1.out;omega⟩,⟨hs HB⟩⟩
    rw [if_neg c5] at H;exact absurd H (by simp)
   rw [if_neg c4] at H;have c4b0 : decide (x5_1 < (l0.length : Int)) = false:=decide_eq_false c4;clear c4;obtain rfl:=Option.some.inj H
   go_wp2
   go_ret
   exact ⟨by first | rfl | (simp [errW_none,errW_some] <;> rfl) | (simp [*,errW_none,errW_some] <;> rfl),hs HB⟩
def laws_szFlash.f (k : Nat) (l0_0 : List (S129)) (a1 : Int) : Option (Int):=(laws_szBlockS.f k l0_0 a1).bind fun t447=>(if t447 < 0 then (some (-1)) else (some t447))
theorem laws_szFlash.mono : ∀ a0 a1 k,LeO (laws_szFlash.f k a0 a1) (laws_szFlash.f (k + 1) a0 a1):=by
 intro a0 a1 k;unfold laws_szFlash.f
 repeat' first
   | (with_reducible exact laws_szBlockS.mono _ _ _)
   | (with_reducible exact LeO.refl _)
   | (with_reducible exact LeO.none _)
   | (with_reducible refine LeO.ite ?_ ?_)
   | (with_reducible refine LeO.bind ?_ (fun _=>?_))
   | exact laws_szBlockS.mono _ _ _
   | exact LeO.none _
   | refine LeO.ite ?_ ?_
   | refine LeO.bind ?_ (fun _=>?_)
set_option maxHeartbeats 8000000 in
set_option maxRecDepth 100000 in
theorem laws_szFlash.calls (k : Nat) (A0_0 : Option Addr) (c0_0 : Nat) (l0_0 : List (S129)) (a1 : Int) (r : Int) (w : World) (hr0_0 : Kd.C k129 w A0_0 l0_0.length l0_0) (hc0_0 : l0_0.length ≤ c0_0) (h : laws_szFlash.f k l0_0 a1 = some r) :
  Calls Try.prog 17 #[.agg #[.slice A0_0 l0_0.length c0_0],.int .i64 a1] w fun e w'=>e = .returned (.int .i64 r) ∧ Below w.heap.size w w':=by
 have hu45:=Try.underlying45;have HR0_0:=zMk hr0_0;have HC0_0:=zMk hc0_0;clear hr0_0 hc0_0;have HB:=zMk (Below.refl w.heap.size w);have H : ((laws_szBlockS.f k l0_0 a1).bind fun t447=>(if t447 < 0 then (some (-1)) else (some t447))) = some r:=h;clear h;replace H:=Option.bind_eq_some_iff.mp H;obtain ⟨t447,A30,H⟩:=H;replace H : (if t447 < 0 then (some (-1)) else (some t447)) = some r:=H;have A3:=zMk A30;clear A30
 go_enter Try.func17,Try.ntmps17
 go_upto_if 10 with (first | ((with_reducible refine gate_dst (N:=2) rfl ?_);refine box_event ?hg (N:=2) ?hd (cs:=#[.slice A0_0 l0_0.length c0_0]) (t:=45) ?hr ?_;(case hd=>rfl);(case hg=>rfl);(case hr=>first | (go_simp;done) | (go_simp;rfl));intro gb446 hg w5 hbox hb;have n0_:=zMk (below_step (hs HB) hb);have n1_:=zMk (hbox);have n2_:=zMk ((by rw [hg];exact (below_size (hs HB)) : w.heap.size ≤ gb446));have n3_:=zMk ((by rw [hg];exact (below_size (hs HB)) : w.heap.size ≤ gb446));clear HB;have HB:=n0_;have BK446:=n1_;have GW446:=n2_;have GE446:=n3_;clear n0_ n1_ n2_ n3_;clear hb hbox hg;have hcz6_0 : w5.cell? ⟨gb446,0,none⟩ = some (.slice A0_0 l0_0.length c0_0):=(zCl BK446.out 0).trans rfl;have hfz6_0:=zFr BK446.out 0) | ((with_reducible refine gate_callee (f:=54) rfl ?_);refine goesL_ (some 8) rfl rfl Try.func54 (by kernel_rfl) rfl #[.slice A0_0 l0_0.length c0_0,.int .i64 a1] rfl (by (try simp only [List.map_toArray,List.map_cons,List.map_nil]);first | done | rfl | (simp only [List.length_drop,List.length_take];rfl)) ?_;(with_reducible refine (laws_szBlockS.calls k _ _ l0_0 a1 t447 _ ?side1 ?side2 A3.out).mono ?_);(case side1=>repeat (first | exact (Kd.C_below HR0_0.out HB.out) | (with_reducible refine Kd.C_alloc ?_ _) | (with_reducible refine Kd.C_drewN ?_ _) | (with_reducible refine Kd.C_drew ?_)));(case side2=>exact HC0_0.out);rintro e w7 ⟨rfl,hb⟩;refine ⟨_,rfl,?_⟩;have n0_:=zMk (blk_below (g:=gb446) (o:=.cells #[.slice A0_0 l0_0.length c0_0] 45 (0,0)) (bs BK446) hb);have n1_:=zMk (below_step (hs1 HB GE446) hb);clear BK446;clear HB;have BK446:=n0_;have HB:=n1_;clear n0_ n1_;(try clear hb);(try clear hb2);(try clear hk);(try clear hi)))
 (try simp only [Act.put,zS1,zS2,zS3])
 by_cases c4 : t447 < 0
 ·rw [if_pos c4] at H;have c4b0 : decide (t447 < 0) = true:=decide_eq_true c4;clear c4
  (first | rw [c4b0] | (simp only [i64_w,i32_w];rw [c4b0]) | skip)
  obtain rfl:=Option.some.inj H
  go_wp2
  go_ret
  exact ⟨by first | rfl | (simp [errW_none,errW_some] <;> rfl) | (simp [*,errW_none,errW_some] <;> rfl),hs1 HB GE446⟩
 rw [if_neg c4] at H;have c4b0 : decide (t447 < 0) = false:=decide_eq_false c4;clear c4
 (first | rw [c4b0] | (simp only [i64_w,i32_w];rw [c4b0]) | skip)
 obtain rfl:=Option.some.inj H
 go_wp2
 go_ret
 exact ⟨by first | rfl | (simp [errW_none,errW_some] <;> rfl) | (simp [*,errW_none,errW_some] <;> rfl),hs1 HB GE446⟩
def laws_toLeaf.f (a0_0 : Int) (a0_1 : ByteArray) : Option (Int × ByteArray):=some (a0_0,a0_1)
set_option maxHeartbeats 8000000 in
set_option maxRecDepth 100000 in
theorem laws_toLeaf.calls (a0_0 : Int) (a0_1 : ByteArray) (r1 : Int) (r2 : ByteArray) (w : World) (h : laws_toLeaf.f a0_0 a0_1 = some (r1,r2)) :
  Calls Try.prog 136 #[.agg #[.int .i64 a0_0,.string a0_1]] w fun e w'=>e = .returned (.agg #[.int .i64 r1,.string r2]) ∧ Below w.heap.size w w':=by
 have hu176:=Try.underlying176;have hu101:=Try.underlying101;have HB:=zMk (Below.refl w.heap.size w);have H : (some (a0_0,a0_1)) = some (r1,r2):=h;clear h;simp only [Option.some.injEq,Prod.mk.injEq] at H;obtain ⟨rfl,rfl⟩:=H
 go_enter Try.func136,Try.ntmps136
 go_wp2_with (first | ((with_reducible refine gate_dst (N:=1) rfl ?_);refine box_event ?hg (N:=1) ?hd (cs:=#[.int .i64 a0_0,.string a0_1]) (t:=176) ?hr ?_;(case hd=>rfl);(case hg=>rfl);(case hr=>first | (go_simp;done) | (go_simp;rfl));intro gb531 hg w2 hbox hb;have n0_:=zMk (below_step (hs HB) hb);have n1_:=zMk (hbox);have n2_:=zMk ((by rw [hg];exact (below_size (hs HB)) : w.heap.size ≤ gb531));have n3_:=zMk ((by rw [hg];exact (below_size (hs HB)) : w.heap.size ≤ gb531));clear HB;have HB:=n0_;have BK531:=n1_;have GW531:=n2_;have GE531:=n3_;clear n0_ n1_ n2_ n3_;clear hb hbox hg) | ((with_reducible refine gate_dst (N:=2) rfl ?_);refine box_event ?hg (N:=2) ?hd (cs:=#[.int .i64 0,.string (⟨#[]⟩ : ByteArray)]) (t:=101) ?hr ?_;(case hd=>rfl);(case hg=>rfl);(case hr=>first | (go_simp;done) | (go_simp;rfl));intro gb532 hg w3 hbox hb;have n0_:=zMk (blk_below (g:=gb531) (o:=.cells #[.int .i64 a0_0,.string a0_1] 176 (0,0)) (bs BK531) hb);have n1_:=zMk (below_step (hs1 HB GE531) hb);have n2_:=zMk (hbox);have n3_:=zMk ((by rw [hg];exact (below_size (hs1 HB GE531)) : w.heap.size ≤ gb532));have n4_:=zMk ((by rw [hg];exact (below_size (hs1 HB GE531)) : w.heap.size ≤ gb532));have n5_:=zMk ((by rw [hg];exact Nat.ne_of_lt (blk_lt (g:=gb531) (o:=.cells #[.int .i64 a0_0,.string a0_1] 176 (0,0)) (bs BK531)) : gb531 ≠ gb532));have n6_:=zMk ((by rw [hg];exact Nat.ne_of_gt (blk_lt (g:=gb531) (o:=.cells #[.int .i64 a0_0,.string a0_1] 176 (0,0)) (bs BK531)) : gb532 ≠ gb531));clear BK531;clear HB;have BK531:=n0_;have HB:=n1_;have BK532:=n2_;have GW532:=n3_;have GE532:=n4_;have NB531_532:=n5_;have NB532_531:=n6_;clear n0_ n1_ n2_ n3_ n4_ n5_ n6_;clear hb hbox hg) | ((with_reducible refine gate_dst (N:=3) rfl ?_);refine box_event ?hg (N:=3) ?hd (cs:=#[.int .i64 0,.string (⟨#[]⟩ : ByteArray)]) (t:=101) ?hr ?_;(case hd=>rfl);(case hg=>rfl);(case hr=>first | (go_simp;done) | (go_simp;rfl));intro gb533 hg w4 hbox hb;have n0_:=zMk (blk_below (g:=gb531) (o:=.cells #[.int .i64 a0_0,.string a0_1] 176 (0,0)) (bs BK531) hb);have n1_:=zMk (blk_below (g:=gb532) (o:=.cells #[.int .i64 0,.string (⟨#[]⟩ : ByteArray)] 101 (0,0)) (bs BK532) hb);have n2_:=zMk (below_step (hs2 HB GE531 GE532) hb);have n3_:=zMk (hbox);have n4_:=zMk ((by rw [hg];exact (below_size (hs2 HB GE531 GE532)) : w.heap.size ≤ gb533));have n5_:=zMk ((by rw [hg];exact (below_size (hs2 HB GE531 GE532)) : w.heap.size ≤ gb533));have n6_:=zMk ((by rw [hg];exact Nat.ne_of_lt (blk_lt (g:=gb531) (o:=.cells #[.int .i64 a0_0,.string a0_1] 176 (0,0)) (bs BK531)) : gb531 ≠ gb533));have n7_:=zMk ((by rw [hg];exact Nat.ne_of_gt (blk_lt (g:=gb531) (o:=.cells #[.int .i64 a0_0,.string a0_1] 176 (0,0)) (bs BK531)) : gb533 ≠ gb531));have n8_:=zMk ((by rw [hg];exact Nat.ne_of_lt (blk_lt (g:=gb532) (o:=.cells #[.int .i64 0,.string (⟨#[]⟩ : ByteArray)] 101 (0,0)) (bs BK532)) : gb532 ≠ gb533));have n9_:=zMk ((by rw [hg];exact Nat.ne_of_gt (blk_lt (g:=gb532) (o:=.cells #[.int .i64 0,.string (⟨#[]⟩ : ByteArray)] 101 (0,0)) (bs BK532)) : gb533 ≠ gb532));clear BK531;clear BK532;clear HB;have BK531:=n0_;have BK532:=n1_;have HB:=n2_;have BK533:=n3_;have GW533:=n4_;have GE533:=n5_;have NB531_533:=n6_;have NB533_531:=n7_;have NB532_533:=n8_;have NB533_532:=n9_;clear n0_ n1_ n2_ n3_ n4_ n5_ n6_ n7_ n8_ n9_;clear hb hbox hg;have hnb5:=NB531_532.out;have hnc5:=NB532_531.out;have hnb6:=NB531_533.out;have hnc6:=NB533_531.out;have hcz7_0 : w4.cell? ⟨gb531,0,none⟩ = some (.int .i64 a0_0):=(zCl BK531.out 0).trans rfl;have hcz7_1 : w4.cell? ⟨gb531,1,none⟩ = some (.string a0_1):=(zCl BK531.out 1).trans rfl;have hfz7_0:=zFr BK531.out 0;have hfz7_1:=zFr BK531.out 1;have hnb8:=NB533_532.out;have hnc8:=NB532_533.out;have hcz9_0 : w4.cell? ⟨gb533,0,none⟩ = some (.int .i64 0):=(zCl BK533.out 0).trans rfl;have hcz9_1 : w4.cell? ⟨gb533,1,none⟩ = some (.string (⟨#[]⟩ : ByteArray)):=(zCl BK533.out 1).trans rfl;have hfz9_0:=zFr BK533.out 0;have hfz9_1:=zFr BK533.out 1;have hcz10_0 : w4.cell? ⟨gb532,0,none⟩ = some (.int .i64 0):=(zCl BK532.out 0).trans rfl;have hcz10_1 : w4.cell? ⟨gb532,1,none⟩ = some (.string (⟨#[]⟩ : ByteArray)):=(zCl BK532.out 1).trans rfl;have hfz10_0:=zFr BK532.out 0;have hfz10_1:=zFr BK532.out 1));refine bodyPost_ret (results_cell_row rfl _ _ gb532 101 #[.int .i64 a0_0,.string a0_1] (0,0) _ rfl (by (with_reducible repeat (first | refine blk_drewN ?_ _ | refine blk_drew ?_ | refine blk_alloc ?_ _));refine blk_put (cs:=#[.int .i64 a0_0,.string (⟨#[]⟩ : ByteArray)]) ?_ 1 _ rfl;(with_reducible repeat (first | refine blk_drewN ?_ _ | refine blk_drew ?_ | refine blk_alloc ?_ _));refine blk_put (cs:=#[.int .i64 0,.string (⟨#[]⟩ : ByteArray)]) ?_ 0 _ rfl;(with_reducible repeat (first | refine blk_drewN ?_ _ | refine blk_drew ?_ | refine blk_alloc ?_ _));refine blk_far ?_ NB532_533.out _;(with_reducible repeat (first | refine blk_drewN ?_ _ | refine blk_drew ?_ | refine blk_alloc ?_ _));refine blk_far ?_ NB532_533.out _;(with_reducible repeat (first | refine blk_drewN ?_ _ | refine blk_drew ?_ | refine blk_alloc ?_ _));exact BK532.out) Try.underlying101 rfl (by kernel_rfl)) rfl ?_;exact ⟨by first | rfl | (simp [errW_none,errW_some] <;> rfl) | (simp [*,errW_none,errW_some] <;> rfl),hs3 HB GE531 GE532 GE533⟩
def laws_toLeafS.l0 : Nat → List (S176) → List (S101) → Int → Option ((List (S101)))
 | 0,_,_,_=>none
 | k + 1,x0,x3,x4=>if x4 < (x0.length : Int) then (if 0 ≤ x4 then ((laws_toLeaf.f ((rd_T176 x0 x4).f0) ((rd_T176 x0 x4).f1)).bind fun bt538=>(if x4 < (x3.length : Int) then (laws_toLeafS.l0 k x0 (x3.set (x4 : Int).toNat (⟨bt538.1,bt538.2⟩ : S101)) (wrap64 (x4 + 1))) else (none))) else (none)) else (some x3)
def laws_toLeafS.f (k : Nat) (l0 : List (S176)) : Option ((List (S101))):=if 0 ≤ (l0.length : Int) then (if ((l0.length : Int) : Int).toNat ≤ 11728124029610 then (laws_toLeafS.l0 k l0 (List.replicate ((l0.length : Int) : Int).toNat z101) 0) else (none)) else (none)
theorem laws_toLeafS.mono_l : ∀ k,(∀ y0 y1 y2,LeO (laws_toLeafS.l0 k y0 y1 y2) (laws_toLeafS.l0 (k + 1) y0 y1 y2))
 | 0=>fun _ _ _ r h=>by simp [laws_toLeafS.l0] at h
 | k + 1=>by
  have ih0:=laws_toLeafS.mono_l k;intro y0 y1 y2;unfold laws_toLeafS.l0
  repeat' first
  | (with_reducible exact ih0 _ _ _)
  | (with_reducible exact LeO.refl _)
  | (with_reducible exact LeO.none _)
  | (with_reducible refine LeO.ite ?_ ?_)
  | (with_reducible refine LeO.bind ?_ (fun _=>?_))
  | exact ih0 _ _ _
  | exact LeO.none _
  | refine LeO.ite ?_ ?_
  | refine LeO.bind ?_ (fun _=>?_)
theorem laws_toLeafS.mono : ∀ a0 k,LeO (laws_toLeafS.f k a0) (laws_toLeafS.f (k + 1) a0):=by
 intro a0 k;have ih0:=laws_toLeafS.mono_l k;unfold laws_toLeafS.f
 repeat' first
   | (with_reducible exact ih0 _ _ _)
   | (with_reducible exact LeO.refl _)
   | (with_reducible exact LeO.none _)
   | (with_reducible refine LeO.ite ?_ ?_)
   | (with_reducible refine LeO.bind ?_ (fun _=>?_))
   | exact ih0 _ _ _
   | exact LeO.none _
   | refine LeO.ite ?_ ?_
   | refine LeO.bind ?_ (fun _=>?_)
set_option maxHeartbeats 8000000 in
set_option maxRecDepth 100000 in
theorem laws_toLeafS.calls (k : Nat) (A0 : Option Addr) (c0 : Nat) (l0 : List (S176)) (r : List (S101)) (w : World) (hr0 : Kd.C k176 w A0 l0.length l0) (hc0 : l0.length ≤ c0) (h : laws_toLeafS.f k l0 = some r) :
  Calls Try.prog 110 #[.slice A0 l0.length c0] w fun e w'=>∃ v0_ : Value,e = .returned (v0_) ∧ Kd.R k101 101 w' w.heap.size (fun _=>True) v0_ r ∧ Below w.heap.size w w':=by
 have hu176:=Try.underlying176;have hu101:=Try.underlying101;have HR0:=zMk hr0;have HC0:=zMk hc0;clear hr0 hc0;have HB:=zMk (Below.refl w.heap.size w);have H : (if 0 ≤ (l0.length : Int) then (if ((l0.length : Int) : Int).toNat ≤ 11728124029610 then (laws_toLeafS.l0 k l0 (List.replicate ((l0.length : Int) : Int).toNat z101) 0) else (none)) else (none)) = some r:=h;clear h
 by_cases c2 : 0 ≤ (l0.length : Int)
 ·rw [if_pos c2] at H;have c2b0:=eq_true c2;have c2b1 : decide (0 ≤ (l0.length : Int)) = true:=decide_eq_true c2;clear c2
  by_cases c3 : ((l0.length : Int) : Int).toNat ≤ 11728124029610
  ·rw [if_pos c3] at H;have c3b0:=eq_true c3;have c3b1 : decide (((l0.length : Int) : Int).toNat ≤ 11728124029610) = true:=decide_eq_true c3;clear c3;obtain ⟨y534,hy534⟩ : ∃ y_ : List (S101),y_ = (List.replicate ((l0.length : Int) : Int).toNat z101):=⟨_,rfl⟩;replace H : (laws_toLeafS.l0 k l0 y534 0) = some r:=by first | (rw [hy534];with_reducible exact H) | (have H2_:=(Option.bind_some _ _).symm.trans H;rw [hy534];with_reducible exact H2_) | (have H2_:=(Option.bind_some _ _).symm.trans H;with_reducible exact H2_) | with_reducible exact H | (rw [hy534];exact H) | exact H
   have Ny534:=zMk hy534;clear hy534;have H':=zMk H;clear H
   go_enter Try.func110,Try.ntmps110
   go_wp2_with (first | ((with_reducible refine gate_dst (N:=7) rfl ?_);refine Kd.R_make k101 _ 101 rfl (N:=7) rfl 81 _ _ rfl (l0.length : Int) rfl rfl Try.underlying81 (.agg #[(.int .i64 0),(.string ⟨#[]⟩)]) 24 info101 rfl (by decide) (by omega) z101 (ok:=fun _=>True) (okp:=fun _=>True) (k101_mkM _ _ _ z101 ) (fun _ hk=>hk) trivial (zDe (by first | (with_reducible assumption) | assumption)) (Nat.le_trans (Nat.mul_le_mul_right _ (zDe (by first | (with_reducible assumption) | assumption) : (l0.length : Int).toNat ≤ 11728124029610)) (by omega)) (Below.refl _ _) (Nat.le_refl _) ?_;intro v535 w4 ho5 hb hg_ hnew_;clear hg_ hnew_;(first | rw [← Ny534.out] at ho5 | (simp only [Int.reduceToNat] at ho5;rw [← Ny534.out] at ho5));have n0_:=zMk (Kd.R_lower ho5 (below_size (hs HB)));have n1_:=zMk (below_step (hs HB) hb);clear HB;have HO536:=n0_;have HB:=n1_;clear n0_ n1_;clear hb ho5));go_loopg [4] k (fun kq v4 w'=>∃ (x3_1 : List (S101)) (x4_1 : Int),v4 = .int .i64 x4_1 ∧ Aside0 (laws_toLeafS.l0 kq l0 x3_1 x4_1 = some r) ∧ Aside0 (kq ≤ k) ∧ Aside0 (Kd.R k101 101 w' w.heap.size (fun _=>True) v535 x3_1) ∧ Aside0 (Below w.heap.size w w'));case atStart=>exact ⟨(y534),(0),(by first | rfl | (simp;done) | (simp [*];done)),H',⟨Nat.le_refl _⟩,⟨rs HO536⟩,⟨hs HB⟩⟩
   case round =>
    clear H'
    try clear c1
    try clear c2
    try clear c2b0
    try clear c2b1
    try clear p2
    try clear c3
    try clear c3b0
    try clear c3b1
    obtain ⟨x3_1,x4_1,rfl,HA,HK1,HO_3,HB⟩:=hrel;cases gk with
    | zero=>exact absurd HA.out (by simp [laws_toLeafS.l0])
    | succ k1 =>
     have H:=HA.out;clear HA;simp only [laws_toLeafS.l0] at H
     by_cases c6 : x4_1 < (l0.length : Int)
     ·rw [if_pos c6] at H;have c6b0 : decide (x4_1 < (l0.length : Int)) = true:=decide_eq_true c6;clear c6
      by_cases c7 : 0 ≤ x4_1
      ·rw [if_pos c7] at H;have c7b0 : decide (0 ≤ x4_1) = true:=decide_eq_true c7;clear c7;replace H:=Option.bind_eq_some_iff.mp H;obtain ⟨⟨t538,t539⟩,A80,H⟩:=H;replace H : (if x4_1 < (x3_1.length : Int) then (laws_toLeafS.l0 k1 l0 (x3_1.set (x4_1 : Int).toNat (⟨t538,t539⟩ : S101)) (wrap64 (x4_1 + 1))) else (none)) = some r:=H;have A8:=zMk A80;clear A80
       by_cases c9 : x4_1 < (x3_1.length : Int)
       ·rw [if_pos c9] at H;have c9b0 : decide (x4_1 < (x3_1.length : Int)) = true:=decide_eq_true c9;clear c9;obtain ⟨y540,hy540⟩ : ∃ y_ : List (S101),y_ = (x3_1.set (x4_1 : Int).toNat (⟨t538,t539⟩ : S101)):=⟨_,rfl⟩;replace H : (laws_toLeafS.l0 k1 l0 y540 (wrap64 (x4_1 + 1))) = some r:=by first | (rw [hy540];with_reducible exact H) | (have H2_:=(Option.bind_some _ _).symm.trans H;rw [hy540];with_reducible exact H2_) | (have H2_:=(Option.bind_some _ _).symm.trans H;with_reducible exact H2_) | with_reducible exact H | (rw [hy540];exact H) | exact H
        have Ny540:=zMk hy540;clear hy540;have H':=zMk H;clear H;have p537 : 0 ≤ (x4_1 : Int):=zDe (by first | (with_reducible assumption) | assumption);have q537 : x4_1 < (l0.length : Int):=zDe (by first | (with_reducible assumption) | assumption);obtain ⟨ad537,e537,hx537_0,hx537_1⟩:=at_T176 HR0.out x4_1 p537 q537;cases e537;replace hx537_0:=(HB.out.cell (zBl w _ hx537_0)).trans hx537_0;replace hx537_1:=(HB.out.cell (zBl w _ hx537_1)).trans hx537_1;replace p537:=eq_true p537;replace q537:=eq_true q537;go_wp2_with (first | ((with_reducible refine gate_callee (f:=136) rfl ?_);refine goesL_ (some 20) rfl rfl Try.func136 (by kernel_rfl) rfl #[.agg #[.int .i64 ((rd_T176 l0 x4_1).f0),.string ((rd_T176 l0 x4_1).f1)]] rfl (by (try simp only [List.map_toArray,List.map_cons,List.map_nil]);first | done | rfl | (simp only [List.length_drop,List.length_take];rfl)) ?_;(with_reducible refine (laws_toLeaf.calls ((rd_T176 l0 x4_1).f0) ((rd_T176 l0 x4_1).f1) t538 t539 _ A8.out).mono ?_);rintro e w11 ⟨rfl,hb⟩;refine ⟨_,rfl,?_⟩;have n0_:=zMk (Kd.R_below (rs HO_3) hb);have n1_:=zMk (below_step (hs HB) hb);clear HO_3;clear HB;have HO_3:=n0_;have HB:=n1_;clear n0_ n1_;(try clear hb);(try clear hb2);(try clear hk);(try clear hi);have p10 : 0 ≤ (x4_1 : Int):=zDe (by first | (with_reducible assumption) | assumption);have q10 : (x4_1 : Int) < ((x3_1.length : Int) : Int):=zDe (by first | (with_reducible assumption) | assumption);obtain ⟨go10,co10,eo10,gb10,gl10,cl10,HG10⟩:=Kd.R_form HO_3.out (by omega);(first | cases eo10 | (injection eo10 with ea_ en_ ec_;(first | subst ea_ | (injection ea_ with ea_;subst ea_));subst ec_;clear en_));have GB10:=zMk gb10;have GG10:=zMk HG10;clear gb10 gl10 HG10;obtain ⟨ce10,hcl10,hM10,hcc10,hfr10⟩:=Kd.R_elem HO_3.out z101 (x4_1 : Int) p10 q10;obtain rfl:=k101_openM hM10;have hx10_0 : w11.cell? ⟨go10,(x4_1 : Int).toNat * 2,none⟩ = some (.int .i64 ((rd_T101 x3_1 x4_1).f0)):=hcc10 0 _ rfl;have hx10_1 : w11.cell? ⟨go10,(x4_1 : Int).toNat * 2 + 1,none⟩ = some (.string ((rd_T101 x3_1 x4_1).f1)):=hcc10 1 _ rfl;have hf10_0 : w11.frozen? ⟨go10,(x4_1 : Int).toNat * 2,none⟩ = false:=hfr10 0;have hf10_1 : w11.frozen? ⟨go10,(x4_1 : Int).toNat * 2 + 1,none⟩ = false:=hfr10 1;clear hcl10 hcc10 hfr10 hM10;replace p10:=eq_true p10;replace q10:=eq_true q10;have HX12:=zMk (show Kd.R k101 101 w11 w.heap.size (fun _=>True) (.slice (some ⟨go10,0,none⟩) x3_1.length co10) x3_1 from (rs HO_3));obtain ⟨ce12,hcl12,hM12,hcc12,hfr12⟩:=Kd.R_elem HX12.out z101 (x4_1 : Int) (zDe (by first | (with_reducible assumption) | assumption)) (by have h_ : (x4_1 : Int) < ((x3_1.length : Int) : Int):=zDe (by first | (with_reducible assumption) | assumption);first | exact h_ | (have e_:=(Kd.R_reads' HO_3.out).1;omega) | simpa using h_);obtain rfl:=k101_openM hM12;have HP12:=Kd.R_seg HX12.out (x4_1 : Int) (zDe (by first | (with_reducible assumption) | assumption)) (by have h_ : (x4_1 : Int) < ((x3_1.length : Int) : Int):=zDe (by first | (with_reducible assumption) | assumption);first | exact h_ | (have e_:=(Kd.R_reads' HO_3.out).1;omega) | simpa using h_) (seg:=[.int .i64 t538,.string t539]) (j:=0) hcl12 hcc12 (show 2 ≤ 2 from by decide) (x':=(⟨t538,t539⟩ : S101)) (k101_mkM _ _ _ (⟨t538,t539⟩ : S101) ) (fun _ hk=>hk);have hx12_0:=hcc12 0 _ rfl;(try simp only [show (k101).sz = 2 from rfl,Nat.mul_one,Nat.add_zero] at hx12_0);have hf12_0:=hfr12 0;(try simp only [show (k101).sz = 2 from rfl,Nat.mul_one,Nat.add_zero] at hf12_0);have hx12_1:=hcc12 1 _ rfl;(try simp only [show (k101).sz = 2 from rfl,Nat.mul_one,Nat.add_zero] at hx12_1);have hf12_1:=hfr12 1;(try simp only [show (k101).sz = 2 from rfl,Nat.mul_one,Nat.add_zero] at hf12_1);clear hcl12 hcc12 hfr12 hM12) | ((with_reducible refine gate_store (t:=101) (p:=21) rfl ?_);refine store_event (t:=101) (p:=21) (v:=?vo_w13) (w1:=((w11.setCell ⟨go10,(x4_1 : Int).toNat * 2,none⟩ (.int .i64 t538)).setCell ⟨go10,(x4_1 : Int).toNat * 2 + 1,none⟩ (.string t539))) ?hg ?ho ?hn ?hr ?_;(case ho=>rfl);(case hg=>rfl);(case hn=>rfl);(case hr=>first | (go_simp;done) | (go_simp;rfl));intro w13 hw;have hg : w11.grownBy w13 (some go10):=(by rw [hw];exact HP12.2);have hp_ : Kd.R k101 101 w13 w.heap.size (fun _=>True) (.slice (some ⟨go10,0,none⟩) x3_1.length co10) y540:=(by rw [hw,Ny540.out];exact HP12.1);clear HP12;have n0_:=zMk (hp_);have n1_:=zMk ((by rw [hw];exact below_set (below_set (HB.out) GB10.out) GB10.out : Below w.heap.size w w13));clear HO_3;clear HB;have HO_3:=n0_;have HB:=n1_;clear n0_ n1_;clear hg hw hp_));go_roundg k1;case measure=>have:=HK1.out;omega
        case rel=>exact ⟨(y540),(wrap64 (x4_1 + 1)),(by first | rfl | (simp;done) | (simp [*];done)),H',⟨by have:=HK1.out;omega⟩,⟨rs HO_3⟩,⟨hs HB⟩⟩
       rw [if_neg c9] at H;exact absurd H (by simp)
      rw [if_neg c7] at H;exact absurd H (by simp)
     rw [if_neg c6] at H;have c6b0 : decide (x4_1 < (l0.length : Int)) = false:=decide_eq_false c6;clear c6;obtain rfl:=Option.some.inj H
     go_wp2
     go_ret
     exact ⟨_,by first | rfl | (simp [errW_none,errW_some] <;> rfl) | (simp [*,errW_none,errW_some] <;> rfl),rs HO_3,hs HB⟩
  rw [if_neg c3] at H;exact absurd H (by simp)
 rw [if_neg c2] at H;exact absurd H (by simp)
def laws_toBlock.f (k : Nat) (a0_0 : Bool) (a0_1 : Int) (l0_2 : List (S176)) : Option (Bool × Int × (List (S101))):=(laws_toLeafS.f k l0_2).bind fun t544=>(some (a0_0,a0_1,t544))
theorem laws_toBlock.mono : ∀ a0 a1 a2 k,LeO (laws_toBlock.f k a0 a1 a2) (laws_toBlock.f (k + 1) a0 a1 a2):=by
 intro a0 a1 a2 k;unfold laws_toBlock.f
 repeat' first
   | (with_reducible exact laws_toLeafS.mono _ _)
   | (with_reducible exact LeO.refl _)
   | (with_reducible exact LeO.none _)
   | (with_reducible refine LeO.ite ?_ ?_)
   | (with_reducible refine LeO.bind ?_ (fun _=>?_))
   | exact laws_toLeafS.mono _ _
   | exact LeO.none _
   | refine LeO.ite ?_ ?_
   | refine LeO.bind ?_ (fun _=>?_)
set_option maxHeartbeats 8000000 in
set_option maxRecDepth 100000 in
theorem laws_toBlock.calls (k : Nat) (a0_0 : Bool) (a0_1 : Int) (A0_2 : Option Addr) (c0_2 : Nat) (l0_2 : List (S176)) (r1 : Bool) (r2 : Int) (r3 : List (S101)) (w : World) (hr0_2 : Kd.C k176 w A0_2 l0_2.length l0_2) (hc0_2 : l0_2.length ≤ c0_2) (h : laws_toBlock.f k a0_0 a0_1 l0_2 = some (r1,r2,r3)) :
  Calls Try.prog 88 #[.agg #[.bool a0_0,.int .i64 a0_1,.slice A0_2 l0_2.length c0_2]] w fun e w'=>∃ v2_ : Value,e = .returned (.agg #[.bool r1,.int .i64 r2,v2_]) ∧ Kd.R k101 101 w' w.heap.size (fun _=>True) v2_ r3 ∧ Below w.heap.size w w':=by
 have hu129:=Try.underlying129;have hu83:=Try.underlying83;have HR0_2:=zMk hr0_2;have HC0_2:=zMk hc0_2;clear hr0_2 hc0_2;have HB:=zMk (Below.refl w.heap.size w);have H : ((laws_toLeafS.f k l0_2).bind fun t544=>(some (a0_0,a0_1,t544))) = some (r1,r2,r3):=h;clear h;replace H:=Option.bind_eq_some_iff.mp H;obtain ⟨t544,A20,H⟩:=H;replace H : (some (a0_0,a0_1,t544)) = some (r1,r2,r3):=H;have A2:=zMk A20;clear A20;simp only [Option.some.injEq,Prod.mk.injEq] at H;obtain ⟨rfl,rfl,rfl⟩:=H
 go_enter Try.func88,Try.ntmps88
 go_wp2_with (first | ((with_reducible refine gate_dst (N:=1) rfl ?_);refine box_event ?hg (N:=1) ?hd (cs:=#[.bool a0_0,.int .i64 a0_1,.slice A0_2 l0_2.length c0_2]) (t:=129) ?hr ?_;(case hd=>rfl);(case hg=>rfl);(case hr=>first | (go_simp;done) | (go_simp;rfl));intro gb541 hg w3 hbox hb;have n0_:=zMk (below_step (hs HB) hb);have n1_:=zMk (hbox);have n2_:=zMk ((by rw [hg];exact (below_size (hs HB)) : w.heap.size ≤ gb541));have n3_:=zMk ((by rw [hg];exact (below_size (hs HB)) : w.heap.size ≤ gb541));clear HB;have HB:=n0_;have BK541:=n1_;have GW541:=n2_;have GE541:=n3_;clear n0_ n1_ n2_ n3_;clear hb hbox hg) | ((with_reducible refine gate_dst (N:=2) rfl ?_);refine box_event ?hg (N:=2) ?hd (cs:=#[.bool false,.int .i64 0,.slice none 0 0]) (t:=83) ?hr ?_;(case hd=>rfl);(case hg=>rfl);(case hr=>first | (go_simp;done) | (go_simp;rfl));intro gb542 hg w4 hbox hb;have n0_:=zMk (blk_below (g:=gb541) (o:=.cells #[.bool a0_0,.int .i64 a0_1,.slice A0_2 l0_2.length c0_2] 129 (0,0)) (bs BK541) hb);have n1_:=zMk (below_step (hs1 HB GE541) hb);have n2_:=zMk (hbox);have n3_:=zMk ((by rw [hg];exact (below_size (hs1 HB GE541)) : w.heap.size ≤ gb542));have n4_:=zMk ((by rw [hg];exact (below_size (hs1 HB GE541)) : w.heap.size ≤ gb542));have n5_:=zMk ((by rw [hg];exact Nat.ne_of_lt (blk_lt (g:=gb541) (o:=.cells #[.bool a0_0,.int .i64 a0_1,.slice A0_2 l0_2.length c0_2] 129 (0,0)) (bs BK541)) : gb541 ≠ gb542));have n6_:=zMk ((by rw [hg];exact Nat.ne_of_gt (blk_lt (g:=gb541) (o:=.cells #[.bool a0_0,.int .i64 a0_1,.slice A0_2 l0_2.length c0_2] 129 (0,0)) (bs BK541)) : gb542 ≠ gb541));clear BK541;clear HB;have BK541:=n0_;have HB:=n1_;have BK542:=n2_;have GW542:=n3_;have GE542:=n4_;have NB541_542:=n5_;have NB542_541:=n6_;clear n0_ n1_ n2_ n3_ n4_ n5_ n6_;clear hb hbox hg) | ((with_reducible refine gate_dst (N:=3) rfl ?_);refine box_event ?hg (N:=3) ?hd (cs:=#[.bool false,.int .i64 0,.slice none 0 0]) (t:=83) ?hr ?_;(case hd=>rfl);(case hg=>rfl);(case hr=>first | (go_simp;done) | (go_simp;rfl));intro gb543 hg w5 hbox hb;have n0_:=zMk (blk_below (g:=gb541) (o:=.cells #[.bool a0_0,.int .i64 a0_1,.slice A0_2 l0_2.length c0_2] 129 (0,0)) (bs BK541) hb);have n1_:=zMk (blk_below (g:=gb542) (o:=.cells #[.bool false,.int .i64 0,.slice none 0 0] 83 (0,0)) (bs BK542) hb);have n2_:=zMk (below_step (hs2 HB GE541 GE542) hb);have n3_:=zMk (hbox);have n4_:=zMk ((by rw [hg];exact (below_size (hs2 HB GE541 GE542)) : w.heap.size ≤ gb543));have n5_:=zMk ((by rw [hg];exact (below_size (hs2 HB GE541 GE542)) : w.heap.size ≤ gb543));have n6_:=zMk ((by rw [hg];exact Nat.ne_of_lt (blk_lt (g:=gb541) (o:=.cells #[.bool a0_0,.int .i64 a0_1,.slice A0_2 l0_2.length c0_2] 129 (0,0)) (bs BK541)) : gb541 ≠ gb543));have n7_:=zMk ((by rw [hg];exact Nat.ne_of_gt (blk_lt (g:=gb541) (o:=.cells #[.bool a0_0,.int .i64 a0_1,.slice A0_2 l0_2.length c0_2] 129 (0,0)) (bs BK541)) : gb543 ≠ gb541));have n8_:=zMk ((by rw [hg];exact Nat.ne_of_lt (blk_lt (g:=gb542) (o:=.cells #[.bool false,.int .i64 0,.slice none 0 0] 83 (0,0)) (bs BK542)) : gb542 ≠ gb543));have n9_:=zMk ((by rw [hg];exact Nat.ne_of_gt (blk_lt (g:=gb542) (o:=.cells #[.bool false,.int .i64 0,.slice none 0 0] 83 (0,0)) (bs BK542)) : gb543 ≠ gb542));clear BK541;clear BK542;clear HB;have BK541:=n0_;have BK542:=n1_;have HB:=n2_;have BK543:=n3_;have GW543:=n4_;have GE543:=n5_;have NB541_543:=n6_;have NB543_541:=n7_;have NB542_543:=n8_;have NB543_542:=n9_;clear n0_ n1_ n2_ n3_ n4_ n5_ n6_ n7_ n8_ n9_;clear hb hbox hg;have hnb6:=NB541_542.out;have hnc6:=NB542_541.out;have hnb7:=NB541_543.out;have hnc7:=NB543_541.out;have hcz8_0 : w5.cell? ⟨gb541,0,none⟩ = some (.bool a0_0):=(zCl BK541.out 0).trans rfl;have hcz8_1 : w5.cell? ⟨gb541,1,none⟩ = some (.int .i64 a0_1):=(zCl BK541.out 1).trans rfl;have hcz8_2 : w5.cell? ⟨gb541,2,none⟩ = some (.slice A0_2 l0_2.length c0_2):=(zCl BK541.out 2).trans rfl;have hfz8_0:=zFr BK541.out 0;have hfz8_1:=zFr BK541.out 1;have hfz8_2:=zFr BK541.out 2;have hnb9:=NB543_542.out;have hnc9:=NB542_543.out;have hcz10_0 : w5.cell? ⟨gb543,0,none⟩ = some (.bool false):=(zCl BK543.out 0).trans rfl;have hcz10_1 : w5.cell? ⟨gb543,1,none⟩ = some (.int .i64 0):=(zCl BK543.out 1).trans rfl;have hcz10_2 : w5.cell? ⟨gb543,2,none⟩ = some (.slice none 0 0):=(zCl BK543.out 2).trans rfl;have hfz10_0:=zFr BK543.out 0;have hfz10_1:=zFr BK543.out 1;have hfz10_2:=zFr BK543.out 2) | ((with_reducible refine gate_callee (f:=110) rfl ?_);refine goesL_ (some 12) rfl rfl Try.func110 (by kernel_rfl) rfl #[.slice A0_2 l0_2.length c0_2] rfl (by (try simp only [List.map_toArray,List.map_cons,List.map_nil]);first | done | rfl | (simp only [List.length_drop,List.length_take];rfl)) ?_;(with_reducible refine (laws_toLeafS.calls k _ _ l0_2 t544 _ ?side1 ?side2 A2.out).mono ?_);(case side1=>exact Kd.C_below HR0_2.out (hs3 HB GE541 GE542 GE543));(case side2=>exact HC0_2.out);rintro e w11 ⟨v545,rfl,ho0,hb⟩;refine ⟨_,rfl,?_⟩;have n0_:=zMk (Kd.R_lower ho0 (below_size (hs3 HB GE541 GE542 GE543)));have n1_:=zMk (blk_below (g:=gb541) (o:=.cells #[.bool a0_0,.int .i64 a0_1,.slice A0_2 l0_2.length c0_2] 129 (0,0)) (by (with_reducible repeat (first | refine blk_drewN ?_ _ | refine blk_drew ?_ | refine blk_alloc ?_ _));refine blk_far ?_ NB541_543.out _;(with_reducible repeat (first | refine blk_drewN ?_ _ | refine blk_drew ?_ | refine blk_alloc ?_ _));refine blk_far ?_ NB541_543.out _;(with_reducible repeat (first | refine blk_drewN ?_ _ | refine blk_drew ?_ | refine blk_alloc ?_ _));exact BK541.out) hb);have n2_:=zMk (blk_below (g:=gb542) (o:=.cells #[.bool false,.int .i64 0,.slice none 0 0] 83 (0,0)) (by (with_reducible repeat (first | refine blk_drewN ?_ _ | refine blk_drew ?_ | refine blk_alloc ?_ _));refine blk_far ?_ NB542_543.out _;(with_reducible repeat (first | refine blk_drewN ?_ _ | refine blk_drew ?_ | refine blk_alloc ?_ _));refine blk_far ?_ NB542_543.out _;(with_reducible repeat (first | refine blk_drewN ?_ _ | refine blk_drew ?_ | refine blk_alloc ?_ _));exact BK542.out) hb);have n3_:=zMk (blk_below (g:=gb543) (o:=.cells #[.bool a0_0,.int .i64 a0_1,.slice none 0 0] 83 (0,0)) (by (with_reducible repeat (first | refine blk_drewN ?_ _ | refine blk_drew ?_ | refine blk_alloc ?_ _));refine blk_put (cs:=#[.bool a0_0,.int .i64 0,.slice none 0 0]) ?_ 1 _ rfl;(with_reducible repeat (first | refine blk_drewN ?_ _ | refine blk_drew ?_ | refine blk_alloc ?_ _));refine blk_put (cs:=#[.bool false,.int .i64 0,.slice none 0 0]) ?_ 0 _ rfl;(with_reducible repeat (first | refine blk_drewN ?_ _ | refine blk_drew ?_ | refine blk_alloc ?_ _));exact BK543.out) hb);have n4_:=zMk (below_step (hs3 HB GE541 GE542 GE543) hb);clear BK541;clear BK542;clear BK543;clear HB;have HO546:=n0_;have BK541:=n1_;have BK542:=n2_;have BK543:=n3_;have HB:=n4_;clear n0_ n1_ n2_ n3_ n4_;(try clear hb);(try clear hb2);(try clear hk);(try clear hi);(try clear ho0);obtain ⟨Ao12,co12,eo12⟩:=Kd.R_slice HO546.out;subst eo12;have hcz13_0 : w11.cell? ⟨gb543,0,none⟩ = some (.bool a0_0):=(zCl BK543.out 0).trans rfl;have hcz13_1 : w11.cell? ⟨gb543,1,none⟩ = some (.int .i64 a0_1):=(zCl BK543.out 1).trans rfl;have hcz13_2 : w11.cell? ⟨gb543,2,none⟩ = some (.slice none 0 0):=(zCl BK543.out 2).trans rfl;have hfz13_0:=zFr BK543.out 0;have hfz13_1:=zFr BK543.out 1;have hfz13_2:=zFr BK543.out 2;have hcz14_0 : w11.cell? ⟨gb542,0,none⟩ = some (.bool false):=(zCl BK542.out 0).trans rfl;have hcz14_1 : w11.cell? ⟨gb542,1,none⟩ = some (.int .i64 0):=(zCl BK542.out 1).trans rfl;have hcz14_2 : w11.cell? ⟨gb542,2,none⟩ = some (.slice none 0 0):=(zCl BK542.out 2).trans rfl;have hfz14_0:=zFr BK542.out 0;have hfz14_1:=zFr BK542.out 1;have hfz14_2:=zFr BK542.out 2));refine bodyPost_ret (results_cell_row rfl _ _ gb542 83 #[.bool a0_0,.int .i64 a0_1,.slice Ao12 t544.length co12] (0,0) _ rfl (by (with_reducible repeat (first | refine blk_drewN ?_ _ | refine blk_drew ?_ | refine blk_alloc ?_ _));refine blk_put (cs:=#[.bool a0_0,.int .i64 a0_1,.slice none 0 0]) ?_ 2 _ rfl;(with_reducible repeat (first | refine blk_drewN ?_ _ | refine blk_drew ?_ | refine blk_alloc ?_ _));refine blk_put (cs:=#[.bool a0_0,.int .i64 0,.slice none 0 0]) ?_ 1 _ rfl;(with_reducible repeat (first | refine blk_drewN ?_ _ | refine blk_drew ?_ | refine blk_alloc ?_ _));refine blk_put (cs:=#[.bool false,.int .i64 0,.slice none 0 0]) ?_ 0 _ rfl;(with_reducible repeat (first | refine blk_drewN ?_ _ | refine blk_drew ?_ | refine blk_alloc ?_ _));refine blk_far ?_ NB542_543.out _;(with_reducible repeat (first | refine blk_drewN ?_ _ | refine blk_drew ?_ | refine blk_alloc ?_ _));exact BK542.out) Try.underlying83 rfl (by kernel_rfl)) rfl ?_;exact ⟨_,by first | rfl | (simp [errW_none,errW_some] <;> rfl) | (simp [*,errW_none,errW_some] <;> rfl),by (with_reducible repeat (first | apply Kd.R_alloc | apply Kd.R_drewN | apply Kd.R_drew));exact Kd.R_mono (Kd.R_far (p:=⟨gb542,2,none⟩) (Kd.R_far (p:=⟨gb542,1,none⟩) (Kd.R_far (p:=⟨gb542,0,none⟩) (Kd.R_far (p:=⟨gb543,2,none⟩) (Kd.R_types (Kd.R_types HO546.out BK543.out (by decide)) BK542.out (by decide)) (fun _ hk=>hk.1.2) (.slice Ao12 t544.length co12)) (fun _ hk=>hk.2) (.bool a0_0)) (fun _ hk=>hk.2) (.int .i64 a0_1)) (fun _ hk=>hk.2) (.slice Ao12 t544.length co12)) (fun _ hk=>trivial),hs3 HB GE541 GE542 GE543⟩
def laws_toBlockS.l0 : Nat → List (S129) → List (S83) → Int → Option ((List (S83)))
 | 0,_,_,_=>none
 | k + 1,x0,x3,x4=>if x4 < (x0.length : Int) then (if 0 ≤ x4 then ((laws_toBlock.f k ((rd_T129 x0 x4).f0) ((rd_T129 x0 x4).f1) ((rd_T129 x0 x4).f2)).bind fun bt551=>(if x4 < (x3.length : Int) then (laws_toBlockS.l0 k x0 (x3.set (x4 : Int).toNat (⟨bt551.1,bt551.2.1,bt551.2.2⟩ : S83)) (wrap64 (x4 + 1))) else (none))) else (none)) else (some x3)
def laws_toBlockS.f (k : Nat) (l0 : List (S129)) : Option ((List (S83))):=if 0 ≤ (l0.length : Int) then (if ((l0.length : Int) : Int).toNat ≤ 7036874417766 then (laws_toBlockS.l0 k l0 (List.replicate ((l0.length : Int) : Int).toNat z83) 0) else (none)) else (none)
theorem laws_toBlockS.mono_l : ∀ k,(∀ y0 y1 y2,LeO (laws_toBlockS.l0 k y0 y1 y2) (laws_toBlockS.l0 (k + 1) y0 y1 y2))
 | 0=>fun _ _ _ r h=>by simp [laws_toBlockS.l0] at h
 | k + 1=>by
  have ih0:=laws_toBlockS.mono_l k;intro y0 y1 y2;unfold laws_toBlockS.l0
  repeat' first
  | (with_reducible exact ih0 _ _ _)
  | (with_reducible exact laws_toBlock.mono _ _ _ _)
  | (with_reducible exact LeO.refl _)
  | (with_reducible exact LeO.none _)
  | (with_reducible refine LeO.ite ?_ ?_)
  | (with_reducible refine LeO.bind ?_ (fun _=>?_))
  | exact ih0 _ _ _
  | exact laws_toBlock.mono _ _ _ _
  | exact LeO.none _
  | refine LeO.ite ?_ ?_
  | refine LeO.bind ?_ (fun _=>?_)
theorem laws_toBlockS.mono : ∀ a0 k,LeO (laws_toBlockS.f k a0) (laws_toBlockS.f (k + 1) a0):=by
 intro a0 k;have ih0:=laws_toBlockS.mono_l k;unfold laws_toBlockS.f
 repeat' first
   | (with_reducible exact ih0 _ _ _)
   | (with_reducible exact laws_toBlock.mono _ _ _ _)
   | (with_reducible exact LeO.refl _)
   | (with_reducible exact LeO.none _)
   | (with_reducible refine LeO.ite ?_ ?_)
   | (with_reducible refine LeO.bind ?_ (fun _=>?_))
   | exact ih0 _ _ _
   | exact laws_toBlock.mono _ _ _ _
   | exact LeO.none _
   | refine LeO.ite ?_ ?_
   | refine LeO.bind ?_ (fun _=>?_)
set_option maxHeartbeats 8000000 in
set_option maxRecDepth 100000 in
theorem laws_toBlockS.calls (k : Nat) (A0 : Option Addr) (c0 : Nat) (l0 : List (S129)) (r : List (S83)) (w : World) (hr0 : Kd.C k129 w A0 l0.length l0) (hc0 : l0.length ≤ c0) (h : laws_toBlockS.f k l0 = some r) :
  Calls Try.prog 57 #[.slice A0 l0.length c0] w fun e w'=>∃ v0_ : Value,e = .returned (v0_) ∧ Kd.S k83 83 w' w.heap.size (fun _=>True) v0_ r ∧ Below w.heap.size w w':=by
 have hu129:=Try.underlying129;have hu83:=Try.underlying83;have HR0:=zMk hr0;have HC0:=zMk hc0;clear hr0 hc0;have HB:=zMk (Below.refl w.heap.size w);have H : (if 0 ≤ (l0.length : Int) then (if ((l0.length : Int) : Int).toNat ≤ 7036874417766 then (laws_toBlockS.l0 k l0 (List.replicate ((l0.length : Int) : Int).toNat z83) 0) else (none)) else (none)) = some r:=h;clear h
 by_cases c2 : 0 ≤ (l0.length : Int)
 ·rw [if_pos c2] at H;have c2b0:=eq_true c2;have c2b1 : decide (0 ≤ (l0.length : Int)) = true:=decide_eq_true c2;clear c2
  by_cases c3 : ((l0.length : Int) : Int).toNat ≤ 7036874417766
  ·rw [if_pos c3] at H;have c3b0:=eq_true c3;have c3b1 : decide (((l0.length : Int) : Int).toNat ≤ 7036874417766) = true:=decide_eq_true c3;clear c3;obtain ⟨y547,hy547⟩ : ∃ y_ : List (S83),y_ = (List.replicate ((l0.length : Int) : Int).toNat z83):=⟨_,rfl⟩;replace H : (laws_toBlockS.l0 k l0 y547 0) = some r:=by first | (rw [hy547];with_reducible exact H) | (have H2_:=(Option.bind_some _ _).symm.trans H;rw [hy547];with_reducible exact H2_) | (have H2_:=(Option.bind_some _ _).symm.trans H;with_reducible exact H2_) | with_reducible exact H | (rw [hy547];exact H) | exact H
   have Ny547:=zMk hy547;clear hy547;have H':=zMk H;clear H
   go_enter Try.func57,Try.ntmps57
   go_wp2_with (first | ((with_reducible refine gate_dst (N:=7) rfl ?_);refine Kd.S_make k83 _ 83 rfl (N:=7) rfl 50 _ _ rfl (l0.length : Int) rfl rfl Try.underlying50 (.agg #[(.bool false),(.int .i64 0),(.slice none 0 0)]) 40 info83 rfl (by decide) (by omega) z83 (ok:=fun _=>True) (okp:=fun _=>True) (k83_mkM _ _ _ z83 (Kd.R_nil _ _ _ _ _)) (fun _ hk=>hk) trivial (zDe (by first | (with_reducible assumption) | assumption)) (Nat.le_trans (Nat.mul_le_mul_right _ (zDe (by first | (with_reducible assumption) | assumption) : (l0.length : Int).toNat ≤ 7036874417766)) (by omega)) (Below.refl _ _) (Nat.le_refl _) ?_;intro v548 w4 ho5 hb hg_ hnew_;clear hg_ hnew_;(first | rw [← Ny547.out] at ho5 | (simp only [Int.reduceToNat] at ho5;rw [← Ny547.out] at ho5));have n0_:=zMk (Kd.S_lower ho5 (below_size (hs HB)));have n1_:=zMk (below_step (hs HB) hb);clear HB;have HO549:=n0_;have HB:=n1_;clear n0_ n1_;clear hb ho5));go_loopg [4] k (fun kq v4 w'=>∃ (x3_1 : List (S83)) (x4_1 : Int),v4 = .int .i64 x4_1 ∧ Aside0 (laws_toBlockS.l0 kq l0 x3_1 x4_1 = some r) ∧ Aside0 (kq ≤ k) ∧ Aside0 (Kd.S k83 83 w' w.heap.size (fun _=>True) v548 x3_1) ∧ Aside0 (Below w.heap.size w w'));case atStart=>exact ⟨(y547),(0),(by first | rfl | (simp;done) | (simp [*];done)),H',⟨Nat.le_refl _⟩,⟨ss HO549⟩,⟨hs HB⟩⟩
   case round =>
    clear H'
    try clear c2
    try clear c2b0
    try clear c2b1
    try clear p2
    try clear c3
    try clear c3b0
    try clear c3b1
    try clear c5
    obtain ⟨x3_1,x4_1,rfl,HA,HK1,HO_3,HB⟩:=hrel;cases gk with
    | zero=>exact absurd HA.out (by simp [laws_toBlockS.l0])
    | succ k1 =>
     have H:=HA.out;clear HA;simp only [laws_toBlockS.l0] at H
     by_cases c6 : x4_1 < (l0.length : Int)
     ·rw [if_pos c6] at H;have c6b0 : decide (x4_1 < (l0.length : Int)) = true:=decide_eq_true c6;clear c6
      by_cases c7 : 0 ≤ x4_1
      ·rw [if_pos c7] at H;have c7b0 : decide (0 ≤ x4_1) = true:=decide_eq_true c7;clear c7;replace H:=Option.bind_eq_some_iff.mp H;obtain ⟨⟨t551,t552,t553⟩,A80,H⟩:=H;replace H : (if x4_1 < (x3_1.length : Int) then (laws_toBlockS.l0 k1 l0 (x3_1.set (x4_1 : Int).toNat (⟨t551,t552,t553⟩ : S83)) (wrap64 (x4_1 + 1))) else (none)) = some r:=H;have A8:=zMk A80;clear A80
       by_cases c9 : x4_1 < (x3_1.length : Int)
       ·rw [if_pos c9] at H;have c9b0 : decide (x4_1 < (x3_1.length : Int)) = true:=decide_eq_true c9;clear c9;obtain ⟨y556,hy556⟩ : ∃ y_ : List (S83),y_ = (x3_1.set (x4_1 : Int).toNat (⟨t551,t552,t553⟩ : S83)):=⟨_,rfl⟩;replace H : (laws_toBlockS.l0 k1 l0 y556 (wrap64 (x4_1 + 1))) = some r:=by first | (rw [hy556];with_reducible exact H) | (have H2_:=(Option.bind_some _ _).symm.trans H;rw [hy556];with_reducible exact H2_) | (have H2_:=(Option.bind_some _ _).symm.trans H;with_reducible exact H2_) | with_reducible exact H | (rw [hy556];exact H) | exact H
        have Ny556:=zMk hy556;clear hy556;have H':=zMk H;clear H;have p550 : 0 ≤ (x4_1 : Int):=zDe (by first | (with_reducible assumption) | assumption);have q550 : x4_1 < (l0.length : Int):=zDe (by first | (with_reducible assumption) | assumption);obtain ⟨ad550,A550_2,c550_2,e550,hx550_0,hx550_1,hx550_2,hl550_2,hi550_2⟩:=at_T129 HR0.out x4_1 p550 q550;cases e550;replace hx550_0:=(HB.out.cell (zBl w _ hx550_0)).trans hx550_0;replace hx550_1:=(HB.out.cell (zBl w _ hx550_1)).trans hx550_1;replace hx550_2:=(HB.out.cell (zBl w _ hx550_2)).trans hx550_2;have HR550_2:=zMk hi550_2;have HC550_2:=zMk hl550_2;clear hi550_2 hl550_2;replace p550:=eq_true p550;replace q550:=eq_true q550;go_wp2_with (first | ((with_reducible refine gate_callee (f:=88) rfl ?_);refine goesL_ (some 20) rfl rfl Try.func88 (by kernel_rfl) rfl #[.agg #[.bool ((rd_T129 l0 x4_1).f0),.int .i64 ((rd_T129 l0 x4_1).f1),.slice A550_2 ((rd_T129 l0 x4_1).f2).length c550_2]] rfl (by (try simp only [List.map_toArray,List.map_cons,List.map_nil]);first | done | rfl | (simp only [List.length_drop,List.length_take];rfl)) ?_;(with_reducible refine (laws_toBlock.calls k1 ((rd_T129 l0 x4_1).f0) ((rd_T129 l0 x4_1).f1) _ _ ((rd_T129 l0 x4_1).f2) t551 t552 t553 _ ?side1 ?side2 A8.out).mono ?_);(case side1=>repeat (first | exact (Kd.C_below HR550_2.out HB.out) | (with_reducible refine Kd.C_alloc ?_ _) | (with_reducible refine Kd.C_drewN ?_ _) | (with_reducible refine Kd.C_drew ?_)));(case side2=>exact HC550_2.out);rintro e w11 ⟨v554,rfl,ho0,hb⟩;refine ⟨_,rfl,?_⟩;have n0_:=zMk (Kd.S_elder' (ss HO_3) (Kd.R_base ho0) hb);have n1_:=zMk (Kd.R_lower ho0 (below_size (hs HB)));have n2_:=zMk (below_step (hs HB) hb);clear HO_3;clear HB;have HO_3:=n0_;have HO555:=n1_;have HB:=n2_;clear n0_ n1_ n2_;(try clear hb);(try clear hb2);(try clear hk);(try clear hi);(try clear ho0);have p10 : 0 ≤ (x4_1 : Int):=zDe (by first | (with_reducible assumption) | assumption);have q10 : (x4_1 : Int) < ((x3_1.length : Int) : Int):=zDe (by first | (with_reducible assumption) | assumption);obtain ⟨go10,co10,eo10,gb10,gl10,cl10,HG10⟩:=Kd.S_form HO_3.out (by omega);(first | cases eo10 | (injection eo10 with ea_ en_ ec_;(first | subst ea_ | (injection ea_ with ea_;subst ea_));subst ec_;clear en_));have GB10:=zMk gb10;have GG10:=zMk HG10;clear gb10 gl10 HG10;obtain ⟨_,ce10,hcl10,hM10,hcc10,hfr10,_,_⟩:=Kd.S_elem HO_3.out z83 (x4_1 : Int) p10 q10;obtain ⟨ve10_2,rfl,ge10_2⟩:=k83_openM hM10;have hx10_0 : w11.cell? ⟨go10,(x4_1 : Int).toNat * 3,none⟩ = some (.bool ((rd_T83 x3_1 x4_1).f0)):=hcc10 0 _ rfl;have hx10_1 : w11.cell? ⟨go10,(x4_1 : Int).toNat * 3 + 1,none⟩ = some (.int .i64 ((rd_T83 x3_1 x4_1).f1)):=hcc10 1 _ rfl;have hx10_2 : w11.cell? ⟨go10,(x4_1 : Int).toNat * 3 + 2,none⟩ = some (ve10_2):=hcc10 2 _ rfl;have hf10_0 : w11.frozen? ⟨go10,(x4_1 : Int).toNat * 3,none⟩ = false:=hfr10 0;have hf10_1 : w11.frozen? ⟨go10,(x4_1 : Int).toNat * 3 + 1,none⟩ = false:=hfr10 1;have hf10_2 : w11.frozen? ⟨go10,(x4_1 : Int).toNat * 3 + 2,none⟩ = false:=hfr10 2;clear hcl10 hcc10 hfr10 hM10;replace p10:=eq_true p10;replace q10:=eq_true q10;have n_:=zMk (Kd.S_mono (ok':=(fun k_=>some k_ ≠ (v554 : Value).ownBlock)) HO_3.out (fun k_ hk=>hk.2));clear HO_3;have HO_3:=n_;clear n_;have HX12:=zMk (show Kd.S k83 83 w11 w.heap.size (fun k_=>((fun _=>True)) k_ ∧ ¬ ((fun k_=>some k_ = (v554 : Value).ownBlock)) k_) (.slice (some ⟨go10,0,none⟩) x3_1.length co10) x3_1 from (by (with_reducible repeat (first | apply Kd.S_alloc | apply Kd.S_drewN | apply Kd.S_drew));exact Kd.S_mono HO_3.out (fun k_ hk=>⟨trivial,fun e_=>hk e_⟩)));obtain ⟨oki12,ce12,hcl12,hM12,hcc12,hfr12,hoki12,hH12⟩:=Kd.S_elem HX12.out z83 (x4_1 : Int) (zDe (by first | (with_reducible assumption) | assumption)) (by have h_ : (x4_1 : Int) < ((x3_1.length : Int) : Int):=zDe (by first | (with_reducible assumption) | assumption);first | exact h_ | (have e_:=(Kd.S_reads' HO_3.out).1;omega) | simpa using h_);obtain ⟨ve12_2,rfl,ge12_2⟩:=k83_openM hM12;have HP12:=Kd.S_seg hH12 (zDe (by first | (with_reducible assumption) | assumption)) (by have h_ : (x4_1 : Int) < ((x3_1.length : Int) : Int):=zDe (by first | (with_reducible assumption) | assumption);first | exact h_ | (have e_:=(Kd.S_reads' HO_3.out).1;omega) | simpa using h_) (seg:=[.bool t551,.int .i64 t552,v554]) (j:=0) (show 3 ≤ 3 from by decide) (x':=(⟨t551,t552,t553⟩ : S83)) (k83_mkM _ _ _ (⟨t551,t552,t553⟩ : S83) (Kd.R_mono (Kd.R_tight rfl (Kd.R_mono (ok':=fun k_=>((fun _=>True)) k_ ∧ k_ ≠ go10) (Kd.R_apart' (HO555.out) (Kd.S_typed HO_3.out) (by decide)) (fun k_ hk=>⟨trivial,fun e_=>(hk.2) (by rw [e_];rfl)⟩))) (fun _ h_=>Or.inr (h_)))) (fun _ hk=>hk) (fun k_ hk_=>((Kd.R_mono (ok':=fun k_=>((fun _=>True)) k_ ∧ k_ ≠ go10) (Kd.R_apart' (HO555.out) (Kd.S_typed HO_3.out) (by decide)) (fun k_ hk=>⟨trivial,fun e_=>(hk.2) (by rw [e_];rfl)⟩))).1 k_ hk_.symm);have hx12_0:=hcc12 0 _ rfl;(try simp only [show (k83).sz = 3 from rfl,Nat.mul_one,Nat.add_zero] at hx12_0);have hf12_0:=hfr12 0;(try simp only [show (k83).sz = 3 from rfl,Nat.mul_one,Nat.add_zero] at hf12_0);have hx12_1:=hcc12 1 _ rfl;(try simp only [show (k83).sz = 3 from rfl,Nat.mul_one,Nat.add_zero] at hx12_1);have hf12_1:=hfr12 1;(try simp only [show (k83).sz = 3 from rfl,Nat.mul_one,Nat.add_zero] at hf12_1);have hx12_2:=hcc12 2 _ rfl;(try simp only [show (k83).sz = 3 from rfl,Nat.mul_one,Nat.add_zero] at hx12_2);have hf12_2:=hfr12 2;(try simp only [show (k83).sz = 3 from rfl,Nat.mul_one,Nat.add_zero] at hf12_2);clear hcl12 hcc12 hfr12 hM12 hoki12 hH12;have hst12_2:=fun (W_ : World) (a_ : Addr) (m_ : Mode)=>run_store Try.prog W_ a_ v554 m_ (Kd.R_val HO555.out).2) | ((with_reducible refine gate_store (t:=83) (p:=21) rfl ?_);refine store_event (t:=83) (p:=21) (v:=?vo_w13) (w1:=(((w11.setCell ⟨go10,(x4_1 : Int).toNat * 3,none⟩ (.bool t551)).setCell ⟨go10,(x4_1 : Int).toNat * 3 + 1,none⟩ (.int .i64 t552)).setCell ⟨go10,(x4_1 : Int).toNat * 3 + 2,none⟩ (v554))) ?hg ?ho ?hn ?hr ?_;(case ho=>rfl);(case hg=>rfl);(case hn=>rfl);(case hr=>first | (go_simp;done) | (go_simp;rfl));intro w13 hw;have hg : w11.grownBy w13 (some go10):=(by rw [hw];exact HP12.2);have hp_ : Kd.S k83 83 w13 w.heap.size (fun _=>True) (.slice (some ⟨go10,0,none⟩) x3_1.length co10) y556:=(by rw [hw,Ny556.out];exact HP12.1);clear HP12;have n0_:=zMk (hp_);have n1_:=zMk ((by rw [hw];exact below_set (below_set (below_set (HB.out) GB10.out) GB10.out) GB10.out : Below w.heap.size w w13));clear HO_3;clear HB;clear HO555;have HO_3:=n0_;have HB:=n1_;clear n0_ n1_;clear hg hw hp_ hst12_2));go_roundg k1;case measure=>have:=HK1.out;omega
        case rel=>exact ⟨(y556),(wrap64 (x4_1 + 1)),(by first | rfl | (simp;done) | (simp [*];done)),H',⟨by have:=HK1.out;omega⟩,⟨ss HO_3⟩,⟨hs HB⟩⟩
       rw [if_neg c9] at H;exact absurd H (by simp)
      rw [if_neg c7] at H;exact absurd H (by simp)
     rw [if_neg c6] at H;have c6b0 : decide (x4_1 < (l0.length : Int)) = false:=decide_eq_false c6;clear c6;obtain rfl:=Option.some.inj H
     go_wp2
     go_ret
     exact ⟨_,by first | rfl | (simp [errW_none,errW_some] <;> rfl) | (simp [*,errW_none,errW_some] <;> rfl),ss HO_3,hs HB⟩
  rw [if_neg c3] at H;exact absurd H (by simp)
 rw [if_neg c2] at H;exact absurd H (by simp)
def laws_toFlash.f (k : Nat) (l0_0 : List (S129)) : Option ((List (S83))):=(laws_toBlockS.f k l0_0).bind fun t560=>(some t560)
theorem laws_toFlash.mono : ∀ a0 k,LeO (laws_toFlash.f k a0) (laws_toFlash.f (k + 1) a0):=by
 intro a0 k;unfold laws_toFlash.f
 repeat' first
   | (with_reducible exact laws_toBlockS.mono _ _)
   | (with_reducible exact LeO.refl _)
   | (with_reducible exact LeO.none _)
   | (with_reducible refine LeO.ite ?_ ?_)
   | (with_reducible refine LeO.bind ?_ (fun _=>?_))
   | exact laws_toBlockS.mono _ _
   | exact LeO.none _
   | refine LeO.ite ?_ ?_
   | refine LeO.bind ?_ (fun _=>?_)
set_option maxHeartbeats 8000000 in
set_option maxRecDepth 100000 in
theorem laws_toFlash.calls (k : Nat) (A0_0 : Option Addr) (c0_0 : Nat) (l0_0 : List (S129)) (r : List (S83)) (w : World) (hr0_0 : Kd.C k129 w A0_0 l0_0.length l0_0) (hc0_0 : l0_0.length ≤ c0_0) (h : laws_toFlash.f k l0_0 = some r) :
  Calls Try.prog 20 #[.agg #[.slice A0_0 l0_0.length c0_0]] w fun e w'=>∃ v0_ : Value,e = .returned (.agg #[v0_]) ∧ Kd.S k83 83 w' w.heap.size (fun _=>True) v0_ r ∧ Below w.heap.size w w':=by
 have hu45:=Try.underlying45;have hu52:=Try.underlying52;have HR0_0:=zMk hr0_0;have HC0_0:=zMk hc0_0;clear hr0_0 hc0_0;have HB:=zMk (Below.refl w.heap.size w);have H : ((laws_toBlockS.f k l0_0).bind fun t560=>(some t560)) = some r:=h;clear h;replace H:=Option.bind_eq_some_iff.mp H;obtain ⟨t560,A20,H⟩:=H;replace H : (some t560) = some r:=H;have A2:=zMk A20;clear A20;obtain rfl:=Option.some.inj H
 go_enter Try.func20,Try.ntmps20
 go_wp2_with (first | ((with_reducible refine gate_dst (N:=1) rfl ?_);refine box_event ?hg (N:=1) ?hd (cs:=#[.slice A0_0 l0_0.length c0_0]) (t:=45) ?hr ?_;(case hd=>rfl);(case hg=>rfl);(case hr=>first | (go_simp;done) | (go_simp;rfl));intro gb557 hg w3 hbox hb;have n0_:=zMk (below_step (hs HB) hb);have n1_:=zMk (hbox);have n2_:=zMk ((by rw [hg];exact (below_size (hs HB)) : w.heap.size ≤ gb557));have n3_:=zMk ((by rw [hg];exact (below_size (hs HB)) : w.heap.size ≤ gb557));clear HB;have HB:=n0_;have BK557:=n1_;have GW557:=n2_;have GE557:=n3_;clear n0_ n1_ n2_ n3_;clear hb hbox hg) | ((with_reducible refine gate_dst (N:=2) rfl ?_);refine box_event ?hg (N:=2) ?hd (cs:=#[.slice none 0 0]) (t:=52) ?hr ?_;(case hd=>rfl);(case hg=>rfl);(case hr=>first | (go_simp;done) | (go_simp;rfl));intro gb558 hg w4 hbox hb;have n0_:=zMk (blk_below (g:=gb557) (o:=.cells #[.slice A0_0 l0_0.length c0_0] 45 (0,0)) (bs BK557) hb);have n1_:=zMk (below_step (hs1 HB GE557) hb);have n2_:=zMk (hbox);have n3_:=zMk ((by rw [hg];exact (below_size (hs1 HB GE557)) : w.heap.size ≤ gb558));have n4_:=zMk ((by rw [hg];exact (below_size (hs1 HB GE557)) : w.heap.size ≤ gb558));have n5_:=zMk ((by rw [hg];exact Nat.ne_of_lt (blk_lt (g:=gb557) (o:=.cells #[.slice A0_0 l0_0.length c0_0] 45 (0,0)) (bs BK557)) : gb557 ≠ gb558));have n6_:=zMk ((by rw [hg];exact Nat.ne_of_gt (blk_lt (g:=gb557) (o:=.cells #[.slice A0_0 l0_0.length c0_0] 45 (0,0)) (bs BK557)) : gb558 ≠ gb557));clear BK557;clear HB;have BK557:=n0_;have HB:=n1_;have BK558:=n2_;have GW558:=n3_;have GE558:=n4_;have NB557_558:=n5_;have NB558_557:=n6_;clear n0_ n1_ n2_ n3_ n4_ n5_ n6_;clear hb hbox hg) | ((with_reducible refine gate_dst (N:=3) rfl ?_);refine box_event ?hg (N:=3) ?hd (cs:=#[.slice none 0 0]) (t:=52) ?hr ?_;(case hd=>rfl);(case hg=>rfl);(case hr=>first | (go_simp;done) | (go_simp;rfl));intro gb559 hg w5 hbox hb;have n0_:=zMk (blk_below (g:=gb557) (o:=.cells #[.slice A0_0 l0_0.length c0_0] 45 (0,0)) (bs BK557) hb);have n1_:=zMk (blk_below (g:=gb558) (o:=.cells #[.slice none 0 0] 52 (0,0)) (bs BK558) hb);have n2_:=zMk (below_step (hs2 HB GE557 GE558) hb);have n3_:=zMk (hbox);have n4_:=zMk ((by rw [hg];exact (below_size (hs2 HB GE557 GE558)) : w.heap.size ≤ gb559));have n5_:=zMk ((by rw [hg];exact (below_size (hs2 HB GE557 GE558)) : w.heap.size ≤ gb559));have n6_:=zMk ((by rw [hg];exact Nat.ne_of_lt (blk_lt (g:=gb557) (o:=.cells #[.slice A0_0 l0_0.length c0_0] 45 (0,0)) (bs BK557)) : gb557 ≠ gb559));have n7_:=zMk ((by rw [hg];exact Nat.ne_of_gt (blk_lt (g:=gb557) (o:=.cells #[.slice A0_0 l0_0.length c0_0] 45 (0,0)) (bs BK557)) : gb559 ≠ gb557));have n8_:=zMk ((by rw [hg];exact Nat.ne_of_lt (blk_lt (g:=gb558) (o:=.cells #[.slice none 0 0] 52 (0,0)) (bs BK558)) : gb558 ≠ gb559));have n9_:=zMk ((by rw [hg];exact Nat.ne_of_gt (blk_lt (g:=gb558) (o:=.cells #[.slice none 0 0] 52 (0,0)) (bs BK558)) : gb559 ≠ gb558));clear BK557;clear BK558;clear HB;have BK557:=n0_;have BK558:=n1_;have HB:=n2_;have BK559:=n3_;have GW559:=n4_;have GE559:=n5_;have NB557_559:=n6_;have NB559_557:=n7_;have NB558_559:=n8_;have NB559_558:=n9_;clear n0_ n1_ n2_ n3_ n4_ n5_ n6_ n7_ n8_ n9_;clear hb hbox hg;have hnb6:=NB557_558.out;have hnc6:=NB558_557.out;have hnb7:=NB557_559.out;have hnc7:=NB559_557.out;have hcz8_0 : w5.cell? ⟨gb557,0,none⟩ = some (.slice A0_0 l0_0.length c0_0):=(zCl BK557.out 0).trans rfl;have hfz8_0:=zFr BK557.out 0) | ((with_reducible refine gate_callee (f:=57) rfl ?_);refine goesL_ (some 6) rfl rfl Try.func57 (by kernel_rfl) rfl #[.slice A0_0 l0_0.length c0_0] rfl (by (try simp only [List.map_toArray,List.map_cons,List.map_nil]);first | done | rfl | (simp only [List.length_drop,List.length_take];rfl)) ?_;(with_reducible refine (laws_toBlockS.calls k _ _ l0_0 t560 _ ?side1 ?side2 A2.out).mono ?_);(case side1=>repeat (first | exact (Kd.C_below HR0_0.out HB.out) | (with_reducible refine Kd.C_alloc ?_ _) | (with_reducible refine Kd.C_drewN ?_ _) | (with_reducible refine Kd.C_drew ?_)));(case side2=>exact HC0_0.out);rintro e w9 ⟨v561,rfl,ho0,hb⟩;refine ⟨_,rfl,?_⟩;have n0_:=zMk (Kd.S_lower ho0 (below_size (hs3 HB GE557 GE558 GE559)));have n1_:=zMk (blk_below (g:=gb557) (o:=.cells #[.slice A0_0 l0_0.length c0_0] 45 (0,0)) (bs BK557) hb);have n2_:=zMk (blk_below (g:=gb558) (o:=.cells #[.slice none 0 0] 52 (0,0)) (bs BK558) hb);have n3_:=zMk (blk_below (g:=gb559) (o:=.cells #[.slice none 0 0] 52 (0,0)) (bs BK559) hb);have n4_:=zMk (below_step (hs3 HB GE557 GE558 GE559) hb);clear BK557;clear BK558;clear BK559;clear HB;have HO562:=n0_;have BK557:=n1_;have BK558:=n2_;have BK559:=n3_;have HB:=n4_;clear n0_ n1_ n2_ n3_ n4_;(try clear hb);(try clear hb2);(try clear hk);(try clear hi);(try clear ho0);obtain ⟨Ao10,co10,eo10⟩:=Kd.S_slice HO562.out;subst eo10;have hnb11:=NB559_558.out;have hnc11:=NB558_559.out;have hcz12_0 : w9.cell? ⟨gb559,0,none⟩ = some (.slice none 0 0):=(zCl BK559.out 0).trans rfl;have hfz12_0:=zFr BK559.out 0;have hcz13_0 : w9.cell? ⟨gb558,0,none⟩ = some (.slice none 0 0):=(zCl BK558.out 0).trans rfl;have hfz13_0:=zFr BK558.out 0));refine bodyPost_ret (results_cell_row rfl _ _ gb558 52 #[.slice Ao10 t560.length co10] (0,0) _ rfl (by (with_reducible repeat (first | refine blk_drewN ?_ _ | refine blk_drew ?_ | refine blk_alloc ?_ _));refine blk_put (cs:=#[.slice none 0 0]) ?_ 0 _ rfl;(with_reducible repeat (first | refine blk_drewN ?_ _ | refine blk_drew ?_ | refine blk_alloc ?_ _));refine blk_far ?_ NB558_559.out _;(with_reducible repeat (first | refine blk_drewN ?_ _ | refine blk_drew ?_ | refine blk_alloc ?_ _));exact BK558.out) Try.underlying52 rfl (by kernel_rfl)) rfl ?_;exact ⟨_,by first | rfl | (simp [errW_none,errW_some] <;> rfl) | (simp [*,errW_none,errW_some] <;> rfl),by (with_reducible repeat (first | apply Kd.S_alloc | apply Kd.S_drewN | apply Kd.S_drew));exact Kd.S_mono (Kd.S_far (p:=⟨gb558,0,none⟩) (Kd.S_far (p:=⟨gb559,0,none⟩) (Kd.S_types (Kd.S_types HO562.out BK559.out (by decide)) BK558.out (by decide)) (fun _ hk=>hk.1.2) (.slice Ao10 t560.length co10)) (fun _ hk=>hk.2) (.slice Ao10 t560.length co10)) (fun _ hk=>trivial),hs3 HB GE557 GE558 GE559⟩
def laws_FnExactCutSteps.f (k : Nat) (l0_0 : List (S129)) (l1 : List (S47)) (a2 : Int) (a3 : Bool) : Option (Bool):=((laws_szFlash.f k l0_0 1048576).bind fun t3=>(if t3 < 0 then (some true) else ((laws_szStepS.f k l1 t3).bind fun t5=>(if t5 < 0 then (some true) else ((laws_toFlash.f k l0_0).bind fun t7=>((laws_toStepS.f k l1).bind fun t10=>((spec_CutSteps.f k t7 t10 a2 a3).bind fun b6=>((laws_toFlash.f k l0_0).bind fun t18=>((laws_toStepS.f k l1).bind fun t22=>((impl_CutSteps.f k t18 t22 a2 a3).bind fun b9=>((laws_eqFlash.f k b9.1 b6.1).bind fun t30=>(if t30 = true then (if b9.2 = b6.2 then ((laws_toFlash.f k l0_0).bind fun t32=>((laws_eqFlash.f k t18 t32).bind fun t35=>(if t35 = true then ((laws_toStepS.f k l1).bind fun t37=>((laws_eqStepS.f k t22 t37).bind fun t40=>(if t40 = true then ((laws_markFlash.f k t18 1).bind fun b19=>((laws_markStepS.f k t22 b19.1).bind fun b20=>((laws_eqFlash.f k b9.1 b6.1).bind fun t48=>(if t48 = true then (if b20.1 < 0 then (some false) else (if b9.2 = b6.2 then ((laws_markFlash.f k b9.1 1).bind fun b25=>((laws_heldFlash.f k b25.2 1).bind fun t53=>(if t53 < 0 then (some false) else (if t53 = b25.1 then ((laws_toFlash.f k l0_0).bind fun t55=>((laws_toStepS.f k l1).bind fun t58=>((impl_CutSteps.f k t55 t58 a2 a3).bind fun b31=>((laws_eqFlash.f k b31.1 b6.1).bind fun t66=>(if t66 = true then (if b31.2 = b6.2 then ((laws_heldFlash.f k b25.2 1).bind fun t68=>(if t68 < 0 then (some false) else (if t68 = b25.1 then (some true) else (some false)))) else (some false)) else (some false)))))) else (some false))))) else (some false))) else (some false))))) else (some false)))) else (some false)))) else (some false)) else (some false)))))))))))))
theorem laws_FnExactCutSteps.mono : ∀ a0 a1 a2 a3 k,LeO (laws_FnExactCutSteps.f k a0 a1 a2 a3) (laws_FnExactCutSteps.f (k + 1) a0 a1 a2 a3):=by
 intro a0 a1 a2 a3 k;unfold laws_FnExactCutSteps.f
 repeat' first
   | (with_reducible exact impl_CutSteps.mono _ _ _ _ _)
   | (with_reducible exact laws_eqFlash.mono _ _ _)
   | (with_reducible exact laws_eqStepS.mono _ _ _)
   | (with_reducible exact laws_heldFlash.mono _ _ _)
   | (with_reducible exact laws_markFlash.mono _ _ _)
   | (with_reducible exact laws_markStepS.mono _ _ _)
   | (with_reducible exact laws_szFlash.mono _ _ _)
   | (with_reducible exact laws_szStepS.mono _ _ _)
   | (with_reducible exact laws_toFlash.mono _ _)
   | (with_reducible exact laws_toStepS.mono _ _)
   | (with_reducible exact spec_CutSteps.mono _ _ _ _ _)
   | (with_reducible exact LeO.refl _)
   | (with_reducible exact LeO.none _)
   | (with_reducible refine LeO.ite ?_ ?_)
   | (with_reducible refine LeO.bind ?_ (fun _=>?_))
   | exact impl_CutSteps.mono _ _ _ _ _
   | exact laws_eqFlash.mono _ _ _
   | exact laws_eqStepS.mono _ _ _
   | exact laws_heldFlash.mono _ _ _
   | exact laws_markFlash.mono _ _ _
   | exact laws_markStepS.mono _ _ _
   | exact laws_szFlash.mono _ _ _
   | exact laws_szStepS.mono _ _ _
   | exact laws_toFlash.mono _ _
   | exact laws_toStepS.mono _ _
   | exact spec_CutSteps.mono _ _ _ _ _
   | exact LeO.none _
   | refine LeO.ite ?_ ?_
   | refine LeO.bind ?_ (fun _=>?_)
set_option maxHeartbeats 8000000 in
set_option maxRecDepth 100000 in
theorem laws_FnExactCutSteps.calls (k : Nat) (A0_0 : Option Addr) (c0_0 : Nat) (l0_0 : List (S129)) (A1 : Option Addr) (c1 : Nat) (l1 : List (S47)) (a2 : Int) (a3 : Bool) (r : Bool) (hT : Aside0 (r = true)) (w : World) (hr0_0 : Kd.C k129 w A0_0 l0_0.length l0_0) (hc0_0 : l0_0.length ≤ c0_0) (hr1 : Kd.C k47 w A1 l1.length l1) (hc1 : l1.length ≤ c1) (h : laws_FnExactCutSteps.f k l0_0 l1 a2 a3 = some r) :
  Calls Try.prog 5 #[.agg #[.slice A0_0 l0_0.length c0_0],.slice A1 l1.length c1,.int .i64 a2,.bool a3] w fun e w'=>e = .returned (.bool r) ∧ Below w.heap.size w w':=by
 have HR0_0:=zMk hr0_0;have HC0_0:=zMk hc0_0;clear hr0_0 hc0_0;have HR1:=zMk hr1;have HC1:=zMk hc1;clear hr1 hc1;have HB:=zMk (Below.refl w.heap.size w);have HL:=zMk (Nat.le_refl w.heap.size);have H : ((laws_szFlash.f k l0_0 1048576).bind fun t3=>(if t3 < 0 then (some true) else ((laws_szStepS.f k l1 t3).bind fun t5=>(if t5 < 0 then (some true) else ((laws_toFlash.f k l0_0).bind fun t7=>((laws_toStepS.f k l1).bind fun t10=>((spec_CutSteps.f k t7 t10 a2 a3).bind fun b6=>((laws_toFlash.f k l0_0).bind fun t18=>((laws_toStepS.f k l1).bind fun t22=>((impl_CutSteps.f k t18 t22 a2 a3).bind fun b9=>((laws_eqFlash.f k b9.1 b6.1).bind fun t30=>(if t30 = true then (if b9.2 = b6.2 then ((laws_toFlash.f k l0_0).bind fun t32=>((laws_eqFlash.f k t18 t32).bind fun t35=>(if t35 = true then ((laws_toStepS.f k l1).bind fun t37=>((laws_eqStepS.f k t22 t37).bind fun t40=>(if t40 = true then ((laws_markFlash.f k t18 1).bind fun b19=>((laws_markStepS.f k t22 b19.1).bind fun b20=>((laws_eqFlash.f k b9.1 b6.1).bind fun t48=>(if t48 = true then (if b20.1 < 0 then (some false) else (if b9.2 = b6.2 then ((laws_markFlash.f k b9.1 1).bind fun b25=>((laws_heldFlash.f k b25.2 1).bind fun t53=>(if t53 < 0 then (some false) else (if t53 = b25.1 then ((laws_toFlash.f k l0_0).bind fun t55=>((laws_toStepS.f k l1).bind fun t58=>((impl_CutSteps.f k t55 t58 a2 a3).bind fun b31=>((laws_eqFlash.f k b31.1 b6.1).bind fun t66=>(if t66 = true then (if b31.2 = b6.2 then ((laws_heldFlash.f k b25.2 1).bind fun t68=>(if t68 < 0 then (some false) else (if t68 = b25.1 then (some true) else (some false)))) else (some false)) else (some false)))))) else (some false))))) else (some false))) else (some false))))) else (some false)))) else (some false)))) else (some false)) else (some false))))))))))))) = some r:=h;clear h;replace H:=Option.bind_eq_some_iff.mp H;obtain ⟨t3,Fa00,H⟩:=H;replace H : (if t3 < 0 then (some true) else ((laws_szStepS.f k l1 t3).bind fun t5=>(if t5 < 0 then (some true) else ((laws_toFlash.f k l0_0).bind fun t7=>((laws_toStepS.f k l1).bind fun t10=>((spec_CutSteps.f k t7 t10 a2 a3).bind fun b6=>((laws_toFlash.f k l0_0).bind fun t18=>((laws_toStepS.f k l1).bind fun t22=>((impl_CutSteps.f k t18 t22 a2 a3).bind fun b9=>((laws_eqFlash.f k b9.1 b6.1).bind fun t30=>(if t30 = true then (if b9.2 = b6.2 then ((laws_toFlash.f k l0_0).bind fun t32=>((laws_eqFlash.f k t18 t32).bind fun t35=>(if t35 = true then ((laws_toStepS.f k l1).bind fun t37=>((laws_eqStepS.f k t22 t37).bind fun t40=>(if t40 = true then ((laws_markFlash.f k t18 1).bind fun b19=>((laws_markStepS.f k t22 b19.1).bind fun b20=>((laws_eqFlash.f k b9.1 b6.1).bind fun t48=>(if t48 = true then (if b20.1 < 0 then (some false) else (if b9.2 = b6.2 then ((laws_markFlash.f k b9.1 1).bind fun b25=>((laws_heldFlash.f k b25.2 1).bind fun t53=>(if t53 < 0 then (some false) else (if t53 = b25.1 then ((laws_toFlash.f k l0_0).bind fun t55=>((laws_toStepS.f k l1).bind fun t58=>((impl_CutSteps.f k t55 t58 a2 a3).bind fun b31=>((laws_eqFlash.f k b31.1 b6.1).bind fun t66=>(if t66 = true then (if b31.2 = b6.2 then ((laws_heldFlash.f k b25.2 1).bind fun t68=>(if t68 < 0 then (some false) else (if t68 = b25.1 then (some true) else (some false)))) else (some false)) else (some false)))))) else (some false))))) else (some false))) else (some false))))) else (some false)))) else (some false)))) else (some false)) else (some false)))))))))))) = some r:=H;have Fa0:=zMk Fa00;clear Fa00
 by_cases cd1 : t3 < 0
 ·rw [if_pos cd1] at H;have cd1b0 : decide (t3 < 0) = true:=decide_eq_true cd1;clear cd1;obtain rfl:=Option.some.inj H
  go_enter Try.func5,Try.ntmps5
  go_wp2_with (first | ((with_reducible refine gate_dst (N:=4) rfl ?_);refine box_event ?hg (N:=4) ?hd (cs:=#[.slice A0_0 l0_0.length c0_0]) (t:=45) ?hr ?_;(case hd=>rfl);(case hg=>rfl);(case hr=>first | (go_simp;done) | (go_simp;rfl));intro gb1 hg w1 hbox hb;have GBK1:=zMk (show gb1 = w.heap.size ∧ gb1 < w1.heap.size from ⟨hg,blk_lt hbox⟩);have GW1:=zMk (show w.heap.size ≤ gb1 by have q_:=below_size HB.out;rw [hg];exact q_);have BK1:=zMk hbox;replace HB:=zMk (below_step HB.out hb);replace HL:=zMk (And.intro HL.out (below_size hb));clear hb hbox hg;have hcz2 : w1.cell? ⟨gb1,0,none⟩ = some (.slice A0_0 l0_0.length c0_0):=(zCl BK1.out 0).trans rfl;have hfz3:=zFr BK1.out 0) | ((with_reducible refine gate_callee (f:=17) rfl ?_);refine goesL_ (some 23) rfl rfl Try.func17 (by kernel_rfl) rfl #[.agg #[.slice A0_0 l0_0.length c0_0],.int .i64 1048576] rfl (by (try simp only [List.map_toArray,List.map_cons,List.map_nil]);first | done | rfl | (simp only [List.length_drop,List.length_take];rfl)) ?_;(with_reducible refine (laws_szFlash.calls k _ _ l0_0 1048576 t3 _ ?side1 ?side2 Fa0.out).mono ?_);(case side1=>exact Kd.C_below HR0_0.out HB.out);(case side2=>exact HC0_0.out);rintro e w4 ⟨rfl,hb⟩;refine ⟨_,rfl,?_⟩;replace BK1:=zMk (blk_below BK1.out hb);replace HB:=zMk (below_step HB.out hb);replace HL:=zMk (And.intro HL.out (below_size hb));clear hb;clear hcz2 hfz3;have hcz5 : w4.cell? ⟨gb1,0,none⟩ = some (.slice A0_0 l0_0.length c0_0):=(zCl BK1.out 0).trans rfl;have hfz6:=zFr BK1.out 0))
  go_ret
  exact ⟨rfl,HB.out⟩
 rw [if_neg cd1] at H;have cd1b0 : decide (t3 < 0) = false:=decide_eq_false cd1;clear cd1;replace H:=Option.bind_eq_some_iff.mp H;obtain ⟨t5,Fa20,H⟩:=H;replace H : (if t5 < 0 then (some true) else ((laws_toFlash.f k l0_0).bind fun t7=>((laws_toStepS.f k l1).bind fun t10=>((spec_CutSteps.f k t7 t10 a2 a3).bind fun b6=>((laws_toFlash.f k l0_0).bind fun t18=>((laws_toStepS.f k l1).bind fun t22=>((impl_CutSteps.f k t18 t22 a2 a3).bind fun b9=>((laws_eqFlash.f k b9.1 b6.1).bind fun t30=>(if t30 = true then (if b9.2 = b6.2 then ((laws_toFlash.f k l0_0).bind fun t32=>((laws_eqFlash.f k t18 t32).bind fun t35=>(if t35 = true then ((laws_toStepS.f k l1).bind fun t37=>((laws_eqStepS.f k t22 t37).bind fun t40=>(if t40 = true then ((laws_markFlash.f k t18 1).bind fun b19=>((laws_markStepS.f k t22 b19.1).bind fun b20=>((laws_eqFlash.f k b9.1 b6.1).bind fun t48=>(if t48 = true then (if b20.1 < 0 then (some false) else (if b9.2 = b6.2 then ((laws_markFlash.f k b9.1 1).bind fun b25=>((laws_heldFlash.f k b25.2 1).bind fun t53=>(if t53 < 0 then (some false) else (if t53 = b25.1 then ((laws_toFlash.f k l0_0).bind fun t55=>((laws_toStepS.f k l1).bind fun t58=>((impl_CutSteps.f k t55 t58 a2 a3).bind fun b31=>((laws_eqFlash.f k b31.1 b6.1).bind fun t66=>(if t66 = true then (if b31.2 = b6.2 then ((laws_heldFlash.f k b25.2 1).bind fun t68=>(if t68 < 0 then (some false) else (if t68 = b25.1 then (some true) else (some false)))) else (some false)) else (some false)))))) else (some false))))) else (some false))) else (some false))))) else (some false)))) else (some false)))) else (some false)) else (some false)))))))))) = some r:=H;have Fa2:=zMk Fa20;clear Fa20
 by_cases cd3 : t5 < 0
 ·rw [if_pos cd3] at H;have cd3b0 : decide (t5 < 0) = true:=decide_eq_true cd3;clear cd3;obtain rfl:=Option.some.inj H
  go_enter Try.func5,Try.ntmps5
  go_wp2_with (first | ((with_reducible refine gate_dst (N:=4) rfl ?_);refine box_event ?hg (N:=4) ?hd (cs:=#[.slice A0_0 l0_0.length c0_0]) (t:=45) ?hr ?_;(case hd=>rfl);(case hg=>rfl);(case hr=>first | (go_simp;done) | (go_simp;rfl));intro gb1 hg w7 hbox hb;have GBK1:=zMk (show gb1 = w.heap.size ∧ gb1 < w7.heap.size from ⟨hg,blk_lt hbox⟩);have GW1:=zMk (show w.heap.size ≤ gb1 by have q_:=below_size HB.out;rw [hg];exact q_);have BK1:=zMk hbox;replace HB:=zMk (below_step HB.out hb);replace HL:=zMk (And.intro HL.out (below_size hb));clear hb hbox hg;have hcz8 : w7.cell? ⟨gb1,0,none⟩ = some (.slice A0_0 l0_0.length c0_0):=(zCl BK1.out 0).trans rfl;have hfz9:=zFr BK1.out 0) | ((with_reducible refine gate_callee (f:=17) rfl ?_);refine goesL_ (some 23) rfl rfl Try.func17 (by kernel_rfl) rfl #[.agg #[.slice A0_0 l0_0.length c0_0],.int .i64 1048576] rfl (by (try simp only [List.map_toArray,List.map_cons,List.map_nil]);first | done | rfl | (simp only [List.length_drop,List.length_take];rfl)) ?_;(with_reducible refine (laws_szFlash.calls k _ _ l0_0 1048576 t3 _ ?side1 ?side2 Fa0.out).mono ?_);(case side1=>exact Kd.C_below HR0_0.out HB.out);(case side2=>exact HC0_0.out);rintro e w10 ⟨rfl,hb⟩;refine ⟨_,rfl,?_⟩;replace BK1:=zMk (blk_below BK1.out hb);replace HB:=zMk (below_step HB.out hb);replace HL:=zMk (And.intro HL.out (below_size hb));clear hb;clear hcz8 hfz9;have hcz11 : w10.cell? ⟨gb1,0,none⟩ = some (.slice A0_0 l0_0.length c0_0):=(zCl BK1.out 0).trans rfl;have hfz12:=zFr BK1.out 0) | ((with_reducible refine gate_callee (f:=26) rfl ?_);refine goesL_ (some 28) rfl rfl Try.func26 (by kernel_rfl) rfl #[.slice A1 l1.length c1,.int .i64 t3] rfl (by (try simp only [List.map_toArray,List.map_cons,List.map_nil]);first | done | rfl | (simp only [List.length_drop,List.length_take];rfl)) ?_;(with_reducible refine (laws_szStepS.calls k _ _ l1 t3 t5 _ ?side1 ?side2 Fa2.out).mono ?_);(case side1=>exact Kd.C_below HR1.out HB.out);(case side2=>exact HC1.out);rintro e w13 ⟨rfl,hb⟩;refine ⟨_,rfl,?_⟩;replace BK1:=zMk (blk_below BK1.out hb);replace HB:=zMk (below_step HB.out hb);replace HL:=zMk (And.intro HL.out (below_size hb));clear hb;clear hcz11 hfz12;have hcz14 : w13.cell? ⟨gb1,0,none⟩ = some (.slice A0_0 l0_0.length c0_0):=(zCl BK1.out 0).trans rfl;have hfz15:=zFr BK1.out 0))
  go_ret
  exact ⟨rfl,HB.out⟩
 rw [if_neg cd3] at H;have cd3b0 : decide (t5 < 0) = false:=decide_eq_false cd3;clear cd3;replace H:=Option.bind_eq_some_iff.mp H;obtain ⟨t7,Fa40,H⟩:=H;replace H : ((laws_toStepS.f k l1).bind fun t10=>((spec_CutSteps.f k t7 t10 a2 a3).bind fun b6=>((laws_toFlash.f k l0_0).bind fun t18=>((laws_toStepS.f k l1).bind fun t22=>((impl_CutSteps.f k t18 t22 a2 a3).bind fun b9=>((laws_eqFlash.f k b9.1 b6.1).bind fun t30=>(if t30 = true then (if b9.2 = b6.2 then ((laws_toFlash.f k l0_0).bind fun t32=>((laws_eqFlash.f k t18 t32).bind fun t35=>(if t35 = true then ((laws_toStepS.f k l1).bind fun t37=>((laws_eqStepS.f k t22 t37).bind fun t40=>(if t40 = true then ((laws_markFlash.f k t18 1).bind fun b19=>((laws_markStepS.f k t22 b19.1).bind fun b20=>((laws_eqFlash.f k b9.1 b6.1).bind fun t48=>(if t48 = true then (if b20.1 < 0 then (some false) else (if b9.2 = b6.2 then ((laws_markFlash.f k b9.1 1).bind fun b25=>((laws_heldFlash.f k b25.2 1).bind fun t53=>(if t53 < 0 then (some false) else (if t53 = b25.1 then ((laws_toFlash.f k l0_0).bind fun t55=>((laws_toStepS.f k l1).bind fun t58=>((impl_CutSteps.f k t55 t58 a2 a3).bind fun b31=>((laws_eqFlash.f k b31.1 b6.1).bind fun t66=>(if t66 = true then (if b31.2 = b6.2 then ((laws_heldFlash.f k b25.2 1).bind fun t68=>(if t68 < 0 then (some false) else (if t68 = b25.1 then (some true) else (some false)))) else (some false)) else (some false)))))) else (some false))))) else (some false))) else (some false))))) else (some false)))) else (some false)))) else (some false)) else (some false)))))))) = some r:=H;have Fa4:=zMk Fa40;clear Fa40;replace H:=Option.bind_eq_some_iff.mp H;obtain ⟨t10,Fa50,H⟩:=H;replace H : ((spec_CutSteps.f k t7 t10 a2 a3).bind fun b6=>((laws_toFlash.f k l0_0).bind fun t18=>((laws_toStepS.f k l1).bind fun t22=>((impl_CutSteps.f k t18 t22 a2 a3).bind fun b9=>((laws_eqFlash.f k b9.1 b6.1).bind fun t30=>(if t30 = true then (if b9.2 = b6.2 then ((laws_toFlash.f k l0_0).bind fun t32=>((laws_eqFlash.f k t18 t32).bind fun t35=>(if t35 = true then ((laws_toStepS.f k l1).bind fun t37=>((laws_eqStepS.f k t22 t37).bind fun t40=>(if t40 = true then ((laws_markFlash.f k t18 1).bind fun b19=>((laws_markStepS.f k t22 b19.1).bind fun b20=>((laws_eqFlash.f k b9.1 b6.1).bind fun t48=>(if t48 = true then (if b20.1 < 0 then (some false) else (if b9.2 = b6.2 then ((laws_markFlash.f k b9.1 1).bind fun b25=>((laws_heldFlash.f k b25.2 1).bind fun t53=>(if t53 < 0 then (some false) else (if t53 = b25.1 then ((laws_toFlash.f k l0_0).bind fun t55=>((laws_toStepS.f k l1).bind fun t58=>((impl_CutSteps.f k t55 t58 a2 a3).bind fun b31=>((laws_eqFlash.f k b31.1 b6.1).bind fun t66=>(if t66 = true then (if b31.2 = b6.2 then ((laws_heldFlash.f k b25.2 1).bind fun t68=>(if t68 < 0 then (some false) else (if t68 = b25.1 then (some true) else (some false)))) else (some false)) else (some false)))))) else (some false))))) else (some false))) else (some false))))) else (some false)))) else (some false)))) else (some false)) else (some false))))))) = some r:=H;have Fa5:=zMk Fa50;clear Fa50;replace H:=Option.bind_eq_some_iff.mp H;obtain ⟨⟨t13,t14⟩,Fa60,H⟩:=H;replace H : ((laws_toFlash.f k l0_0).bind fun t18=>((laws_toStepS.f k l1).bind fun t22=>((impl_CutSteps.f k t18 t22 a2 a3).bind fun b9=>((laws_eqFlash.f k b9.1 t13).bind fun t30=>(if t30 = true then (if b9.2 = t14 then ((laws_toFlash.f k l0_0).bind fun t32=>((laws_eqFlash.f k t18 t32).bind fun t35=>(if t35 = true then ((laws_toStepS.f k l1).bind fun t37=>((laws_eqStepS.f k t22 t37).bind fun t40=>(if t40 = true then ((laws_markFlash.f k t18 1).bind fun b19=>((laws_markStepS.f k t22 b19.1).bind fun b20=>((laws_eqFlash.f k b9.1 t13).bind fun t48=>(if t48 = true then (if b20.1 < 0 then (some false) else (if b9.2 = t14 then ((laws_markFlash.f k b9.1 1).bind fun b25=>((laws_heldFlash.f k b25.2 1).bind fun t53=>(if t53 < 0 then (some false) else (if t53 = b25.1 then ((laws_toFlash.f k l0_0).bind fun t55=>((laws_toStepS.f k l1).bind fun t58=>((impl_CutSteps.f k t55 t58 a2 a3).bind fun b31=>((laws_eqFlash.f k b31.1 t13).bind fun t66=>(if t66 = true then (if b31.2 = t14 then ((laws_heldFlash.f k b25.2 1).bind fun t68=>(if t68 < 0 then (some false) else (if t68 = b25.1 then (some true) else (some false)))) else (some false)) else (some false)))))) else (some false))))) else (some false))) else (some false))))) else (some false)))) else (some false)))) else (some false)) else (some false)))))) = some r:=H;have Fa6:=zMk Fa60;clear Fa60;replace H:=Option.bind_eq_some_iff.mp H;obtain ⟨t18,Fa70,H⟩:=H;replace H : ((laws_toStepS.f k l1).bind fun t22=>((impl_CutSteps.f k t18 t22 a2 a3).bind fun b9=>((laws_eqFlash.f k b9.1 t13).bind fun t30=>(if t30 = true then (if b9.2 = t14 then ((laws_toFlash.f k l0_0).bind fun t32=>((laws_eqFlash.f k t18 t32).bind fun t35=>(if t35 = true then ((laws_toStepS.f k l1).bind fun t37=>((laws_eqStepS.f k t22 t37).bind fun t40=>(if t40 = true then ((laws_markFlash.f k t18 1).bind fun b19=>((laws_markStepS.f k t22 b19.1).bind fun b20=>((laws_eqFlash.f k b9.1 t13).bind fun t48=>(if t48 = true then (if b20.1 < 0 then (some false) else (if b9.2 = t14 then ((laws_markFlash.f k b9.1 1).bind fun b25=>((laws_heldFlash.f k b25.2 1).bind fun t53=>(if t53 < 0 then (some false) else (if t53 = b25.1 then ((laws_toFlash.f k l0_0).bind fun t55=>((laws_toStepS.f k l1).bind fun t58=>((impl_CutSteps.f k t55 t58 a2 a3).bind fun b31=>((laws_eqFlash.f k b31.1 t13).bind fun t66=>(if t66 = true then (if b31.2 = t14 then ((laws_heldFlash.f k b25.2 1).bind fun t68=>(if t68 < 0 then (some false) else (if t68 = b25.1 then (some true) else (some false)))) else (some false)) else (some false)))))) else (some false))))) else (some false))) else (some false))))) else (some false)))) else (some false)))) else (some false)) else (some false))))) = some r:=H;have Fa7:=zMk Fa70;clear Fa70;replace H:=Option.bind_eq_some_iff.mp H;obtain ⟨t22,Fa80,H⟩:=H;replace H : ((impl_CutSteps.f k t18 t22 a2 a3).bind fun b9=>((laws_eqFlash.f k b9.1 t13).bind fun t30=>(if t30 = true then (if b9.2 = t14 then ((laws_toFlash.f k l0_0).bind fun t32=>((laws_eqFlash.f k t18 t32).bind fun t35=>(if t35 = true then ((laws_toStepS.f k l1).bind fun t37=>((laws_eqStepS.f k t22 t37).bind fun t40=>(if t40 = true then ((laws_markFlash.f k t18 1).bind fun b19=>((laws_markStepS.f k t22 b19.1).bind fun b20=>((laws_eqFlash.f k b9.1 t13).bind fun t48=>(if t48 = true then (if b20.1 < 0 then (some false) else (if b9.2 = t14 then ((laws_markFlash.f k b9.1 1).bind fun b25=>((laws_heldFlash.f k b25.2 1).bind fun t53=>(if t53 < 0 then (some false) else (if t53 = b25.1 then ((laws_toFlash.f k l0_0).bind fun t55=>((laws_toStepS.f k l1).bind fun t58=>((impl_CutSteps.f k t55 t58 a2 a3).bind fun b31=>((laws_eqFlash.f k b31.1 t13).bind fun t66=>(if t66 = true then (if b31.2 = t14 then ((laws_heldFlash.f k b25.2 1).bind fun t68=>(if t68 < 0 then (some false) else (if t68 = b25.1 then (some true) else (some false)))) else (some false)) else (some false)))))) else (some false))))) else (some false))) else (some false))))) else (some false)))) else (some false)))) else (some false)) else (some false)))) = some r:=H;have Fa8:=zMk Fa80;clear Fa80;replace H:=Option.bind_eq_some_iff.mp H;obtain ⟨⟨t25,t26⟩,Fa90,H⟩:=H;replace H : ((laws_eqFlash.f k t25 t13).bind fun t30=>(if t30 = true then (if t26 = t14 then ((laws_toFlash.f k l0_0).bind fun t32=>((laws_eqFlash.f k t18 t32).bind fun t35=>(if t35 = true then ((laws_toStepS.f k l1).bind fun t37=>((laws_eqStepS.f k t22 t37).bind fun t40=>(if t40 = true then ((laws_markFlash.f k t18 1).bind fun b19=>((laws_markStepS.f k t22 b19.1).bind fun b20=>((laws_eqFlash.f k t25 t13).bind fun t48=>(if t48 = true then (if b20.1 < 0 then (some false) else (if t26 = t14 then ((laws_markFlash.f k t25 1).bind fun b25=>((laws_heldFlash.f k b25.2 1).bind fun t53=>(if t53 < 0 then (some false) else (if t53 = b25.1 then ((laws_toFlash.f k l0_0).bind fun t55=>((laws_toStepS.f k l1).bind fun t58=>((impl_CutSteps.f k t55 t58 a2 a3).bind fun b31=>((laws_eqFlash.f k b31.1 t13).bind fun t66=>(if t66 = true then (if b31.2 = t14 then ((laws_heldFlash.f k b25.2 1).bind fun t68=>(if t68 < 0 then (some false) else (if t68 = b25.1 then (some true) else (some false)))) else (some false)) else (some false)))))) else (some false))))) else (some false))) else (some false))))) else (some false)))) else (some false)))) else (some false)) else (some false))) = some r:=H;have Fa9:=zMk Fa90;clear Fa90;replace H:=Option.bind_eq_some_iff.mp H;obtain ⟨t30,Fa100,H⟩:=H;replace H : (if t30 = true then (if t26 = t14 then ((laws_toFlash.f k l0_0).bind fun t32=>((laws_eqFlash.f k t18 t32).bind fun t35=>(if t35 = true then ((laws_toStepS.f k l1).bind fun t37=>((laws_eqStepS.f k t22 t37).bind fun t40=>(if t40 = true then ((laws_markFlash.f k t18 1).bind fun b19=>((laws_markStepS.f k t22 b19.1).bind fun b20=>((laws_eqFlash.f k t25 t13).bind fun t48=>(if t48 = true then (if b20.1 < 0 then (some false) else (if t26 = t14 then ((laws_markFlash.f k t25 1).bind fun b25=>((laws_heldFlash.f k b25.2 1).bind fun t53=>(if t53 < 0 then (some false) else (if t53 = b25.1 then ((laws_toFlash.f k l0_0).bind fun t55=>((laws_toStepS.f k l1).bind fun t58=>((impl_CutSteps.f k t55 t58 a2 a3).bind fun b31=>((laws_eqFlash.f k b31.1 t13).bind fun t66=>(if t66 = true then (if b31.2 = t14 then ((laws_heldFlash.f k b25.2 1).bind fun t68=>(if t68 < 0 then (some false) else (if t68 = b25.1 then (some true) else (some false)))) else (some false)) else (some false)))))) else (some false))))) else (some false))) else (some false))))) else (some false)))) else (some false)))) else (some false)) else (some false)) = some r:=H;have Fa10:=zMk Fa100;clear Fa100;have cd11 : t30 = true:=Classical.byContradiction fun hc_=>by rw [if_neg hc_] at H;exact absurd ((Option.some.inj H).trans hT.out) (by decide)
 rw [if_pos cd11] at H;subst cd11;replace H : (if t26 = t14 then ((laws_toFlash.f k l0_0).bind fun t32=>((laws_eqFlash.f k t18 t32).bind fun t35=>(if t35 = true then ((laws_toStepS.f k l1).bind fun t37=>((laws_eqStepS.f k t22 t37).bind fun t40=>(if t40 = true then ((laws_markFlash.f k t18 1).bind fun b19=>((laws_markStepS.f k t22 b19.1).bind fun b20=>((laws_eqFlash.f k t25 t13).bind fun t48=>(if t48 = true then (if b20.1 < 0 then (some false) else (if t26 = t14 then ((laws_markFlash.f k t25 1).bind fun b25=>((laws_heldFlash.f k b25.2 1).bind fun t53=>(if t53 < 0 then (some false) else (if t53 = b25.1 then ((laws_toFlash.f k l0_0).bind fun t55=>((laws_toStepS.f k l1).bind fun t58=>((impl_CutSteps.f k t55 t58 a2 a3).bind fun b31=>((laws_eqFlash.f k b31.1 t13).bind fun t66=>(if t66 = true then (if b31.2 = t14 then ((laws_heldFlash.f k b25.2 1).bind fun t68=>(if t68 < 0 then (some false) else (if t68 = b25.1 then (some true) else (some false)))) else (some false)) else (some false)))))) else (some false))))) else (some false))) else (some false))))) else (some false)))) else (some false)))) else (some false)) = some r:=H;have cd12 : t26 = t14:=Classical.byContradiction fun hc_=>by rw [if_neg hc_] at H;exact absurd ((Option.some.inj H).trans hT.out) (by decide)
 rw [if_pos cd12] at H;have cd12b0 : (t26 == t14) = true:=beq_iff_eq.mpr cd12;have cd12b1 : (t26 != t14) = false:=bne_eq_false_iff_eq.mpr cd12;clear cd12;replace H:=Option.bind_eq_some_iff.mp H;obtain ⟨t32,Fa130,H⟩:=H;replace H : ((laws_eqFlash.f k t18 t32).bind fun t35=>(if t35 = true then ((laws_toStepS.f k l1).bind fun t37=>((laws_eqStepS.f k t22 t37).bind fun t40=>(if t40 = true then ((laws_markFlash.f k t18 1).bind fun b19=>((laws_markStepS.f k t22 b19.1).bind fun b20=>((laws_eqFlash.f k t25 t13).bind fun t48=>(if t48 = true then (if b20.1 < 0 then (some false) else (if t26 = t14 then ((laws_markFlash.f k t25 1).bind fun b25=>((laws_heldFlash.f k b25.2 1).bind fun t53=>(if t53 < 0 then (some false) else (if t53 = b25.1 then ((laws_toFlash.f k l0_0).bind fun t55=>((laws_toStepS.f k l1).bind fun t58=>((impl_CutSteps.f k t55 t58 a2 a3).bind fun b31=>((laws_eqFlash.f k b31.1 t13).bind fun t66=>(if t66 = true then (if b31.2 = t14 then ((laws_heldFlash.f k b25.2 1).bind fun t68=>(if t68 < 0 then (some false) else (if t68 = b25.1 then (some true) else (some false)))) else (some false)) else (some false)))))) else (some false))))) else (some false))) else (some false))))) else (some false)))) else (some false))) = some r:=H;have Fa13:=zMk Fa130;clear Fa130;replace H:=Option.bind_eq_some_iff.mp H;obtain ⟨t35,Fa140,H⟩:=H;replace H : (if t35 = true then ((laws_toStepS.f k l1).bind fun t37=>((laws_eqStepS.f k t22 t37).bind fun t40=>(if t40 = true then ((laws_markFlash.f k t18 1).bind fun b19=>((laws_markStepS.f k t22 b19.1).bind fun b20=>((laws_eqFlash.f k t25 t13).bind fun t48=>(if t48 = true then (if b20.1 < 0 then (some false) else (if t26 = t14 then ((laws_markFlash.f k t25 1).bind fun b25=>((laws_heldFlash.f k b25.2 1).bind fun t53=>(if t53 < 0 then (some false) else (if t53 = b25.1 then ((laws_toFlash.f k l0_0).bind fun t55=>((laws_toStepS.f k l1).bind fun t58=>((impl_CutSteps.f k t55 t58 a2 a3).bind fun b31=>((laws_eqFlash.f k b31.1 t13).bind fun t66=>(if t66 = true then (if b31.2 = t14 then ((laws_heldFlash.f k b25.2 1).bind fun t68=>(if t68 < 0 then (some false) else (if t68 = b25.1 then (some true) else (some false)))) else (some false)) else (some false)))))) else (some false))))) else (some false))) else (some false))))) else (some false)))) else (some false)) = some r:=H;have Fa14:=zMk Fa140;clear Fa140;have cd15 : t35 = true:=Classical.byContradiction fun hc_=>by rw [if_neg hc_] at H;exact absurd ((Option.some.inj H).trans hT.out) (by decide)
 rw [if_pos cd15] at H;subst cd15;replace H : ((laws_toStepS.f k l1).bind fun t37=>((laws_eqStepS.f k t22 t37).bind fun t40=>(if t40 = true then ((laws_markFlash.f k t18 1).bind fun b19=>((laws_markStepS.f k t22 b19.1).bind fun b20=>((laws_eqFlash.f k t25 t13).bind fun t48=>(if t48 = true then (if b20.1 < 0 then (some false) else (if t26 = t14 then ((laws_markFlash.f k t25 1).bind fun b25=>((laws_heldFlash.f k b25.2 1).bind fun t53=>(if t53 < 0 then (some false) else (if t53 = b25.1 then ((laws_toFlash.f k l0_0).bind fun t55=>((laws_toStepS.f k l1).bind fun t58=>((impl_CutSteps.f k t55 t58 a2 a3).bind fun b31=>((laws_eqFlash.f k b31.1 t13).bind fun t66=>(if t66 = true then (if b31.2 = t14 then ((laws_heldFlash.f k b25.2 1).bind fun t68=>(if t68 < 0 then (some false) else (if t68 = b25.1 then (some true) else (some false)))) else (some false)) else (some false)))))) else (some false))))) else (some false))) else (some false))))) else (some false)))) = some r:=H;replace H:=Option.bind_eq_some_iff.mp H;obtain ⟨t37,Fa160,H⟩:=H;replace H : ((laws_eqStepS.f k t22 t37).bind fun t40=>(if t40 = true then ((laws_markFlash.f k t18 1).bind fun b19=>((laws_markStepS.f k t22 b19.1).bind fun b20=>((laws_eqFlash.f k t25 t13).bind fun t48=>(if t48 = true then (if b20.1 < 0 then (some false) else (if t26 = t14 then ((laws_markFlash.f k t25 1).bind fun b25=>((laws_heldFlash.f k b25.2 1).bind fun t53=>(if t53 < 0 then (some false) else (if t53 = b25.1 then ((laws_toFlash.f k l0_0).bind fun t55=>((laws_toStepS.f k l1).bind fun t58=>((impl_CutSteps.f k t55 t58 a2 a3).bind fun b31=>((laws_eqFlash.f k b31.1 t13).bind fun t66=>(if t66 = true then (if b31.2 = t14 then ((laws_heldFlash.f k b25.2 1).bind fun t68=>(if t68 < 0 then (some false) else (if t68 = b25.1 then (some true) else (some false)))) else (some false)) else (some false)))))) else (some false))))) else (some false))) else (some false))))) else (some false))) = some r:=H;have Fa16:=zMk Fa160;clear Fa160;replace H:=Option.bind_eq_some_iff.mp H;obtain ⟨t40,Fa170,H⟩:=H;replace H : (if t40 = true then ((laws_markFlash.f k t18 1).bind fun b19=>((laws_markStepS.f k t22 b19.1).bind fun b20=>((laws_eqFlash.f k t25 t13).bind fun t48=>(if t48 = true then (if b20.1 < 0 then (some false) else (if t26 = t14 then ((laws_markFlash.f k t25 1).bind fun b25=>((laws_heldFlash.f k b25.2 1).bind fun t53=>(if t53 < 0 then (some false) else (if t53 = b25.1 then ((laws_toFlash.f k l0_0).bind fun t55=>((laws_toStepS.f k l1).bind fun t58=>((impl_CutSteps.f k t55 t58 a2 a3).bind fun b31=>((laws_eqFlash.f k b31.1 t13).bind fun t66=>(if t66 = true then (if b31.2 = t14 then ((laws_heldFlash.f k b25.2 1).bind fun t68=>(if t68 < 0 then (some false) else (if t68 = b25.1 then (some true) else (some false)))) else (some false)) else (some false)))))) else (some false))))) else (some false))) else (some false))))) else (some false)) = some r:=H;have Fa17:=zMk Fa170;clear Fa170;have cd18 : t40 = true:=Classical.byContradiction fun hc_=>by rw [if_neg hc_] at H;exact absurd ((Option.some.inj H).trans hT.out) (by decide)
 rw [if_pos cd18] at H;subst cd18;replace H : ((laws_markFlash.f k t18 1).bind fun b19=>((laws_markStepS.f k t22 b19.1).bind fun b20=>((laws_eqFlash.f k t25 t13).bind fun t48=>(if t48 = true then (if b20.1 < 0 then (some false) else (if t26 = t14 then ((laws_markFlash.f k t25 1).bind fun b25=>((laws_heldFlash.f k b25.2 1).bind fun t53=>(if t53 < 0 then (some false) else (if t53 = b25.1 then ((laws_toFlash.f k l0_0).bind fun t55=>((laws_toStepS.f k l1).bind fun t58=>((impl_CutSteps.f k t55 t58 a2 a3).bind fun b31=>((laws_eqFlash.f k b31.1 t13).bind fun t66=>(if t66 = true then (if b31.2 = t14 then ((laws_heldFlash.f k b25.2 1).bind fun t68=>(if t68 < 0 then (some false) else (if t68 = b25.1 then (some true) else (some false)))) else (some false)) else (some false)))))) else (some false))))) else (some false))) else (some false))))) = some r:=H;replace H:=Option.bind_eq_some_iff.mp H;obtain ⟨⟨t42,t43⟩,Fa190,H⟩:=H;replace H : ((laws_markStepS.f k t22 t42).bind fun b20=>((laws_eqFlash.f k t25 t13).bind fun t48=>(if t48 = true then (if b20.1 < 0 then (some false) else (if t26 = t14 then ((laws_markFlash.f k t25 1).bind fun b25=>((laws_heldFlash.f k b25.2 1).bind fun t53=>(if t53 < 0 then (some false) else (if t53 = b25.1 then ((laws_toFlash.f k l0_0).bind fun t55=>((laws_toStepS.f k l1).bind fun t58=>((impl_CutSteps.f k t55 t58 a2 a3).bind fun b31=>((laws_eqFlash.f k b31.1 t13).bind fun t66=>(if t66 = true then (if b31.2 = t14 then ((laws_heldFlash.f k b25.2 1).bind fun t68=>(if t68 < 0 then (some false) else (if t68 = b25.1 then (some true) else (some false)))) else (some false)) else (some false)))))) else (some false))))) else (some false))) else (some false)))) = some r:=H;have Fa19:=zMk Fa190;clear Fa190;replace H:=Option.bind_eq_some_iff.mp H;obtain ⟨⟨t45,t46⟩,Fa200,H⟩:=H;replace H : ((laws_eqFlash.f k t25 t13).bind fun t48=>(if t48 = true then (if t45 < 0 then (some false) else (if t26 = t14 then ((laws_markFlash.f k t25 1).bind fun b25=>((laws_heldFlash.f k b25.2 1).bind fun t53=>(if t53 < 0 then (some false) else (if t53 = b25.1 then ((laws_toFlash.f k l0_0).bind fun t55=>((laws_toStepS.f k l1).bind fun t58=>((impl_CutSteps.f k t55 t58 a2 a3).bind fun b31=>((laws_eqFlash.f k b31.1 t13).bind fun t66=>(if t66 = true then (if b31.2 = t14 then ((laws_heldFlash.f k b25.2 1).bind fun t68=>(if t68 < 0 then (some false) else (if t68 = b25.1 then (some true) else (some false)))) else (some false)) else (some false)))))) else (some false))))) else (some false))) else (some false))) = some r:=H;have Fa20:=zMk Fa200;clear Fa200;replace H:=Option.bind_eq_some_iff.mp H;obtain ⟨t48,Fa210,H⟩:=H;replace H : (if t48 = true then (if t45 < 0 then (some false) else (if t26 = t14 then ((laws_markFlash.f k t25 1).bind fun b25=>((laws_heldFlash.f k b25.2 1).bind fun t53=>(if t53 < 0 then (some false) else (if t53 = b25.1 then ((laws_toFlash.f k l0_0).bind fun t55=>((laws_toStepS.f k l1).bind fun t58=>((impl_CutSteps.f k t55 t58 a2 a3).bind fun b31=>((laws_eqFlash.f k b31.1 t13).bind fun t66=>(if t66 = true then (if b31.2 = t14 then ((laws_heldFlash.f k b25.2 1).bind fun t68=>(if t68 < 0 then (some false) else (if t68 = b25.1 then (some true) else (some false)))) else (some false)) else (some false)))))) else (some false))))) else (some false))) else (some false)) = some r:=H;have Fa21:=zMk Fa210;clear Fa210;have cd22 : t48 = true:=Classical.byContradiction fun hc_=>by rw [if_neg hc_] at H;exact absurd ((Option.some.inj H).trans hT.out) (by decide)
 rw [if_pos cd22] at H;subst cd22;replace H : (if t45 < 0 then (some false) else (if t26 = t14 then ((laws_markFlash.f k t25 1).bind fun b25=>((laws_heldFlash.f k b25.2 1).bind fun t53=>(if t53 < 0 then (some false) else (if t53 = b25.1 then ((laws_toFlash.f k l0_0).bind fun t55=>((laws_toStepS.f k l1).bind fun t58=>((impl_CutSteps.f k t55 t58 a2 a3).bind fun b31=>((laws_eqFlash.f k b31.1 t13).bind fun t66=>(if t66 = true then (if b31.2 = t14 then ((laws_heldFlash.f k b25.2 1).bind fun t68=>(if t68 < 0 then (some false) else (if t68 = b25.1 then (some true) else (some false)))) else (some false)) else (some false)))))) else (some false))))) else (some false))) = some r:=H;have cd23 : ¬ (t45 < 0):=fun hc_=>by rw [if_pos hc_] at H;exact absurd ((Option.some.inj H).trans hT.out) (by decide)
 rw [if_neg cd23] at H;have cd23b0 : decide (t45 < 0) = false:=decide_eq_false cd23;clear cd23;have cd24 : t26 = t14:=Classical.byContradiction fun hc_=>by rw [if_neg hc_] at H;exact absurd ((Option.some.inj H).trans hT.out) (by decide)
 rw [if_pos cd24] at H;have cd24b0 : (t26 == t14) = true:=beq_iff_eq.mpr cd24;have cd24b1 : (t26 != t14) = false:=bne_eq_false_iff_eq.mpr cd24;clear cd24;replace H:=Option.bind_eq_some_iff.mp H;obtain ⟨⟨t50,t51⟩,Fa250,H⟩:=H;replace H : ((laws_heldFlash.f k t51 1).bind fun t53=>(if t53 < 0 then (some false) else (if t53 = t50 then ((laws_toFlash.f k l0_0).bind fun t55=>((laws_toStepS.f k l1).bind fun t58=>((impl_CutSteps.f k t55 t58 a2 a3).bind fun b31=>((laws_eqFlash.f k b31.1 t13).bind fun t66=>(if t66 = true then (if b31.2 = t14 then ((laws_heldFlash.f k t51 1).bind fun t68=>(if t68 < 0 then (some false) else (if t68 = t50 then (some true) else (some false)))) else (some false)) else (some false)))))) else (some false)))) = some r:=H;have Fa25:=zMk Fa250;clear Fa250;replace H:=Option.bind_eq_some_iff.mp H;obtain ⟨t53,Fa260,H⟩:=H;replace H : (if t53 < 0 then (some false) else (if t53 = t50 then ((laws_toFlash.f k l0_0).bind fun t55=>((laws_toStepS.f k l1).bind fun t58=>((impl_CutSteps.f k t55 t58 a2 a3).bind fun b31=>((laws_eqFlash.f k b31.1 t13).bind fun t66=>(if t66 = true then (if b31.2 = t14 then ((laws_heldFlash.f k t51 1).bind fun t68=>(if t68 < 0 then (some false) else (if t68 = t50 then (some true) else (some false)))) else (some false)) else (some false)))))) else (some false))) = some r:=H;have Fa26:=zMk Fa260;clear Fa260;have cd27 : ¬ (t53 < 0):=fun hc_=>by rw [if_pos hc_] at H;exact absurd ((Option.some.inj H).trans hT.out) (by decide)
 rw [if_neg cd27] at H;have cd27b0 : decide (t53 < 0) = false:=decide_eq_false cd27;clear cd27;have cd28 : t53 = t50:=Classical.byContradiction fun hc_=>by rw [if_neg hc_] at H;exact absurd ((Option.some.inj H).trans hT.out) (by decide)
 rw [if_pos cd28] at H;have cd28b0 : (t53 == t50) = true:=beq_iff_eq.mpr cd28;have cd28b1 : (t53 != t50) = false:=bne_eq_false_iff_eq.mpr cd28;clear cd28;replace H:=Option.bind_eq_some_iff.mp H;obtain ⟨t55,Fa290,H⟩:=H;replace H : ((laws_toStepS.f k l1).bind fun t58=>((impl_CutSteps.f k t55 t58 a2 a3).bind fun b31=>((laws_eqFlash.f k b31.1 t13).bind fun t66=>(if t66 = true then (if b31.2 = t14 then ((laws_heldFlash.f k t51 1).bind fun t68=>(if t68 < 0 then (some false) else (if t68 = t50 then (some true) else (some false)))) else (some false)) else (some false))))) = some r:=H;have Fa29:=zMk Fa290;clear Fa290;replace H:=Option.bind_eq_some_iff.mp H;obtain ⟨t58,Fa300,H⟩:=H;replace H : ((impl_CutSteps.f k t55 t58 a2 a3).bind fun b31=>((laws_eqFlash.f k b31.1 t13).bind fun t66=>(if t66 = true then (if b31.2 = t14 then ((laws_heldFlash.f k t51 1).bind fun t68=>(if t68 < 0 then (some false) else (if t68 = t50 then (some true) else (some false)))) else (some false)) else (some false)))) = some r:=H;have Fa30:=zMk Fa300;clear Fa300;replace H:=Option.bind_eq_some_iff.mp H;obtain ⟨⟨t61,t62⟩,Fa310,H⟩:=H;replace H : ((laws_eqFlash.f k t61 t13).bind fun t66=>(if t66 = true then (if t62 = t14 then ((laws_heldFlash.f k t51 1).bind fun t68=>(if t68 < 0 then (some false) else (if t68 = t50 then (some true) else (some false)))) else (some false)) else (some false))) = some r:=H;have Fa31:=zMk Fa310;clear Fa310;replace H:=Option.bind_eq_some_iff.mp H;obtain ⟨t66,Fa320,H⟩:=H;replace H : (if t66 = true then (if t62 = t14 then ((laws_heldFlash.f k t51 1).bind fun t68=>(if t68 < 0 then (some false) else (if t68 = t50 then (some true) else (some false)))) else (some false)) else (some false)) = some r:=H;have Fa32:=zMk Fa320;clear Fa320;have cd33 : t66 = true:=Classical.byContradiction fun hc_=>by rw [if_neg hc_] at H;exact absurd ((Option.some.inj H).trans hT.out) (by decide)
 rw [if_pos cd33] at H;subst cd33;replace H : (if t62 = t14 then ((laws_heldFlash.f k t51 1).bind fun t68=>(if t68 < 0 then (some false) else (if t68 = t50 then (some true) else (some false)))) else (some false)) = some r:=H;have cd34 : t62 = t14:=Classical.byContradiction fun hc_=>by rw [if_neg hc_] at H;exact absurd ((Option.some.inj H).trans hT.out) (by decide)
 rw [if_pos cd34] at H;have cd34b0 : (t62 == t14) = true:=beq_iff_eq.mpr cd34;have cd34b1 : (t62 != t14) = false:=bne_eq_false_iff_eq.mpr cd34;clear cd34;replace H:=Option.bind_eq_some_iff.mp H;obtain ⟨t68,Fa350,H⟩:=H;replace H : (if t68 < 0 then (some false) else (if t68 = t50 then (some true) else (some false))) = some r:=H;have Fa35:=zMk Fa350;clear Fa350;have cd36 : ¬ (t68 < 0):=fun hc_=>by rw [if_pos hc_] at H;exact absurd ((Option.some.inj H).trans hT.out) (by decide)
 rw [if_neg cd36] at H;have cd36b0 : decide (t68 < 0) = false:=decide_eq_false cd36;clear cd36;have cd37 : t68 = t50:=Classical.byContradiction fun hc_=>by rw [if_neg hc_] at H;exact absurd ((Option.some.inj H).trans hT.out) (by decide)
 rw [if_pos cd37] at H;have cd37b0 : (t68 == t50) = true:=beq_iff_eq.mpr cd37;have cd37b1 : (t68 != t50) = false:=bne_eq_false_iff_eq.mpr cd37;clear cd37;obtain rfl:=Option.some.inj H
 go_enter Try.func5,Try.ntmps5
 go_wp2_with (first | ((with_reducible refine gate_dst (N:=4) rfl ?_);refine box_event ?hg (N:=4) ?hd (cs:=#[.slice A0_0 l0_0.length c0_0]) (t:=45) ?hr ?_;(case hd=>rfl);(case hg=>rfl);(case hr=>first | (go_simp;done) | (go_simp;rfl));intro gb1 hg w16 hbox hb;have GBK1:=zMk (show gb1 = w.heap.size ∧ gb1 < w16.heap.size from ⟨hg,blk_lt hbox⟩);have GW1:=zMk (show w.heap.size ≤ gb1 by have q_:=below_size HB.out;rw [hg];exact q_);have BK1:=zMk hbox;replace HB:=zMk (below_step HB.out hb);replace HL:=zMk (And.intro HL.out (below_size hb));clear hb hbox hg;have hcz17 : w16.cell? ⟨gb1,0,none⟩ = some (.slice A0_0 l0_0.length c0_0):=(zCl BK1.out 0).trans rfl;have hfz18:=zFr BK1.out 0) | ((with_reducible refine gate_callee (f:=17) rfl ?_);refine goesL_ (some 23) rfl rfl Try.func17 (by kernel_rfl) rfl #[.agg #[.slice A0_0 l0_0.length c0_0],.int .i64 1048576] rfl (by (try simp only [List.map_toArray,List.map_cons,List.map_nil]);first | done | rfl | (simp only [List.length_drop,List.length_take];rfl)) ?_;(with_reducible refine (laws_szFlash.calls k _ _ l0_0 1048576 t3 _ ?side1 ?side2 Fa0.out).mono ?_);(case side1=>exact Kd.C_below HR0_0.out HB.out);(case side2=>exact HC0_0.out);rintro e w19 ⟨rfl,hb⟩;refine ⟨_,rfl,?_⟩;replace BK1:=zMk (blk_below BK1.out hb);replace HB:=zMk (below_step HB.out hb);replace HL:=zMk (And.intro HL.out (below_size hb));clear hb;clear hcz17 hfz18;have hcz20 : w19.cell? ⟨gb1,0,none⟩ = some (.slice A0_0 l0_0.length c0_0):=(zCl BK1.out 0).trans rfl;have hfz21:=zFr BK1.out 0) | ((with_reducible refine gate_callee (f:=26) rfl ?_);refine goesL_ (some 28) rfl rfl Try.func26 (by kernel_rfl) rfl #[.slice A1 l1.length c1,.int .i64 t3] rfl (by (try simp only [List.map_toArray,List.map_cons,List.map_nil]);first | done | rfl | (simp only [List.length_drop,List.length_take];rfl)) ?_;(with_reducible refine (laws_szStepS.calls k _ _ l1 t3 t5 _ ?side1 ?side2 Fa2.out).mono ?_);(case side1=>exact Kd.C_below HR1.out HB.out);(case side2=>exact HC1.out);rintro e w22 ⟨rfl,hb⟩;refine ⟨_,rfl,?_⟩;replace BK1:=zMk (blk_below BK1.out hb);replace HB:=zMk (below_step HB.out hb);replace HL:=zMk (And.intro HL.out (below_size hb));clear hb;clear hcz20 hfz21;have hcz23 : w22.cell? ⟨gb1,0,none⟩ = some (.slice A0_0 l0_0.length c0_0):=(zCl BK1.out 0).trans rfl;have hfz24:=zFr BK1.out 0) | ((with_reducible refine gate_callee (f:=20) rfl ?_);refine goesL_ (some 33) rfl rfl Try.func20 (by kernel_rfl) rfl #[.agg #[.slice A0_0 l0_0.length c0_0]] rfl (by (try simp only [List.map_toArray,List.map_cons,List.map_nil]);first | done | rfl | (simp only [List.length_drop,List.length_take];rfl)) ?_;(with_reducible refine (laws_toFlash.calls k _ _ l0_0 t7 _ ?side1 ?side2 Fa4.out).mono ?_);(case side1=>exact Kd.C_below HR0_0.out HB.out);(case side2=>exact HC0_0.out);rintro e w25 ⟨v8,rfl,ho0,hb⟩;refine ⟨_,rfl,?_⟩;have HZ8:=zMk (Kd.S_lower (Kd.S_mono (ok':=fun k_=>(w22.heap.size ≤ k_ ∧ k_ < w25.heap.size)) (Kd.S_bound ho0) (fun k_ hk_=>⟨hk_.2.1,hk_.2.2.1⟩)) (below_size HB.out));clear ho0;replace BK1:=zMk (blk_below BK1.out hb);replace HB:=zMk (below_step HB.out hb);replace HL:=zMk (And.intro HL.out (below_size hb));clear hb;obtain ⟨A8,c8,e8⟩:=Kd.S_slice HZ8.out;subst e8;clear hcz23 hfz24;have hcz26 : w25.cell? ⟨gb1,0,none⟩ = some (.slice A0_0 l0_0.length c0_0):=(zCl BK1.out 0).trans rfl;have hfz27:=zFr BK1.out 0) | ((with_reducible refine gate_callee (f:=28) rfl ?_);refine goesL_ (some 35) rfl rfl Try.func28 (by kernel_rfl) rfl #[.slice A1 l1.length c1] rfl (by (try simp only [List.map_toArray,List.map_cons,List.map_nil]);first | done | rfl | (simp only [List.length_drop,List.length_take];rfl)) ?_;(with_reducible refine (laws_toStepS.calls k _ _ l1 t10 _ ?side1 ?side2 Fa5.out).mono ?_);(case side1=>exact Kd.C_below HR1.out HB.out);(case side2=>exact HC1.out);rintro e w28 ⟨v11,rfl,ho0,hb⟩;refine ⟨_,rfl,?_⟩;have HZ11:=zMk (Kd.R_lower (Kd.R_mono (ok':=fun k_=>(w25.heap.size ≤ k_ ∧ k_ < w28.heap.size)) (Kd.R_bound ho0) (fun k_ hk_=>⟨hk_.2.1,hk_.2.2.1⟩)) (below_size HB.out));clear ho0;replace HZ8:=zMk (Kd.S_below HZ8.out hb);replace BK1:=zMk (blk_below BK1.out hb);replace HB:=zMk (below_step HB.out hb);replace HL:=zMk (And.intro HL.out (below_size hb));clear hb;obtain ⟨A11,c11,e11⟩:=Kd.R_slice HZ11.out;subst e11;clear hcz26 hfz27;have hcz29 : w28.cell? ⟨gb1,0,none⟩ = some (.slice A0_0 l0_0.length c0_0):=(zCl BK1.out 0).trans rfl;have hfz30:=zFr BK1.out 0) | ((with_reducible refine gate_callee (f:=27) rfl ?_);refine goesL_ (some 38) rfl rfl Try.func27 (by kernel_rfl) rfl #[.agg #[.slice A8 t7.length c8],.slice A11 t10.length c11,.int .i64 a2,.bool a3] rfl (by (try simp only [List.map_toArray,List.map_cons,List.map_nil]);first | done | rfl | (simp only [List.length_drop,List.length_take];rfl)) ?_;(with_reducible refine (spec_CutSteps.calls k _ _ t7 _ _ t10 a2 a3 t13 t14 _ ?side1 ?side2 ?side3 ?side4 Fa6.out).mono ?_);(case side1=>exact (Kd.S_reads' HZ8.out).2.2);(case side2=>exact (Kd.S_reads' HZ8.out).2.1);(case side3=>exact (Kd.R_reads' HZ11.out).2.2);(case side4=>exact (Kd.R_reads' HZ11.out).2.1);rintro e w31 ⟨v15,rfl,ho0,hb⟩;refine ⟨_,rfl,?_⟩;have HZ15:=zMk (Kd.S_lower (Kd.S_mono (ok':=fun k_=>(w28.heap.size ≤ k_ ∧ k_ < w31.heap.size)) (Kd.S_bound ho0) (fun k_ hk_=>⟨hk_.2.1,hk_.2.2.1⟩)) (below_size HB.out));clear ho0;replace HZ8:=zMk (Kd.S_below HZ8.out hb);replace HZ11:=zMk (Kd.R_below HZ11.out hb);replace BK1:=zMk (blk_below BK1.out hb);replace HB:=zMk (below_step HB.out hb);replace HL:=zMk (And.intro HL.out (below_size hb));clear hb;obtain ⟨A15,c15,e15⟩:=Kd.S_slice HZ15.out;subst e15;clear hcz29 hfz30;have hcz32 : w31.cell? ⟨gb1,0,none⟩ = some (.slice A0_0 l0_0.length c0_0):=(zCl BK1.out 0).trans rfl;have hfz33:=zFr BK1.out 0) | ((with_reducible refine gate_dst (N:=10) rfl ?_);refine box_event ?hg (N:=10) ?hd (cs:=#[.slice none 0 0]) (t:=52) ?hr ?_;(case hd=>rfl);(case hg=>rfl);(case hr=>first | (go_simp;done) | (go_simp;rfl));intro gb16 hg w34 hbox hb;replace HZ8:=zMk (Kd.S_below HZ8.out hb);replace HZ11:=zMk (Kd.R_below HZ11.out hb);replace HZ15:=zMk (Kd.S_below HZ15.out hb);replace BK1:=zMk (blk_below BK1.out hb);have GBK16:=zMk (show gb16 = w31.heap.size ∧ gb16 < w34.heap.size from ⟨hg,blk_lt hbox⟩);have GW16:=zMk (show w.heap.size ≤ gb16 by have q_:=below_size HB.out;rw [hg];exact q_);have BK16:=zMk hbox;replace HB:=zMk (below_step HB.out hb);replace HL:=zMk (And.intro HL.out (below_size hb));clear hb hbox hg;clear hcz32 hfz33;have hcz35 : w34.cell? ⟨gb1,0,none⟩ = some (.slice A0_0 l0_0.length c0_0):=(zCl BK1.out 0).trans rfl;have hfz36:=zFr BK1.out 0;have hcz37 : w34.cell? ⟨gb16,0,none⟩ = some (.slice none 0 0):=(zCl BK16.out 0).trans rfl;have hfz38:=zFr BK16.out 0) | ((with_reducible refine gate_store (t:=52) (p:=10) rfl ?_);refine store_event (t:=52) (p:=10) (v:=?vo40_) (w1:=(w34.setCell ⟨gb16,0,none⟩ (.slice A15 t13.length c15))) ?hg ?ho ?hn ?hr ?_;(case ho=>rfl);(case hg=>rfl);(case hn=>rfl);(case hr=>first | (go_simp;done) | (go_simp;rfl));intro w39 hw;have hk : Kept w34 w39 (fun k_=>k_ = gb16):=(by rw [hw];exact (Kept.setCell (Kept.refl w34 (fun k_=>k_ = gb16)) (p:=⟨gb16,0,none⟩) (.inl rfl) (.slice A15 t13.length c15)));have g0_:=GBK16.out;replace HZ8:=zMk (Kd.S_kept HZ8.out hk (fun k_ (hk_ : (w22.heap.size ≤ k_ ∧ k_ < w25.heap.size)) (hs_ : k_ = gb16)=>by have q_:=HL.out;omega));replace HZ11:=zMk (Kd.R_kept HZ11.out hk (fun k_ (hk_ : (w25.heap.size ≤ k_ ∧ k_ < w28.heap.size)) (hs_ : k_ = gb16)=>by have q_:=HL.out;omega));replace HZ15:=zMk (Kd.S_kept HZ15.out hk (fun k_ (hk_ : (w28.heap.size ≤ k_ ∧ k_ < w31.heap.size)) (hs_ : k_ = gb16)=>by have q_:=HL.out;omega));replace BK1:=zMk (blk_kept BK1.out hk (fun hs_=>by have q_:=HL.out;have g_:=GBK1.out;have hs2_ : gb1 = gb16:=hs_;omega));clear g0_;replace BK16:=zMk (show w39.heap[gb16]? = some (.cells #[.slice A15 t13.length c15] 52 (0,0)) from (by rw [hw];exact (blk_put (cs:=#[.slice none 0 0]) (cs':=#[.slice A15 t13.length c15]) BK16.out 0 _ rfl)));replace HB:=zMk (show Below w.heap.size w w39 from (by rw [hw];exact (below_set HB.out GW16.out)));replace HL:=zMk (And.intro HL.out hk.1);clear hk hw;clear hcz35 hfz36 hcz37 hfz38;have hcz41 : w39.cell? ⟨gb1,0,none⟩ = some (.slice A0_0 l0_0.length c0_0):=(zCl BK1.out 0).trans rfl;have hfz42:=zFr BK1.out 0;have hcz43 : w39.cell? ⟨gb16,0,none⟩ = some (.slice A15 t13.length c15):=(zCl BK16.out 0).trans rfl;have hfz44:=zFr BK16.out 0) | ((with_reducible refine gate_callee (f:=20) rfl ?_);refine goesL_ (some 42) rfl rfl Try.func20 (by kernel_rfl) rfl #[.agg #[.slice A0_0 l0_0.length c0_0]] rfl (by (try simp only [List.map_toArray,List.map_cons,List.map_nil]);first | done | rfl | (simp only [List.length_drop,List.length_take];rfl)) ?_;(with_reducible refine (laws_toFlash.calls k _ _ l0_0 t18 _ ?side1 ?side2 Fa7.out).mono ?_);(case side1=>exact Kd.C_below HR0_0.out HB.out);(case side2=>exact HC0_0.out);rintro e w45 ⟨v19,rfl,ho0,hb⟩;refine ⟨_,rfl,?_⟩;have HZ19:=zMk (Kd.S_lower (Kd.S_mono (ok':=fun k_=>(w39.heap.size ≤ k_ ∧ k_ < w45.heap.size)) (Kd.S_bound ho0) (fun k_ hk_=>⟨hk_.2.1,hk_.2.2.1⟩)) (below_size HB.out));clear ho0;replace HZ8:=zMk (Kd.S_below HZ8.out hb);replace HZ11:=zMk (Kd.R_below HZ11.out hb);replace HZ15:=zMk (Kd.S_below HZ15.out hb);replace BK1:=zMk (blk_below BK1.out hb);replace BK16:=zMk (blk_below BK16.out hb);replace HB:=zMk (below_step HB.out hb);replace HL:=zMk (And.intro HL.out (below_size hb));clear hb;obtain ⟨A19,c19,e19⟩:=Kd.S_slice HZ19.out;subst e19;clear hcz41 hfz42 hcz43 hfz44;have hcz46 : w45.cell? ⟨gb1,0,none⟩ = some (.slice A0_0 l0_0.length c0_0):=(zCl BK1.out 0).trans rfl;have hfz47:=zFr BK1.out 0;have hcz48 : w45.cell? ⟨gb16,0,none⟩ = some (.slice A15 t13.length c15):=(zCl BK16.out 0).trans rfl;have hfz49:=zFr BK16.out 0) | ((with_reducible refine gate_dst (N:=12) rfl ?_);refine box_event ?hg (N:=12) ?hd (cs:=#[.slice none 0 0]) (t:=52) ?hr ?_;(case hd=>rfl);(case hg=>rfl);(case hr=>first | (go_simp;done) | (go_simp;rfl));intro gb20 hg w50 hbox hb;replace HZ8:=zMk (Kd.S_below HZ8.out hb);replace HZ11:=zMk (Kd.R_below HZ11.out hb);replace HZ15:=zMk (Kd.S_below HZ15.out hb);replace HZ19:=zMk (Kd.S_below HZ19.out hb);replace BK1:=zMk (blk_below BK1.out hb);replace BK16:=zMk (blk_below BK16.out hb);have GBK20:=zMk (show gb20 = w45.heap.size ∧ gb20 < w50.heap.size from ⟨hg,blk_lt hbox⟩);have GW20:=zMk (show w.heap.size ≤ gb20 by have q_:=below_size HB.out;rw [hg];exact q_);have BK20:=zMk hbox;replace HB:=zMk (below_step HB.out hb);replace HL:=zMk (And.intro HL.out (below_size hb));clear hb hbox hg;clear hcz46 hfz47 hcz48 hfz49;have hcz51 : w50.cell? ⟨gb1,0,none⟩ = some (.slice A0_0 l0_0.length c0_0):=(zCl BK1.out 0).trans rfl;have hfz52:=zFr BK1.out 0;have hcz53 : w50.cell? ⟨gb16,0,none⟩ = some (.slice A15 t13.length c15):=(zCl BK16.out 0).trans rfl;have hfz54:=zFr BK16.out 0;have hcz55 : w50.cell? ⟨gb20,0,none⟩ = some (.slice none 0 0):=(zCl BK20.out 0).trans rfl;have hfz56:=zFr BK20.out 0) | ((with_reducible refine gate_store (t:=52) (p:=12) rfl ?_);refine store_event (t:=52) (p:=12) (v:=?vo58_) (w1:=(w50.setCell ⟨gb20,0,none⟩ (.slice A19 t18.length c19))) ?hg ?ho ?hn ?hr ?_;(case ho=>rfl);(case hg=>rfl);(case hn=>rfl);(case hr=>first | (go_simp;done) | (go_simp;rfl));intro w57 hw;have hk : Kept w50 w57 (fun k_=>k_ = gb20):=(by rw [hw];exact (Kept.setCell (Kept.refl w50 (fun k_=>k_ = gb20)) (p:=⟨gb20,0,none⟩) (.inl rfl) (.slice A19 t18.length c19)));have g0_:=GBK20.out;replace HZ8:=zMk (Kd.S_kept HZ8.out hk (fun k_ (hk_ : (w22.heap.size ≤ k_ ∧ k_ < w25.heap.size)) (hs_ : k_ = gb20)=>by have q_:=HL.out;omega));replace HZ11:=zMk (Kd.R_kept HZ11.out hk (fun k_ (hk_ : (w25.heap.size ≤ k_ ∧ k_ < w28.heap.size)) (hs_ : k_ = gb20)=>by have q_:=HL.out;omega));replace HZ15:=zMk (Kd.S_kept HZ15.out hk (fun k_ (hk_ : (w28.heap.size ≤ k_ ∧ k_ < w31.heap.size)) (hs_ : k_ = gb20)=>by have q_:=HL.out;omega));replace HZ19:=zMk (Kd.S_kept HZ19.out hk (fun k_ (hk_ : (w39.heap.size ≤ k_ ∧ k_ < w45.heap.size)) (hs_ : k_ = gb20)=>by have q_:=HL.out;omega));replace BK1:=zMk (blk_kept BK1.out hk (fun hs_=>by have q_:=HL.out;have g_:=GBK1.out;have hs2_ : gb1 = gb20:=hs_;omega));replace BK16:=zMk (blk_kept BK16.out hk (fun hs_=>by have q_:=HL.out;have g_:=GBK16.out;have hs2_ : gb16 = gb20:=hs_;omega));clear g0_;replace BK20:=zMk (show w57.heap[gb20]? = some (.cells #[.slice A19 t18.length c19] 52 (0,0)) from (by rw [hw];exact (blk_put (cs:=#[.slice none 0 0]) (cs':=#[.slice A19 t18.length c19]) BK20.out 0 _ rfl)));replace HB:=zMk (show Below w.heap.size w w57 from (by rw [hw];exact (below_set HB.out GW20.out)));replace HL:=zMk (And.intro HL.out hk.1);clear hk hw;clear hcz51 hfz52 hcz53 hfz54 hcz55 hfz56;have hcz59 : w57.cell? ⟨gb1,0,none⟩ = some (.slice A0_0 l0_0.length c0_0):=(zCl BK1.out 0).trans rfl;have hfz60:=zFr BK1.out 0;have hcz61 : w57.cell? ⟨gb16,0,none⟩ = some (.slice A15 t13.length c15):=(zCl BK16.out 0).trans rfl;have hfz62:=zFr BK16.out 0;have hcz63 : w57.cell? ⟨gb20,0,none⟩ = some (.slice A19 t18.length c19):=(zCl BK20.out 0).trans rfl;have hfz64:=zFr BK20.out 0) | ((with_reducible refine gate_callee (f:=28) rfl ?_);refine goesL_ (some 44) rfl rfl Try.func28 (by kernel_rfl) rfl #[.slice A1 l1.length c1] rfl (by (try simp only [List.map_toArray,List.map_cons,List.map_nil]);first | done | rfl | (simp only [List.length_drop,List.length_take];rfl)) ?_;(with_reducible refine (laws_toStepS.calls k _ _ l1 t22 _ ?side1 ?side2 Fa8.out).mono ?_);(case side1=>exact Kd.C_below HR1.out HB.out);(case side2=>exact HC1.out);rintro e w65 ⟨v23,rfl,ho0,hb⟩;refine ⟨_,rfl,?_⟩;have HZ23:=zMk (Kd.R_lower (Kd.R_mono (ok':=fun k_=>(w57.heap.size ≤ k_ ∧ k_ < w65.heap.size)) (Kd.R_bound ho0) (fun k_ hk_=>⟨hk_.2.1,hk_.2.2.1⟩)) (below_size HB.out));clear ho0;replace HZ8:=zMk (Kd.S_below HZ8.out hb);replace HZ11:=zMk (Kd.R_below HZ11.out hb);replace HZ15:=zMk (Kd.S_below HZ15.out hb);replace HZ19:=zMk (Kd.S_below HZ19.out hb);replace BK1:=zMk (blk_below BK1.out hb);replace BK16:=zMk (blk_below BK16.out hb);replace BK20:=zMk (blk_below BK20.out hb);replace HB:=zMk (below_step HB.out hb);replace HL:=zMk (And.intro HL.out (below_size hb));clear hb;obtain ⟨A23,c23,e23⟩:=Kd.R_slice HZ23.out;subst e23;clear hcz59 hfz60 hcz61 hfz62 hcz63 hfz64;have hcz66 : w65.cell? ⟨gb1,0,none⟩ = some (.slice A0_0 l0_0.length c0_0):=(zCl BK1.out 0).trans rfl;have hfz67:=zFr BK1.out 0;have hcz68 : w65.cell? ⟨gb16,0,none⟩ = some (.slice A15 t13.length c15):=(zCl BK16.out 0).trans rfl;have hfz69:=zFr BK16.out 0;have hcz70 : w65.cell? ⟨gb20,0,none⟩ = some (.slice A19 t18.length c19):=(zCl BK20.out 0).trans rfl;have hfz71:=zFr BK20.out 0) | ((with_reducible refine gate_callee (f:=29) rfl ?_);refine goesL_ (some 50) rfl rfl Try.func29 (by kernel_rfl) rfl #[.agg #[.slice A19 t18.length c19],.slice A23 t22.length c23,.int .i64 a2,.bool a3] rfl (by (try simp only [List.map_toArray,List.map_cons,List.map_nil]);first | done | rfl | (simp only [List.length_drop,List.length_take];rfl)) ?_;(with_reducible refine (impl_CutSteps.calls k _ _ t18 _ _ t22 a2 a3 t25 t26 _ ?side1 ?side2 ?side3 ?side4 Fa9.out).mono ?_);(case side1=>exact (Kd.S_reads' HZ19.out).2.2);(case side2=>exact (Kd.S_reads' HZ19.out).2.1);(case side3=>exact (Kd.R_reads' HZ23.out).2.2);(case side4=>exact (Kd.R_reads' HZ23.out).2.1);rintro e w72 ⟨v27,rfl,ho0,hb⟩;refine ⟨_,rfl,?_⟩;have HZ27:=zMk (Kd.S_lower (Kd.S_mono (ok':=fun k_=>(w65.heap.size ≤ k_ ∧ k_ < w72.heap.size)) (Kd.S_bound ho0) (fun k_ hk_=>⟨hk_.2.1,hk_.2.2.1⟩)) (below_size HB.out));clear ho0;replace HZ8:=zMk (Kd.S_below HZ8.out hb);replace HZ11:=zMk (Kd.R_below HZ11.out hb);replace HZ15:=zMk (Kd.S_below HZ15.out hb);replace HZ19:=zMk (Kd.S_below HZ19.out hb);replace HZ23:=zMk (Kd.R_below HZ23.out hb);replace BK1:=zMk (blk_below BK1.out hb);replace BK16:=zMk (blk_below BK16.out hb);replace BK20:=zMk (blk_below BK20.out hb);replace HB:=zMk (below_step HB.out hb);replace HL:=zMk (And.intro HL.out (below_size hb));clear hb;obtain ⟨A27,c27,e27⟩:=Kd.S_slice HZ27.out;subst e27;clear hcz66 hfz67 hcz68 hfz69 hcz70 hfz71;have hcz73 : w72.cell? ⟨gb1,0,none⟩ = some (.slice A0_0 l0_0.length c0_0):=(zCl BK1.out 0).trans rfl;have hfz74:=zFr BK1.out 0;have hcz75 : w72.cell? ⟨gb16,0,none⟩ = some (.slice A15 t13.length c15):=(zCl BK16.out 0).trans rfl;have hfz76:=zFr BK16.out 0;have hcz77 : w72.cell? ⟨gb20,0,none⟩ = some (.slice A19 t18.length c19):=(zCl BK20.out 0).trans rfl;have hfz78:=zFr BK20.out 0) | ((with_reducible refine gate_dst (N:=14) rfl ?_);refine box_event ?hg (N:=14) ?hd (cs:=#[.slice none 0 0]) (t:=52) ?hr ?_;(case hd=>rfl);(case hg=>rfl);(case hr=>first | (go_simp;done) | (go_simp;rfl));intro gb28 hg w79 hbox hb;replace HZ8:=zMk (Kd.S_below HZ8.out hb);replace HZ11:=zMk (Kd.R_below HZ11.out hb);replace HZ15:=zMk (Kd.S_below HZ15.out hb);replace HZ19:=zMk (Kd.S_below HZ19.out hb);replace HZ23:=zMk (Kd.R_below HZ23.out hb);replace HZ27:=zMk (Kd.S_below HZ27.out hb);replace BK1:=zMk (blk_below BK1.out hb);replace BK16:=zMk (blk_below BK16.out hb);replace BK20:=zMk (blk_below BK20.out hb);have GBK28:=zMk (show gb28 = w72.heap.size ∧ gb28 < w79.heap.size from ⟨hg,blk_lt hbox⟩);have GW28:=zMk (show w.heap.size ≤ gb28 by have q_:=below_size HB.out;rw [hg];exact q_);have BK28:=zMk hbox;replace HB:=zMk (below_step HB.out hb);replace HL:=zMk (And.intro HL.out (below_size hb));clear hb hbox hg;clear hcz73 hfz74 hcz75 hfz76 hcz77 hfz78;have hcz80 : w79.cell? ⟨gb1,0,none⟩ = some (.slice A0_0 l0_0.length c0_0):=(zCl BK1.out 0).trans rfl;have hfz81:=zFr BK1.out 0;have hcz82 : w79.cell? ⟨gb16,0,none⟩ = some (.slice A15 t13.length c15):=(zCl BK16.out 0).trans rfl;have hfz83:=zFr BK16.out 0;have hcz84 : w79.cell? ⟨gb20,0,none⟩ = some (.slice A19 t18.length c19):=(zCl BK20.out 0).trans rfl;have hfz85:=zFr BK20.out 0;have hcz86 : w79.cell? ⟨gb28,0,none⟩ = some (.slice none 0 0):=(zCl BK28.out 0).trans rfl;have hfz87:=zFr BK28.out 0) | ((with_reducible refine gate_store (t:=52) (p:=14) rfl ?_);refine store_event (t:=52) (p:=14) (v:=?vo89_) (w1:=(w79.setCell ⟨gb28,0,none⟩ (.slice A27 t25.length c27))) ?hg ?ho ?hn ?hr ?_;(case ho=>rfl);(case hg=>rfl);(case hn=>rfl);(case hr=>first | (go_simp;done) | (go_simp;rfl));intro w88 hw;have hk : Kept w79 w88 (fun k_=>k_ = gb28):=(by rw [hw];exact (Kept.setCell (Kept.refl w79 (fun k_=>k_ = gb28)) (p:=⟨gb28,0,none⟩) (.inl rfl) (.slice A27 t25.length c27)));have g0_:=GBK28.out;replace HZ8:=zMk (Kd.S_kept HZ8.out hk (fun k_ (hk_ : (w22.heap.size ≤ k_ ∧ k_ < w25.heap.size)) (hs_ : k_ = gb28)=>by have q_:=HL.out;omega));replace HZ11:=zMk (Kd.R_kept HZ11.out hk (fun k_ (hk_ : (w25.heap.size ≤ k_ ∧ k_ < w28.heap.size)) (hs_ : k_ = gb28)=>by have q_:=HL.out;omega));replace HZ15:=zMk (Kd.S_kept HZ15.out hk (fun k_ (hk_ : (w28.heap.size ≤ k_ ∧ k_ < w31.heap.size)) (hs_ : k_ = gb28)=>by have q_:=HL.out;omega));replace HZ19:=zMk (Kd.S_kept HZ19.out hk (fun k_ (hk_ : (w39.heap.size ≤ k_ ∧ k_ < w45.heap.size)) (hs_ : k_ = gb28)=>by have q_:=HL.out;omega));replace HZ23:=zMk (Kd.R_kept HZ23.out hk (fun k_ (hk_ : (w57.heap.size ≤ k_ ∧ k_ < w65.heap.size)) (hs_ : k_ = gb28)=>by have q_:=HL.out;omega));replace HZ27:=zMk (Kd.S_kept HZ27.out hk (fun k_ (hk_ : (w65.heap.size ≤ k_ ∧ k_ < w72.heap.size)) (hs_ : k_ = gb28)=>by have q_:=HL.out;omega));replace BK1:=zMk (blk_kept BK1.out hk (fun hs_=>by have q_:=HL.out;have g_:=GBK1.out;have hs2_ : gb1 = gb28:=hs_;omega));replace BK16:=zMk (blk_kept BK16.out hk (fun hs_=>by have q_:=HL.out;have g_:=GBK16.out;have hs2_ : gb16 = gb28:=hs_;omega));replace BK20:=zMk (blk_kept BK20.out hk (fun hs_=>by have q_:=HL.out;have g_:=GBK20.out;have hs2_ : gb20 = gb28:=hs_;omega));clear g0_;replace BK28:=zMk (show w88.heap[gb28]? = some (.cells #[.slice A27 t25.length c27] 52 (0,0)) from (by rw [hw];exact (blk_put (cs:=#[.slice none 0 0]) (cs':=#[.slice A27 t25.length c27]) BK28.out 0 _ rfl)));replace HB:=zMk (show Below w.heap.size w w88 from (by rw [hw];exact (below_set HB.out GW28.out)));replace HL:=zMk (And.intro HL.out hk.1);clear hk hw;clear hcz80 hfz81 hcz82 hfz83 hcz84 hfz85 hcz86 hfz87;have hcz90 : w88.cell? ⟨gb1,0,none⟩ = some (.slice A0_0 l0_0.length c0_0):=(zCl BK1.out 0).trans rfl;have hfz91:=zFr BK1.out 0;have hcz92 : w88.cell? ⟨gb16,0,none⟩ = some (.slice A15 t13.length c15):=(zCl BK16.out 0).trans rfl;have hfz93:=zFr BK16.out 0;have hcz94 : w88.cell? ⟨gb20,0,none⟩ = some (.slice A19 t18.length c19):=(zCl BK20.out 0).trans rfl;have hfz95:=zFr BK20.out 0;have hcz96 : w88.cell? ⟨gb28,0,none⟩ = some (.slice A27 t25.length c27):=(zCl BK28.out 0).trans rfl;have hfz97:=zFr BK28.out 0) | ((with_reducible refine gate_callee (f:=23) rfl ?_);refine goesL_ (some 55) rfl rfl Try.func23 (by kernel_rfl) rfl #[.agg #[.slice A27 t25.length c27],.agg #[.slice A15 t13.length c15]] rfl (by (try simp only [List.map_toArray,List.map_cons,List.map_nil]);first | done | rfl | (simp only [List.length_drop,List.length_take];rfl)) ?_;(with_reducible refine (laws_eqFlash.calls k _ _ t25 _ _ t13 true _ ?side1 ?side2 ?side3 ?side4 Fa10.out).mono ?_);(case side1=>exact (Kd.S_reads' HZ27.out).2.2);(case side2=>exact (Kd.S_reads' HZ27.out).2.1);(case side3=>exact (Kd.S_reads' HZ15.out).2.2);(case side4=>exact (Kd.S_reads' HZ15.out).2.1);rintro e w98 ⟨rfl,hb⟩;refine ⟨_,rfl,?_⟩;replace HZ8:=zMk (Kd.S_below HZ8.out hb);replace HZ11:=zMk (Kd.R_below HZ11.out hb);replace HZ15:=zMk (Kd.S_below HZ15.out hb);replace HZ19:=zMk (Kd.S_below HZ19.out hb);replace HZ23:=zMk (Kd.R_below HZ23.out hb);replace HZ27:=zMk (Kd.S_below HZ27.out hb);replace BK1:=zMk (blk_below BK1.out hb);replace BK16:=zMk (blk_below BK16.out hb);replace BK20:=zMk (blk_below BK20.out hb);replace BK28:=zMk (blk_below BK28.out hb);replace HB:=zMk (below_step HB.out hb);replace HL:=zMk (And.intro HL.out (below_size hb));clear hb;clear hcz90 hfz91 hcz92 hfz93 hcz94 hfz95 hcz96 hfz97;have hcz99 : w98.cell? ⟨gb1,0,none⟩ = some (.slice A0_0 l0_0.length c0_0):=(zCl BK1.out 0).trans rfl;have hfz100:=zFr BK1.out 0;have hcz101 : w98.cell? ⟨gb16,0,none⟩ = some (.slice A15 t13.length c15):=(zCl BK16.out 0).trans rfl;have hfz102:=zFr BK16.out 0;have hcz103 : w98.cell? ⟨gb20,0,none⟩ = some (.slice A19 t18.length c19):=(zCl BK20.out 0).trans rfl;have hfz104:=zFr BK20.out 0;have hcz105 : w98.cell? ⟨gb28,0,none⟩ = some (.slice A27 t25.length c27):=(zCl BK28.out 0).trans rfl;have hfz106:=zFr BK28.out 0))
 replace HZ8:=zMk (Kd.S_drew HZ8.out);replace HZ11:=zMk (Kd.R_drew HZ11.out);replace HZ15:=zMk (Kd.S_drew HZ15.out);replace HZ19:=zMk (Kd.S_drew HZ19.out);replace HZ23:=zMk (Kd.R_drew HZ23.out);replace HZ27:=zMk (Kd.S_drew HZ27.out);replace BK1:=zMk (blk_drew BK1.out);replace BK16:=zMk (blk_drew BK16.out);replace BK20:=zMk (blk_drew BK20.out);replace BK28:=zMk (blk_drew BK28.out);replace HB:=zMk (below_drew1 HB.out);replace HL:=zMk (And.intro HL.out (show w98.heap.size ≤ w98.drew.heap.size from Nat.le_refl _));clear hcz99 hfz100 hcz101 hfz102 hcz103 hfz104 hcz105 hfz106;refine start_ (n:=5) (S:=fun w'=>w'.cell? ⟨gb20,0,none⟩ = some (.slice A19 t18.length c19) ∧ w'.cell? ⟨gb1,0,none⟩ = some (.slice A0_0 l0_0.length c0_0)) (ds:=[]) (zA 5 0) (by kernel_rfl) rfl rfl ⟨(zCl BK20.out 0).trans rfl,(zCl BK1.out 0).trans rfl⟩ (fun hHeld=>?_);generalize w98.drew = w107 at HZ8 HZ11 HZ15 HZ19 HZ23 HZ27 BK1 BK16 BK20 BK28 HB HL hHeld ⊢;refine zT 0 62 (zA 5 1) (by kernel_rfl) hHeld ?_;refine zT 1 63 (zA 5 3) (by kernel_rfl) hHeld ?_;refine one_ (i:=2) (N:=some 64) (zA 5 7) rfl rfl (by kernel_rfl) (by decide) (fun K hK=>?_);refine goes_ Try.func20 (by kernel_rfl) rfl #[.agg #[.slice A0_0 l0_0.length c0_0]] (by rfl) rfl rfl (by (try simp only [List.map_toArray,List.map_cons,List.map_nil]);first | done | rfl | (simp only [List.length_drop,List.length_take];rfl)) ?_
 (with_reducible refine (laws_toFlash.calls k _ _ l0_0 t32 _ ?side1 ?side2 Fa13.out).mono ?_)
 (case side1=>exact Kd.C_below HR0_0.out HB.out)
 (case side2=>exact HC0_0.out)
 rintro e w108 ⟨v33,rfl,ho0,hb⟩;refine ⟨_,rfl,?_⟩;have HZ33:=zMk (Kd.S_lower (Kd.S_mono (ok':=fun k_=>(w107.heap.size ≤ k_ ∧ k_ < w108.heap.size)) (Kd.S_bound ho0) (fun k_ hk_=>⟨hk_.2.1,hk_.2.2.1⟩)) (below_size HB.out));clear ho0;replace HZ8:=zMk (Kd.S_below HZ8.out hb);replace HZ11:=zMk (Kd.R_below HZ11.out hb);replace HZ15:=zMk (Kd.S_below HZ15.out hb);replace HZ19:=zMk (Kd.S_below HZ19.out hb);replace HZ23:=zMk (Kd.R_below HZ23.out hb);replace HZ27:=zMk (Kd.S_below HZ27.out hb);replace BK1:=zMk (blk_below BK1.out hb);replace BK16:=zMk (blk_below BK16.out hb);replace BK20:=zMk (blk_below BK20.out hb);replace BK28:=zMk (blk_below BK28.out hb);replace HB:=zMk (below_step HB.out hb);replace HL:=zMk (And.intro HL.out (below_size hb));clear hb;obtain ⟨A33,c33,e33⟩:=Kd.S_slice HZ33.out;subst e33;refine hK.out _ _ ⟨(zCl BK20.out 0).trans rfl,(zCl BK1.out 0).trans rfl⟩ (fun hHeld=>?_);clear hK K;refine norm_ (a':=?_) ?_ ?_;rotate_left
 ·show Act.put _ (some 64) _ = _;simp only [Act.put,zS1,zS2,zS3,i64_w,i32_w];rfl
 refine one_ (i:=3) (N:=some 65) (zA 5 15) rfl rfl (by kernel_rfl) (by decide) (fun K hK=>?_);refine goes_ Try.func23 (by kernel_rfl) rfl #[.agg #[.slice A19 t18.length c19],.agg #[.slice A33 t32.length c33]] (by rfl) rfl rfl (by (try simp only [List.map_toArray,List.map_cons,List.map_nil]);first | done | rfl | (simp only [List.length_drop,List.length_take];rfl)) ?_
 (with_reducible refine (laws_eqFlash.calls k _ _ t18 _ _ t32 true _ ?side1 ?side2 ?side3 ?side4 Fa14.out).mono ?_)
 (case side1=>exact (Kd.S_reads' HZ19.out).2.2)
 (case side2=>exact (Kd.S_reads' HZ19.out).2.1)
 (case side3=>exact (Kd.S_reads' HZ33.out).2.2)
 (case side4=>exact (Kd.S_reads' HZ33.out).2.1)
 rintro e w109 ⟨rfl,hb⟩;refine ⟨_,rfl,?_⟩;replace HZ8:=zMk (Kd.S_below HZ8.out hb);replace HZ11:=zMk (Kd.R_below HZ11.out hb);replace HZ15:=zMk (Kd.S_below HZ15.out hb);replace HZ19:=zMk (Kd.S_below HZ19.out hb);replace HZ23:=zMk (Kd.R_below HZ23.out hb);replace HZ27:=zMk (Kd.S_below HZ27.out hb);replace HZ33:=zMk (Kd.S_below HZ33.out hb);replace BK1:=zMk (blk_below BK1.out hb);replace BK16:=zMk (blk_below BK16.out hb);replace BK20:=zMk (blk_below BK20.out hb);replace BK28:=zMk (blk_below BK28.out hb);replace HB:=zMk (below_step HB.out hb);replace HL:=zMk (And.intro HL.out (below_size hb));clear hb;refine hK.out _ _ ⟨(zCl BK20.out 0).trans rfl,(zCl BK1.out 0).trans rfl⟩ (fun hHeld=>?_);clear hK K;refine norm_ (a':=?_) ?_ ?_;rotate_left
 ·show Act.put _ (some 65) _ = _;simp only [Act.put,zS1,zS2,zS3,i64_w,i32_w];rfl
 refine zP 4 66 (zA 5 31) (by kernel_rfl) ?_;refine done_ (by kernel_rfl) ?_;have hcz110 : w109.cell? ⟨gb1,0,none⟩ = some (.slice A0_0 l0_0.length c0_0):=(zCl BK1.out 0).trans rfl;have hfz111:=zFr BK1.out 0;have hcz112 : w109.cell? ⟨gb16,0,none⟩ = some (.slice A15 t13.length c15):=(zCl BK16.out 0).trans rfl;have hfz113:=zFr BK16.out 0;have hcz114 : w109.cell? ⟨gb20,0,none⟩ = some (.slice A19 t18.length c19):=(zCl BK20.out 0).trans rfl;have hfz115:=zFr BK20.out 0;have hcz116 : w109.cell? ⟨gb28,0,none⟩ = some (.slice A27 t25.length c27):=(zCl BK28.out 0).trans rfl;have hfz117:=zFr BK28.out 0;go_wp2_with (first | ((with_reducible refine gate_callee (f:=28) rfl ?_);refine goesL_ (some 69) rfl rfl Try.func28 (by kernel_rfl) rfl #[.slice A1 l1.length c1] rfl (by (try simp only [List.map_toArray,List.map_cons,List.map_nil]);first | done | rfl | (simp only [List.length_drop,List.length_take];rfl)) ?_;(with_reducible refine (laws_toStepS.calls k _ _ l1 t37 _ ?side1 ?side2 Fa16.out).mono ?_);(case side1=>exact Kd.C_below HR1.out HB.out);(case side2=>exact HC1.out);rintro e w118 ⟨v38,rfl,ho0,hb⟩;refine ⟨_,rfl,?_⟩;have HZ38:=zMk (Kd.R_lower (Kd.R_mono (ok':=fun k_=>(w109.heap.size ≤ k_ ∧ k_ < w118.heap.size)) (Kd.R_bound ho0) (fun k_ hk_=>⟨hk_.2.1,hk_.2.2.1⟩)) (below_size HB.out));clear ho0;replace HZ8:=zMk (Kd.S_below HZ8.out hb);replace HZ11:=zMk (Kd.R_below HZ11.out hb);replace HZ15:=zMk (Kd.S_below HZ15.out hb);replace HZ19:=zMk (Kd.S_below HZ19.out hb);replace HZ23:=zMk (Kd.R_below HZ23.out hb);replace HZ27:=zMk (Kd.S_below HZ27.out hb);replace HZ33:=zMk (Kd.S_below HZ33.out hb);replace BK1:=zMk (blk_below BK1.out hb);replace BK16:=zMk (blk_below BK16.out hb);replace BK20:=zMk (blk_below BK20.out hb);replace BK28:=zMk (blk_below BK28.out hb);replace HB:=zMk (below_step HB.out hb);replace HL:=zMk (And.intro HL.out (below_size hb));clear hb;obtain ⟨A38,c38,e38⟩:=Kd.R_slice HZ38.out;subst e38;clear hcz110 hfz111 hcz112 hfz113 hcz114 hfz115 hcz116 hfz117;have hcz119 : w118.cell? ⟨gb1,0,none⟩ = some (.slice A0_0 l0_0.length c0_0):=(zCl BK1.out 0).trans rfl;have hfz120:=zFr BK1.out 0;have hcz121 : w118.cell? ⟨gb16,0,none⟩ = some (.slice A15 t13.length c15):=(zCl BK16.out 0).trans rfl;have hfz122:=zFr BK16.out 0;have hcz123 : w118.cell? ⟨gb20,0,none⟩ = some (.slice A19 t18.length c19):=(zCl BK20.out 0).trans rfl;have hfz124:=zFr BK20.out 0;have hcz125 : w118.cell? ⟨gb28,0,none⟩ = some (.slice A27 t25.length c27):=(zCl BK28.out 0).trans rfl;have hfz126:=zFr BK28.out 0) | ((with_reducible refine gate_callee (f:=30) rfl ?_);refine goesL_ (some 70) rfl rfl Try.func30 (by kernel_rfl) rfl #[.slice A23 t22.length c23,.slice A38 t37.length c38] rfl (by (try simp only [List.map_toArray,List.map_cons,List.map_nil]);first | done | rfl | (simp only [List.length_drop,List.length_take];rfl)) ?_;(with_reducible refine (laws_eqStepS.calls k _ _ t22 _ _ t37 true _ ?side1 ?side2 ?side3 ?side4 Fa17.out).mono ?_);(case side1=>exact (Kd.R_reads' HZ23.out).2.2);(case side2=>exact (Kd.R_reads' HZ23.out).2.1);(case side3=>exact (Kd.R_reads' HZ38.out).2.2);(case side4=>exact (Kd.R_reads' HZ38.out).2.1);rintro e w127 ⟨rfl,hb⟩;refine ⟨_,rfl,?_⟩;replace HZ8:=zMk (Kd.S_below HZ8.out hb);replace HZ11:=zMk (Kd.R_below HZ11.out hb);replace HZ15:=zMk (Kd.S_below HZ15.out hb);replace HZ19:=zMk (Kd.S_below HZ19.out hb);replace HZ23:=zMk (Kd.R_below HZ23.out hb);replace HZ27:=zMk (Kd.S_below HZ27.out hb);replace HZ33:=zMk (Kd.S_below HZ33.out hb);replace HZ38:=zMk (Kd.R_below HZ38.out hb);replace BK1:=zMk (blk_below BK1.out hb);replace BK16:=zMk (blk_below BK16.out hb);replace BK20:=zMk (blk_below BK20.out hb);replace BK28:=zMk (blk_below BK28.out hb);replace HB:=zMk (below_step HB.out hb);replace HL:=zMk (And.intro HL.out (below_size hb));clear hb;clear hcz119 hfz120 hcz121 hfz122 hcz123 hfz124 hcz125 hfz126;have hcz128 : w127.cell? ⟨gb1,0,none⟩ = some (.slice A0_0 l0_0.length c0_0):=(zCl BK1.out 0).trans rfl;have hfz129:=zFr BK1.out 0;have hcz130 : w127.cell? ⟨gb16,0,none⟩ = some (.slice A15 t13.length c15):=(zCl BK16.out 0).trans rfl;have hfz131:=zFr BK16.out 0;have hcz132 : w127.cell? ⟨gb20,0,none⟩ = some (.slice A19 t18.length c19):=(zCl BK20.out 0).trans rfl;have hfz133:=zFr BK20.out 0;have hcz134 : w127.cell? ⟨gb28,0,none⟩ = some (.slice A27 t25.length c27):=(zCl BK28.out 0).trans rfl;have hfz135:=zFr BK28.out 0) | ((with_reducible refine gate_callee (f:=24) rfl ?_);refine goesL_ (some 74) rfl rfl Try.func24 (by kernel_rfl) rfl #[.agg #[.slice A19 t18.length c19],.int .i64 1] rfl (by (try simp only [List.map_toArray,List.map_cons,List.map_nil]);first | done | rfl | (simp only [List.length_drop,List.length_take];rfl)) ?_;(with_reducible refine (laws_markFlash.calls k (fun k_=>(w39.heap.size ≤ k_ ∧ k_ < w45.heap.size)) _ t18 1 t42 t43 w _ HB.out HZ19.out Fa19.out).mono ?_);rintro e w136 ⟨rfl,hy0,hb0,hk⟩;refine ⟨_,rfl,?_⟩;have ny0_:=zMk (Kd.S_mono (ok':=fun k_=>((w39.heap.size ≤ k_ ∧ k_ < w45.heap.size) ∨ (w127.heap.size ≤ k_ ∧ k_ < w136.heap.size))) (Kd.S_bound hy0) (fun k_ hk_=>hk_.1.imp id (fun h_=>⟨h_,hk_.2.2.1⟩)));replace HZ8:=zMk (Kd.S_kept HZ8.out hk (fun k_ (hk_ : (w22.heap.size ≤ k_ ∧ k_ < w25.heap.size)) (hs_ : (w39.heap.size ≤ k_ ∧ k_ < w45.heap.size))=>by have q_:=HL.out;omega));replace HZ11:=zMk (Kd.R_kept HZ11.out hk (fun k_ (hk_ : (w25.heap.size ≤ k_ ∧ k_ < w28.heap.size)) (hs_ : (w39.heap.size ≤ k_ ∧ k_ < w45.heap.size))=>by have q_:=HL.out;omega));replace HZ15:=zMk (Kd.S_kept HZ15.out hk (fun k_ (hk_ : (w28.heap.size ≤ k_ ∧ k_ < w31.heap.size)) (hs_ : (w39.heap.size ≤ k_ ∧ k_ < w45.heap.size))=>by have q_:=HL.out;omega));replace HZ23:=zMk (Kd.R_kept HZ23.out hk (fun k_ (hk_ : (w57.heap.size ≤ k_ ∧ k_ < w65.heap.size)) (hs_ : (w39.heap.size ≤ k_ ∧ k_ < w45.heap.size))=>by have q_:=HL.out;omega));replace HZ27:=zMk (Kd.S_kept HZ27.out hk (fun k_ (hk_ : (w65.heap.size ≤ k_ ∧ k_ < w72.heap.size)) (hs_ : (w39.heap.size ≤ k_ ∧ k_ < w45.heap.size))=>by have q_:=HL.out;omega));replace HZ33:=zMk (Kd.S_kept HZ33.out hk (fun k_ (hk_ : (w107.heap.size ≤ k_ ∧ k_ < w108.heap.size)) (hs_ : (w39.heap.size ≤ k_ ∧ k_ < w45.heap.size))=>by have q_:=HL.out;omega));replace HZ38:=zMk (Kd.R_kept HZ38.out hk (fun k_ (hk_ : (w109.heap.size ≤ k_ ∧ k_ < w118.heap.size)) (hs_ : (w39.heap.size ≤ k_ ∧ k_ < w45.heap.size))=>by have q_:=HL.out;omega));replace BK1:=zMk (blk_kept BK1.out hk (fun hs_=>by have q_:=HL.out;have g_:=GBK1.out;have hs2_ : (w39.heap.size ≤ gb1 ∧ gb1 < w45.heap.size):=hs_;omega));replace BK16:=zMk (blk_kept BK16.out hk (fun hs_=>by have q_:=HL.out;have g_:=GBK16.out;have hs2_ : (w39.heap.size ≤ gb16 ∧ gb16 < w45.heap.size):=hs_;omega));replace BK20:=zMk (blk_kept BK20.out hk (fun hs_=>by have q_:=HL.out;have g_:=GBK20.out;have hs2_ : (w39.heap.size ≤ gb20 ∧ gb20 < w45.heap.size):=hs_;omega));replace BK28:=zMk (blk_kept BK28.out hk (fun hs_=>by have q_:=HL.out;have g_:=GBK28.out;have hs2_ : (w39.heap.size ≤ gb28 ∧ gb28 < w45.heap.size):=hs_;omega));replace HZ19:=ny0_;clear ny0_;replace HB:=zMk hb0;replace HL:=zMk (And.intro HL.out hk.1);clear hb0 hk hy0;clear hcz128 hfz129 hcz130 hfz131 hcz132 hfz133 hcz134 hfz135;have hcz137 : w136.cell? ⟨gb1,0,none⟩ = some (.slice A0_0 l0_0.length c0_0):=(zCl BK1.out 0).trans rfl;have hfz138:=zFr BK1.out 0;have hcz139 : w136.cell? ⟨gb16,0,none⟩ = some (.slice A15 t13.length c15):=(zCl BK16.out 0).trans rfl;have hfz140:=zFr BK16.out 0;have hcz141 : w136.cell? ⟨gb20,0,none⟩ = some (.slice A19 t18.length c19):=(zCl BK20.out 0).trans rfl;have hfz142:=zFr BK20.out 0;have hcz143 : w136.cell? ⟨gb28,0,none⟩ = some (.slice A27 t25.length c27):=(zCl BK28.out 0).trans rfl;have hfz144:=zFr BK28.out 0) | ((with_reducible refine gate_callee (f:=31) rfl ?_);refine goesL_ (some 77) rfl rfl Try.func31 (by kernel_rfl) rfl #[.slice A23 t22.length c23,.int .i64 t42] rfl (by (try simp only [List.map_toArray,List.map_cons,List.map_nil]);first | done | rfl | (simp only [List.length_drop,List.length_take];rfl)) ?_;(with_reducible refine (laws_markStepS.calls k (fun k_=>(w57.heap.size ≤ k_ ∧ k_ < w65.heap.size)) _ t22 t42 t45 t46 w _ HB.out HZ23.out Fa20.out).mono ?_);rintro e w145 ⟨rfl,hy0,hb0,hk⟩;refine ⟨_,rfl,?_⟩;have ny0_:=zMk (Kd.R_mono (ok':=fun k_=>((w57.heap.size ≤ k_ ∧ k_ < w65.heap.size) ∨ (w136.heap.size ≤ k_ ∧ k_ < w145.heap.size))) (Kd.R_bound hy0) (fun k_ hk_=>hk_.1.imp id (fun h_=>⟨h_,hk_.2.2.1⟩)));replace HZ8:=zMk (Kd.S_kept HZ8.out hk (fun k_ (hk_ : (w22.heap.size ≤ k_ ∧ k_ < w25.heap.size)) (hs_ : (w57.heap.size ≤ k_ ∧ k_ < w65.heap.size))=>by have q_:=HL.out;omega));replace HZ11:=zMk (Kd.R_kept HZ11.out hk (fun k_ (hk_ : (w25.heap.size ≤ k_ ∧ k_ < w28.heap.size)) (hs_ : (w57.heap.size ≤ k_ ∧ k_ < w65.heap.size))=>by have q_:=HL.out;omega));replace HZ15:=zMk (Kd.S_kept HZ15.out hk (fun k_ (hk_ : (w28.heap.size ≤ k_ ∧ k_ < w31.heap.size)) (hs_ : (w57.heap.size ≤ k_ ∧ k_ < w65.heap.size))=>by have q_:=HL.out;omega));replace HZ19:=zMk (Kd.S_kept HZ19.out hk (fun k_ (hk_ : ((w39.heap.size ≤ k_ ∧ k_ < w45.heap.size) ∨ (w127.heap.size ≤ k_ ∧ k_ < w136.heap.size))) (hs_ : (w57.heap.size ≤ k_ ∧ k_ < w65.heap.size))=>by have q_:=HL.out;omega));replace HZ27:=zMk (Kd.S_kept HZ27.out hk (fun k_ (hk_ : (w65.heap.size ≤ k_ ∧ k_ < w72.heap.size)) (hs_ : (w57.heap.size ≤ k_ ∧ k_ < w65.heap.size))=>by have q_:=HL.out;omega));replace HZ33:=zMk (Kd.S_kept HZ33.out hk (fun k_ (hk_ : (w107.heap.size ≤ k_ ∧ k_ < w108.heap.size)) (hs_ : (w57.heap.size ≤ k_ ∧ k_ < w65.heap.size))=>by have q_:=HL.out;omega));replace HZ38:=zMk (Kd.R_kept HZ38.out hk (fun k_ (hk_ : (w109.heap.size ≤ k_ ∧ k_ < w118.heap.size)) (hs_ : (w57.heap.size ≤ k_ ∧ k_ < w65.heap.size))=>by have q_:=HL.out;omega));replace BK1:=zMk (blk_kept BK1.out hk (fun hs_=>by have q_:=HL.out;have g_:=GBK1.out;have hs2_ : (w57.heap.size ≤ gb1 ∧ gb1 < w65.heap.size):=hs_;omega));replace BK16:=zMk (blk_kept BK16.out hk (fun hs_=>by have q_:=HL.out;have g_:=GBK16.out;have hs2_ : (w57.heap.size ≤ gb16 ∧ gb16 < w65.heap.size):=hs_;omega));replace BK20:=zMk (blk_kept BK20.out hk (fun hs_=>by have q_:=HL.out;have g_:=GBK20.out;have hs2_ : (w57.heap.size ≤ gb20 ∧ gb20 < w65.heap.size):=hs_;omega));replace BK28:=zMk (blk_kept BK28.out hk (fun hs_=>by have q_:=HL.out;have g_:=GBK28.out;have hs2_ : (w57.heap.size ≤ gb28 ∧ gb28 < w65.heap.size):=hs_;omega));replace HZ23:=ny0_;clear ny0_;replace HB:=zMk hb0;replace HL:=zMk (And.intro HL.out hk.1);clear hb0 hk hy0;clear hcz137 hfz138 hcz139 hfz140 hcz141 hfz142 hcz143 hfz144;have hcz146 : w145.cell? ⟨gb1,0,none⟩ = some (.slice A0_0 l0_0.length c0_0):=(zCl BK1.out 0).trans rfl;have hfz147:=zFr BK1.out 0;have hcz148 : w145.cell? ⟨gb16,0,none⟩ = some (.slice A15 t13.length c15):=(zCl BK16.out 0).trans rfl;have hfz149:=zFr BK16.out 0;have hcz150 : w145.cell? ⟨gb20,0,none⟩ = some (.slice A19 t18.length c19):=(zCl BK20.out 0).trans rfl;have hfz151:=zFr BK20.out 0;have hcz152 : w145.cell? ⟨gb28,0,none⟩ = some (.slice A27 t25.length c27):=(zCl BK28.out 0).trans rfl;have hfz153:=zFr BK28.out 0) | (go_at_call 23;(with_reducible show Calls _ _ _ w145 _);(with_reducible refine (laws_eqFlash.calls k _ _ t25 _ _ t13 true _ ?side1 ?side2 ?side3 ?side4 Fa21.out).mono ?_);(case side1=>exact (Kd.S_reads' HZ27.out).2.2);(case side2=>exact (Kd.S_reads' HZ27.out).2.1);(case side3=>exact (Kd.S_reads' HZ15.out).2.2);(case side4=>exact (Kd.S_reads' HZ15.out).2.1);rintro e w154 ⟨rfl,hb⟩;replace HZ8:=zMk (Kd.S_below HZ8.out hb);replace HZ11:=zMk (Kd.R_below HZ11.out hb);replace HZ15:=zMk (Kd.S_below HZ15.out hb);replace HZ19:=zMk (Kd.S_below HZ19.out hb);replace HZ23:=zMk (Kd.R_below HZ23.out hb);replace HZ27:=zMk (Kd.S_below HZ27.out hb);replace HZ33:=zMk (Kd.S_below HZ33.out hb);replace HZ38:=zMk (Kd.R_below HZ38.out hb);replace BK1:=zMk (blk_below BK1.out hb);replace BK16:=zMk (blk_below BK16.out hb);replace BK20:=zMk (blk_below BK20.out hb);replace BK28:=zMk (blk_below BK28.out hb);replace HB:=zMk (below_step HB.out hb);replace HL:=zMk (And.intro HL.out (below_size hb));clear hb;clear hcz146 hfz147 hcz148 hfz149 hcz150 hfz151 hcz152 hfz153;have hcz155 : w154.cell? ⟨gb1,0,none⟩ = some (.slice A0_0 l0_0.length c0_0):=(zCl BK1.out 0).trans rfl;have hfz156:=zFr BK1.out 0;have hcz157 : w154.cell? ⟨gb16,0,none⟩ = some (.slice A15 t13.length c15):=(zCl BK16.out 0).trans rfl;have hfz158:=zFr BK16.out 0;have hcz159 : w154.cell? ⟨gb20,0,none⟩ = some (.slice A19 t18.length c19):=(zCl BK20.out 0).trans rfl;have hfz160:=zFr BK20.out 0;have hcz161 : w154.cell? ⟨gb28,0,none⟩ = some (.slice A27 t25.length c27):=(zCl BK28.out 0).trans rfl;have hfz162:=zFr BK28.out 0) | ((with_reducible refine gate_callee (f:=24) rfl ?_);refine goesL_ (some 93) rfl rfl Try.func24 (by kernel_rfl) rfl #[.agg #[.slice A27 t25.length c27],.int .i64 1] rfl (by (try simp only [List.map_toArray,List.map_cons,List.map_nil]);first | done | rfl | (simp only [List.length_drop,List.length_take];rfl)) ?_;(with_reducible refine (laws_markFlash.calls k (fun k_=>(w65.heap.size ≤ k_ ∧ k_ < w72.heap.size)) _ t25 1 t50 t51 w _ HB.out HZ27.out Fa25.out).mono ?_);rintro e w163 ⟨rfl,hy0,hb0,hk⟩;refine ⟨_,rfl,?_⟩;have ny0_:=zMk (Kd.S_mono (ok':=fun k_=>((w65.heap.size ≤ k_ ∧ k_ < w72.heap.size) ∨ (w154.heap.size ≤ k_ ∧ k_ < w163.heap.size))) (Kd.S_bound hy0) (fun k_ hk_=>hk_.1.imp id (fun h_=>⟨h_,hk_.2.2.1⟩)));replace HZ8:=zMk (Kd.S_kept HZ8.out hk (fun k_ (hk_ : (w22.heap.size ≤ k_ ∧ k_ < w25.heap.size)) (hs_ : (w65.heap.size ≤ k_ ∧ k_ < w72.heap.size))=>by have q_:=HL.out;omega));replace HZ11:=zMk (Kd.R_kept HZ11.out hk (fun k_ (hk_ : (w25.heap.size ≤ k_ ∧ k_ < w28.heap.size)) (hs_ : (w65.heap.size ≤ k_ ∧ k_ < w72.heap.size))=>by have q_:=HL.out;omega));replace HZ15:=zMk (Kd.S_kept HZ15.out hk (fun k_ (hk_ : (w28.heap.size ≤ k_ ∧ k_ < w31.heap.size)) (hs_ : (w65.heap.size ≤ k_ ∧ k_ < w72.heap.size))=>by have q_:=HL.out;omega));replace HZ19:=zMk (Kd.S_kept HZ19.out hk (fun k_ (hk_ : ((w39.heap.size ≤ k_ ∧ k_ < w45.heap.size) ∨ (w127.heap.size ≤ k_ ∧ k_ < w136.heap.size))) (hs_ : (w65.heap.size ≤ k_ ∧ k_ < w72.heap.size))=>by have q_:=HL.out;omega));replace HZ23:=zMk (Kd.R_kept HZ23.out hk (fun k_ (hk_ : ((w57.heap.size ≤ k_ ∧ k_ < w65.heap.size) ∨ (w136.heap.size ≤ k_ ∧ k_ < w145.heap.size))) (hs_ : (w65.heap.size ≤ k_ ∧ k_ < w72.heap.size))=>by have q_:=HL.out;omega));replace HZ33:=zMk (Kd.S_kept HZ33.out hk (fun k_ (hk_ : (w107.heap.size ≤ k_ ∧ k_ < w108.heap.size)) (hs_ : (w65.heap.size ≤ k_ ∧ k_ < w72.heap.size))=>by have q_:=HL.out;omega));replace HZ38:=zMk (Kd.R_kept HZ38.out hk (fun k_ (hk_ : (w109.heap.size ≤ k_ ∧ k_ < w118.heap.size)) (hs_ : (w65.heap.size ≤ k_ ∧ k_ < w72.heap.size))=>by have q_:=HL.out;omega));replace BK1:=zMk (blk_kept BK1.out hk (fun hs_=>by have q_:=HL.out;have g_:=GBK1.out;have hs2_ : (w65.heap.size ≤ gb1 ∧ gb1 < w72.heap.size):=hs_;omega));replace BK16:=zMk (blk_kept BK16.out hk (fun hs_=>by have q_:=HL.out;have g_:=GBK16.out;have hs2_ : (w65.heap.size ≤ gb16 ∧ gb16 < w72.heap.size):=hs_;omega));replace BK20:=zMk (blk_kept BK20.out hk (fun hs_=>by have q_:=HL.out;have g_:=GBK20.out;have hs2_ : (w65.heap.size ≤ gb20 ∧ gb20 < w72.heap.size):=hs_;omega));replace BK28:=zMk (blk_kept BK28.out hk (fun hs_=>by have q_:=HL.out;have g_:=GBK28.out;have hs2_ : (w65.heap.size ≤ gb28 ∧ gb28 < w72.heap.size):=hs_;omega));replace HZ27:=ny0_;clear ny0_;replace HB:=zMk hb0;replace HL:=zMk (And.intro HL.out hk.1);clear hb0 hk hy0;clear hcz155 hfz156 hcz157 hfz158 hcz159 hfz160 hcz161 hfz162;have hcz164 : w163.cell? ⟨gb1,0,none⟩ = some (.slice A0_0 l0_0.length c0_0):=(zCl BK1.out 0).trans rfl;have hfz165:=zFr BK1.out 0;have hcz166 : w163.cell? ⟨gb16,0,none⟩ = some (.slice A15 t13.length c15):=(zCl BK16.out 0).trans rfl;have hfz167:=zFr BK16.out 0;have hcz168 : w163.cell? ⟨gb20,0,none⟩ = some (.slice A19 t18.length c19):=(zCl BK20.out 0).trans rfl;have hfz169:=zFr BK20.out 0;have hcz170 : w163.cell? ⟨gb28,0,none⟩ = some (.slice A27 t25.length c27):=(zCl BK28.out 0).trans rfl;have hfz171:=zFr BK28.out 0) | ((with_reducible refine gate_callee (f:=25) rfl ?_);refine goesL_ (some 96) rfl rfl Try.func25 (by kernel_rfl) rfl #[.agg #[.slice A27 t51.length c27],.int .i64 1] rfl (by (try simp only [List.map_toArray,List.map_cons,List.map_nil]);first | done | (rw [show t51.length = t25.length from (Kd.S_reads' HZ27.out).1.symm] <;> rfl) | rfl | (simp only [List.length_drop,List.length_take];rfl)) ?_;(with_reducible refine (laws_heldFlash.calls k _ _ t51 1 t53 _ ?side1 ?side2 Fa26.out).mono ?_);(case side1=>exact (Kd.S_reads' HZ27.out).2.2);(case side2=>have h1_:=(Kd.S_reads' HZ27.out).1;have h2_:=(Kd.S_reads' HZ27.out).2.1;omega);rintro e w172 ⟨rfl,hb⟩;refine ⟨_,rfl,?_⟩;replace HZ8:=zMk (Kd.S_below HZ8.out hb);replace HZ11:=zMk (Kd.R_below HZ11.out hb);replace HZ15:=zMk (Kd.S_below HZ15.out hb);replace HZ19:=zMk (Kd.S_below HZ19.out hb);replace HZ23:=zMk (Kd.R_below HZ23.out hb);replace HZ27:=zMk (Kd.S_below HZ27.out hb);replace HZ33:=zMk (Kd.S_below HZ33.out hb);replace HZ38:=zMk (Kd.R_below HZ38.out hb);replace BK1:=zMk (blk_below BK1.out hb);replace BK16:=zMk (blk_below BK16.out hb);replace BK20:=zMk (blk_below BK20.out hb);replace BK28:=zMk (blk_below BK28.out hb);replace HB:=zMk (below_step HB.out hb);replace HL:=zMk (And.intro HL.out (below_size hb));clear hb;clear hcz164 hfz165 hcz166 hfz167 hcz168 hfz169 hcz170 hfz171;have hcz173 : w172.cell? ⟨gb1,0,none⟩ = some (.slice A0_0 l0_0.length c0_0):=(zCl BK1.out 0).trans rfl;have hfz174:=zFr BK1.out 0;have hcz175 : w172.cell? ⟨gb16,0,none⟩ = some (.slice A15 t13.length c15):=(zCl BK16.out 0).trans rfl;have hfz176:=zFr BK16.out 0;have hcz177 : w172.cell? ⟨gb20,0,none⟩ = some (.slice A19 t18.length c19):=(zCl BK20.out 0).trans rfl;have hfz178:=zFr BK20.out 0;have hcz179 : w172.cell? ⟨gb28,0,none⟩ = some (.slice A27 t25.length c27):=(zCl BK28.out 0).trans rfl;have hfz180:=zFr BK28.out 0) | ((with_reducible refine gate_callee (f:=20) rfl ?_);refine goesL_ (some 104) rfl rfl Try.func20 (by kernel_rfl) rfl #[.agg #[.slice A0_0 l0_0.length c0_0]] rfl (by (try simp only [List.map_toArray,List.map_cons,List.map_nil]);first | done | rfl | (simp only [List.length_drop,List.length_take];rfl)) ?_;(with_reducible refine (laws_toFlash.calls k _ _ l0_0 t55 _ ?side1 ?side2 Fa29.out).mono ?_);(case side1=>exact Kd.C_below HR0_0.out HB.out);(case side2=>exact HC0_0.out);rintro e w181 ⟨v56,rfl,ho0,hb⟩;refine ⟨_,rfl,?_⟩;have HZ56:=zMk (Kd.S_lower (Kd.S_mono (ok':=fun k_=>(w172.heap.size ≤ k_ ∧ k_ < w181.heap.size)) (Kd.S_bound ho0) (fun k_ hk_=>⟨hk_.2.1,hk_.2.2.1⟩)) (below_size HB.out));clear ho0;replace HZ8:=zMk (Kd.S_below HZ8.out hb);replace HZ11:=zMk (Kd.R_below HZ11.out hb);replace HZ15:=zMk (Kd.S_below HZ15.out hb);replace HZ19:=zMk (Kd.S_below HZ19.out hb);replace HZ23:=zMk (Kd.R_below HZ23.out hb);replace HZ27:=zMk (Kd.S_below HZ27.out hb);replace HZ33:=zMk (Kd.S_below HZ33.out hb);replace HZ38:=zMk (Kd.R_below HZ38.out hb);replace BK1:=zMk (blk_below BK1.out hb);replace BK16:=zMk (blk_below BK16.out hb);replace BK20:=zMk (blk_below BK20.out hb);replace BK28:=zMk (blk_below BK28.out hb);replace HB:=zMk (below_step HB.out hb);replace HL:=zMk (And.intro HL.out (below_size hb));clear hb;obtain ⟨A56,c56,e56⟩:=Kd.S_slice HZ56.out;subst e56;clear hcz173 hfz174 hcz175 hfz176 hcz177 hfz178 hcz179 hfz180;have hcz182 : w181.cell? ⟨gb1,0,none⟩ = some (.slice A0_0 l0_0.length c0_0):=(zCl BK1.out 0).trans rfl;have hfz183:=zFr BK1.out 0;have hcz184 : w181.cell? ⟨gb16,0,none⟩ = some (.slice A15 t13.length c15):=(zCl BK16.out 0).trans rfl;have hfz185:=zFr BK16.out 0;have hcz186 : w181.cell? ⟨gb20,0,none⟩ = some (.slice A19 t18.length c19):=(zCl BK20.out 0).trans rfl;have hfz187:=zFr BK20.out 0;have hcz188 : w181.cell? ⟨gb28,0,none⟩ = some (.slice A27 t25.length c27):=(zCl BK28.out 0).trans rfl;have hfz189:=zFr BK28.out 0) | ((with_reducible refine gate_callee (f:=28) rfl ?_);refine goesL_ (some 106) rfl rfl Try.func28 (by kernel_rfl) rfl #[.slice A1 l1.length c1] rfl (by (try simp only [List.map_toArray,List.map_cons,List.map_nil]);first | done | rfl | (simp only [List.length_drop,List.length_take];rfl)) ?_;(with_reducible refine (laws_toStepS.calls k _ _ l1 t58 _ ?side1 ?side2 Fa30.out).mono ?_);(case side1=>exact Kd.C_below HR1.out HB.out);(case side2=>exact HC1.out);rintro e w190 ⟨v59,rfl,ho0,hb⟩;refine ⟨_,rfl,?_⟩;have HZ59:=zMk (Kd.R_lower (Kd.R_mono (ok':=fun k_=>(w181.heap.size ≤ k_ ∧ k_ < w190.heap.size)) (Kd.R_bound ho0) (fun k_ hk_=>⟨hk_.2.1,hk_.2.2.1⟩)) (below_size HB.out));clear ho0;replace HZ8:=zMk (Kd.S_below HZ8.out hb);replace HZ11:=zMk (Kd.R_below HZ11.out hb);replace HZ15:=zMk (Kd.S_below HZ15.out hb);replace HZ19:=zMk (Kd.S_below HZ19.out hb);replace HZ23:=zMk (Kd.R_below HZ23.out hb);replace HZ27:=zMk (Kd.S_below HZ27.out hb);replace HZ33:=zMk (Kd.S_below HZ33.out hb);replace HZ38:=zMk (Kd.R_below HZ38.out hb);replace HZ56:=zMk (Kd.S_below HZ56.out hb);replace BK1:=zMk (blk_below BK1.out hb);replace BK16:=zMk (blk_below BK16.out hb);replace BK20:=zMk (blk_below BK20.out hb);replace BK28:=zMk (blk_below BK28.out hb);replace HB:=zMk (below_step HB.out hb);replace HL:=zMk (And.intro HL.out (below_size hb));clear hb;obtain ⟨A59,c59,e59⟩:=Kd.R_slice HZ59.out;subst e59;clear hcz182 hfz183 hcz184 hfz185 hcz186 hfz187 hcz188 hfz189;have hcz191 : w190.cell? ⟨gb1,0,none⟩ = some (.slice A0_0 l0_0.length c0_0):=(zCl BK1.out 0).trans rfl;have hfz192:=zFr BK1.out 0;have hcz193 : w190.cell? ⟨gb16,0,none⟩ = some (.slice A15 t13.length c15):=(zCl BK16.out 0).trans rfl;have hfz194:=zFr BK16.out 0;have hcz195 : w190.cell? ⟨gb20,0,none⟩ = some (.slice A19 t18.length c19):=(zCl BK20.out 0).trans rfl;have hfz196:=zFr BK20.out 0;have hcz197 : w190.cell? ⟨gb28,0,none⟩ = some (.slice A27 t25.length c27):=(zCl BK28.out 0).trans rfl;have hfz198:=zFr BK28.out 0) | ((with_reducible refine gate_callee (f:=29) rfl ?_);refine goesL_ (some 109) rfl rfl Try.func29 (by kernel_rfl) rfl #[.agg #[.slice A56 t55.length c56],.slice A59 t58.length c59,.int .i64 a2,.bool a3] rfl (by (try simp only [List.map_toArray,List.map_cons,List.map_nil]);first | done | rfl | (simp only [List.length_drop,List.length_take];rfl)) ?_;(with_reducible refine (impl_CutSteps.calls k _ _ t55 _ _ t58 a2 a3 t61 t62 _ ?side1 ?side2 ?side3 ?side4 Fa31.out).mono ?_);(case side1=>exact (Kd.S_reads' HZ56.out).2.2);(case side2=>exact (Kd.S_reads' HZ56.out).2.1);(case side3=>exact (Kd.R_reads' HZ59.out).2.2);(case side4=>exact (Kd.R_reads' HZ59.out).2.1);rintro e w199 ⟨v63,rfl,ho0,hb⟩;refine ⟨_,rfl,?_⟩;have HZ63:=zMk (Kd.S_lower (Kd.S_mono (ok':=fun k_=>(w190.heap.size ≤ k_ ∧ k_ < w199.heap.size)) (Kd.S_bound ho0) (fun k_ hk_=>⟨hk_.2.1,hk_.2.2.1⟩)) (below_size HB.out));clear ho0;replace HZ8:=zMk (Kd.S_below HZ8.out hb);replace HZ11:=zMk (Kd.R_below HZ11.out hb);replace HZ15:=zMk (Kd.S_below HZ15.out hb);replace HZ19:=zMk (Kd.S_below HZ19.out hb);replace HZ23:=zMk (Kd.R_below HZ23.out hb);replace HZ27:=zMk (Kd.S_below HZ27.out hb);replace HZ33:=zMk (Kd.S_below HZ33.out hb);replace HZ38:=zMk (Kd.R_below HZ38.out hb);replace HZ56:=zMk (Kd.S_below HZ56.out hb);replace HZ59:=zMk (Kd.R_below HZ59.out hb);replace BK1:=zMk (blk_below BK1.out hb);replace BK16:=zMk (blk_below BK16.out hb);replace BK20:=zMk (blk_below BK20.out hb);replace BK28:=zMk (blk_below BK28.out hb);replace HB:=zMk (below_step HB.out hb);replace HL:=zMk (And.intro HL.out (below_size hb));clear hb;obtain ⟨A63,c63,e63⟩:=Kd.S_slice HZ63.out;subst e63;clear hcz191 hfz192 hcz193 hfz194 hcz195 hfz196 hcz197 hfz198;have hcz200 : w199.cell? ⟨gb1,0,none⟩ = some (.slice A0_0 l0_0.length c0_0):=(zCl BK1.out 0).trans rfl;have hfz201:=zFr BK1.out 0;have hcz202 : w199.cell? ⟨gb16,0,none⟩ = some (.slice A15 t13.length c15):=(zCl BK16.out 0).trans rfl;have hfz203:=zFr BK16.out 0;have hcz204 : w199.cell? ⟨gb20,0,none⟩ = some (.slice A19 t18.length c19):=(zCl BK20.out 0).trans rfl;have hfz205:=zFr BK20.out 0;have hcz206 : w199.cell? ⟨gb28,0,none⟩ = some (.slice A27 t25.length c27):=(zCl BK28.out 0).trans rfl;have hfz207:=zFr BK28.out 0) | ((with_reducible refine gate_dst (N:=19) rfl ?_);refine box_event ?hg (N:=19) ?hd (cs:=#[.slice none 0 0]) (t:=52) ?hr ?_;(case hd=>rfl);(case hg=>rfl);(case hr=>first | (go_simp;done) | (go_simp;rfl));intro gb64 hg w208 hbox hb;replace HZ8:=zMk (Kd.S_below HZ8.out hb);replace HZ11:=zMk (Kd.R_below HZ11.out hb);replace HZ15:=zMk (Kd.S_below HZ15.out hb);replace HZ19:=zMk (Kd.S_below HZ19.out hb);replace HZ23:=zMk (Kd.R_below HZ23.out hb);replace HZ27:=zMk (Kd.S_below HZ27.out hb);replace HZ33:=zMk (Kd.S_below HZ33.out hb);replace HZ38:=zMk (Kd.R_below HZ38.out hb);replace HZ56:=zMk (Kd.S_below HZ56.out hb);replace HZ59:=zMk (Kd.R_below HZ59.out hb);replace HZ63:=zMk (Kd.S_below HZ63.out hb);replace BK1:=zMk (blk_below BK1.out hb);replace BK16:=zMk (blk_below BK16.out hb);replace BK20:=zMk (blk_below BK20.out hb);replace BK28:=zMk (blk_below BK28.out hb);have GBK64:=zMk (show gb64 = w199.heap.size ∧ gb64 < w208.heap.size from ⟨hg,blk_lt hbox⟩);have GW64:=zMk (show w.heap.size ≤ gb64 by have q_:=below_size HB.out;rw [hg];exact q_);have BK64:=zMk hbox;replace HB:=zMk (below_step HB.out hb);replace HL:=zMk (And.intro HL.out (below_size hb));clear hb hbox hg;clear hcz200 hfz201 hcz202 hfz203 hcz204 hfz205 hcz206 hfz207;have hcz209 : w208.cell? ⟨gb1,0,none⟩ = some (.slice A0_0 l0_0.length c0_0):=(zCl BK1.out 0).trans rfl;have hfz210:=zFr BK1.out 0;have hcz211 : w208.cell? ⟨gb16,0,none⟩ = some (.slice A15 t13.length c15):=(zCl BK16.out 0).trans rfl;have hfz212:=zFr BK16.out 0;have hcz213 : w208.cell? ⟨gb20,0,none⟩ = some (.slice A19 t18.length c19):=(zCl BK20.out 0).trans rfl;have hfz214:=zFr BK20.out 0;have hcz215 : w208.cell? ⟨gb28,0,none⟩ = some (.slice A27 t25.length c27):=(zCl BK28.out 0).trans rfl;have hfz216:=zFr BK28.out 0;have hcz217 : w208.cell? ⟨gb64,0,none⟩ = some (.slice none 0 0):=(zCl BK64.out 0).trans rfl;have hfz218:=zFr BK64.out 0) | ((with_reducible refine gate_store (t:=52) (p:=19) rfl ?_);refine store_event (t:=52) (p:=19) (v:=?vo220_) (w1:=(w208.setCell ⟨gb64,0,none⟩ (.slice A63 t61.length c63))) ?hg ?ho ?hn ?hr ?_;(case ho=>rfl);(case hg=>rfl);(case hn=>rfl);(case hr=>first | (go_simp;done) | (go_simp;rfl));intro w219 hw;have hk : Kept w208 w219 (fun k_=>k_ = gb64):=(by rw [hw];exact (Kept.setCell (Kept.refl w208 (fun k_=>k_ = gb64)) (p:=⟨gb64,0,none⟩) (.inl rfl) (.slice A63 t61.length c63)));have g0_:=GBK64.out;replace HZ8:=zMk (Kd.S_kept HZ8.out hk (fun k_ (hk_ : (w22.heap.size ≤ k_ ∧ k_ < w25.heap.size)) (hs_ : k_ = gb64)=>by have q_:=HL.out;omega));replace HZ11:=zMk (Kd.R_kept HZ11.out hk (fun k_ (hk_ : (w25.heap.size ≤ k_ ∧ k_ < w28.heap.size)) (hs_ : k_ = gb64)=>by have q_:=HL.out;omega));replace HZ15:=zMk (Kd.S_kept HZ15.out hk (fun k_ (hk_ : (w28.heap.size ≤ k_ ∧ k_ < w31.heap.size)) (hs_ : k_ = gb64)=>by have q_:=HL.out;omega));replace HZ19:=zMk (Kd.S_kept HZ19.out hk (fun k_ (hk_ : ((w39.heap.size ≤ k_ ∧ k_ < w45.heap.size) ∨ (w127.heap.size ≤ k_ ∧ k_ < w136.heap.size))) (hs_ : k_ = gb64)=>by have q_:=HL.out;omega));replace HZ23:=zMk (Kd.R_kept HZ23.out hk (fun k_ (hk_ : ((w57.heap.size ≤ k_ ∧ k_ < w65.heap.size) ∨ (w136.heap.size ≤ k_ ∧ k_ < w145.heap.size))) (hs_ : k_ = gb64)=>by have q_:=HL.out;omega));replace HZ27:=zMk (Kd.S_kept HZ27.out hk (fun k_ (hk_ : ((w65.heap.size ≤ k_ ∧ k_ < w72.heap.size) ∨ (w154.heap.size ≤ k_ ∧ k_ < w163.heap.size))) (hs_ : k_ = gb64)=>by have q_:=HL.out;omega));replace HZ33:=zMk (Kd.S_kept HZ33.out hk (fun k_ (hk_ : (w107.heap.size ≤ k_ ∧ k_ < w108.heap.size)) (hs_ : k_ = gb64)=>by have q_:=HL.out;omega));replace HZ38:=zMk (Kd.R_kept HZ38.out hk (fun k_ (hk_ : (w109.heap.size ≤ k_ ∧ k_ < w118.heap.size)) (hs_ : k_ = gb64)=>by have q_:=HL.out;omega));replace HZ56:=zMk (Kd.S_kept HZ56.out hk (fun k_ (hk_ : (w172.heap.size ≤ k_ ∧ k_ < w181.heap.size)) (hs_ : k_ = gb64)=>by have q_:=HL.out;omega));replace HZ59:=zMk (Kd.R_kept HZ59.out hk (fun k_ (hk_ : (w181.heap.size ≤ k_ ∧ k_ < w190.heap.size)) (hs_ : k_ = gb64)=>by have q_:=HL.out;omega));replace HZ63:=zMk (Kd.S_kept HZ63.out hk (fun k_ (hk_ : (w190.heap.size ≤ k_ ∧ k_ < w199.heap.size)) (hs_ : k_ = gb64)=>by have q_:=HL.out;omega));replace BK1:=zMk (blk_kept BK1.out hk (fun hs_=>by have q_:=HL.out;have g_:=GBK1.out;have hs2_ : gb1 = gb64:=hs_;omega));replace BK16:=zMk (blk_kept BK16.out hk (fun hs_=>by have q_:=HL.out;have g_:=GBK16.out;have hs2_ : gb16 = gb64:=hs_;omega));replace BK20:=zMk (blk_kept BK20.out hk (fun hs_=>by have q_:=HL.out;have g_:=GBK20.out;have hs2_ : gb20 = gb64:=hs_;omega));replace BK28:=zMk (blk_kept BK28.out hk (fun hs_=>by have q_:=HL.out;have g_:=GBK28.out;have hs2_ : gb28 = gb64:=hs_;omega));clear g0_;replace BK64:=zMk (show w219.heap[gb64]? = some (.cells #[.slice A63 t61.length c63] 52 (0,0)) from (by rw [hw];exact (blk_put (cs:=#[.slice none 0 0]) (cs':=#[.slice A63 t61.length c63]) BK64.out 0 _ rfl)));replace HB:=zMk (show Below w.heap.size w w219 from (by rw [hw];exact (below_set HB.out GW64.out)));replace HL:=zMk (And.intro HL.out hk.1);clear hk hw;clear hcz209 hfz210 hcz211 hfz212 hcz213 hfz214 hcz215 hfz216 hcz217 hfz218;have hcz221 : w219.cell? ⟨gb1,0,none⟩ = some (.slice A0_0 l0_0.length c0_0):=(zCl BK1.out 0).trans rfl;have hfz222:=zFr BK1.out 0;have hcz223 : w219.cell? ⟨gb16,0,none⟩ = some (.slice A15 t13.length c15):=(zCl BK16.out 0).trans rfl;have hfz224:=zFr BK16.out 0;have hcz225 : w219.cell? ⟨gb20,0,none⟩ = some (.slice A19 t18.length c19):=(zCl BK20.out 0).trans rfl;have hfz226:=zFr BK20.out 0;have hcz227 : w219.cell? ⟨gb28,0,none⟩ = some (.slice A27 t25.length c27):=(zCl BK28.out 0).trans rfl;have hfz228:=zFr BK28.out 0;have hcz229 : w219.cell? ⟨gb64,0,none⟩ = some (.slice A63 t61.length c63):=(zCl BK64.out 0).trans rfl;have hfz230:=zFr BK64.out 0) | ((with_reducible refine gate_callee (f:=23) rfl ?_);refine goesL_ (some 114) rfl rfl Try.func23 (by kernel_rfl) rfl #[.agg #[.slice A63 t61.length c63],.agg #[.slice A15 t13.length c15]] rfl (by (try simp only [List.map_toArray,List.map_cons,List.map_nil]);first | done | rfl | (simp only [List.length_drop,List.length_take];rfl)) ?_;(with_reducible refine (laws_eqFlash.calls k _ _ t61 _ _ t13 true _ ?side1 ?side2 ?side3 ?side4 Fa32.out).mono ?_);(case side1=>exact (Kd.S_reads' HZ63.out).2.2);(case side2=>exact (Kd.S_reads' HZ63.out).2.1);(case side3=>exact (Kd.S_reads' HZ15.out).2.2);(case side4=>exact (Kd.S_reads' HZ15.out).2.1);rintro e w231 ⟨rfl,hb⟩;refine ⟨_,rfl,?_⟩;replace HZ8:=zMk (Kd.S_below HZ8.out hb);replace HZ11:=zMk (Kd.R_below HZ11.out hb);replace HZ15:=zMk (Kd.S_below HZ15.out hb);replace HZ19:=zMk (Kd.S_below HZ19.out hb);replace HZ23:=zMk (Kd.R_below HZ23.out hb);replace HZ27:=zMk (Kd.S_below HZ27.out hb);replace HZ33:=zMk (Kd.S_below HZ33.out hb);replace HZ38:=zMk (Kd.R_below HZ38.out hb);replace HZ56:=zMk (Kd.S_below HZ56.out hb);replace HZ59:=zMk (Kd.R_below HZ59.out hb);replace HZ63:=zMk (Kd.S_below HZ63.out hb);replace BK1:=zMk (blk_below BK1.out hb);replace BK16:=zMk (blk_below BK16.out hb);replace BK20:=zMk (blk_below BK20.out hb);replace BK28:=zMk (blk_below BK28.out hb);replace BK64:=zMk (blk_below BK64.out hb);replace HB:=zMk (below_step HB.out hb);replace HL:=zMk (And.intro HL.out (below_size hb));clear hb;clear hcz221 hfz222 hcz223 hfz224 hcz225 hfz226 hcz227 hfz228 hcz229 hfz230;have hcz232 : w231.cell? ⟨gb1,0,none⟩ = some (.slice A0_0 l0_0.length c0_0):=(zCl BK1.out 0).trans rfl;have hfz233:=zFr BK1.out 0;have hcz234 : w231.cell? ⟨gb16,0,none⟩ = some (.slice A15 t13.length c15):=(zCl BK16.out 0).trans rfl;have hfz235:=zFr BK16.out 0;have hcz236 : w231.cell? ⟨gb20,0,none⟩ = some (.slice A19 t18.length c19):=(zCl BK20.out 0).trans rfl;have hfz237:=zFr BK20.out 0;have hcz238 : w231.cell? ⟨gb28,0,none⟩ = some (.slice A27 t25.length c27):=(zCl BK28.out 0).trans rfl;have hfz239:=zFr BK28.out 0;have hcz240 : w231.cell? ⟨gb64,0,none⟩ = some (.slice A63 t61.length c63):=(zCl BK64.out 0).trans rfl;have hfz241:=zFr BK64.out 0) | ((with_reducible refine gate_callee (f:=25) rfl ?_);refine goesL_ (some 123) rfl rfl Try.func25 (by kernel_rfl) rfl #[.agg #[.slice A27 t51.length c27],.int .i64 1] rfl (by (try simp only [List.map_toArray,List.map_cons,List.map_nil]);first | done | (rw [show t51.length = t25.length from (Kd.S_reads' HZ27.out).1.symm] <;> rfl) | rfl | (simp only [List.length_drop,List.length_take];rfl)) ?_;(with_reducible refine (laws_heldFlash.calls k _ _ t51 1 t68 _ ?side1 ?side2 Fa35.out).mono ?_);(case side1=>exact (Kd.S_reads' HZ27.out).2.2);(case side2=>have h1_:=(Kd.S_reads' HZ27.out).1;have h2_:=(Kd.S_reads' HZ27.out).2.1;omega);rintro e w242 ⟨rfl,hb⟩;refine ⟨_,rfl,?_⟩;replace HZ8:=zMk (Kd.S_below HZ8.out hb);replace HZ11:=zMk (Kd.R_below HZ11.out hb);replace HZ15:=zMk (Kd.S_below HZ15.out hb);replace HZ19:=zMk (Kd.S_below HZ19.out hb);replace HZ23:=zMk (Kd.R_below HZ23.out hb);replace HZ27:=zMk (Kd.S_below HZ27.out hb);replace HZ33:=zMk (Kd.S_below HZ33.out hb);replace HZ38:=zMk (Kd.R_below HZ38.out hb);replace HZ56:=zMk (Kd.S_below HZ56.out hb);replace HZ59:=zMk (Kd.R_below HZ59.out hb);replace HZ63:=zMk (Kd.S_below HZ63.out hb);replace BK1:=zMk (blk_below BK1.out hb);replace BK16:=zMk (blk_below BK16.out hb);replace BK20:=zMk (blk_below BK20.out hb);replace BK28:=zMk (blk_below BK28.out hb);replace BK64:=zMk (blk_below BK64.out hb);replace HB:=zMk (below_step HB.out hb);replace HL:=zMk (And.intro HL.out (below_size hb));clear hb;clear hcz232 hfz233 hcz234 hfz235 hcz236 hfz237 hcz238 hfz239 hcz240 hfz241;have hcz243 : w242.cell? ⟨gb1,0,none⟩ = some (.slice A0_0 l0_0.length c0_0):=(zCl BK1.out 0).trans rfl;have hfz244:=zFr BK1.out 0;have hcz245 : w242.cell? ⟨gb16,0,none⟩ = some (.slice A15 t13.length c15):=(zCl BK16.out 0).trans rfl;have hfz246:=zFr BK16.out 0;have hcz247 : w242.cell? ⟨gb20,0,none⟩ = some (.slice A19 t18.length c19):=(zCl BK20.out 0).trans rfl;have hfz248:=zFr BK20.out 0;have hcz249 : w242.cell? ⟨gb28,0,none⟩ = some (.slice A27 t25.length c27):=(zCl BK28.out 0).trans rfl;have hfz250:=zFr BK28.out 0;have hcz251 : w242.cell? ⟨gb64,0,none⟩ = some (.slice A63 t61.length c63):=(zCl BK64.out 0).trans rfl;have hfz252:=zFr BK64.out 0))
 go_ret
 exact ⟨rfl,HB.out⟩
end Go.Proofs.Ytklkhnomnanpoaa.PK

/- What a law's arguments, read as data, are as the print's kinds. -/
namespace Go.Proofs.Ytklkhnomnanpoaa.Open
open Go.RowKit Go.Proofs.YtklkhnomnanpoaaW.PrintWords
/-- A datum that is read at type t is of kind d, and each such y meets wf. -/
def Opn {α : Type} (P : Program) (t : TypeId) (d : Kd α) (wf : α → Prop) : Prop :=
  ∀ (H : Type) (enc : TypeId × Value → H) (w : World) (base : Nat) (spare : Nat → Bool) (held : Bool) (fuel : Nat) (cs : List Value) (x : DataW H × List MemPlace),
    DataW.trod enc P w base spare held fuel t cs = some x → ∃ y : α, d.K w y cs ∧ wf y

theorem opn_int {P : Program} {t : TypeId} {k : IntKind} (hu : P.underlying t = some (.int k)) : Opn P t (Kd.int k) (fun n => (Lit.int k n).wf = true) := by
  intro H enc w base spare held fuel cs x h
  obtain ⟨n, rfl, _, hw⟩ := DataW.trod_int hu h
  exact ⟨n, rfl, hw⟩
theorem opn_bool {P : Program} {t : TypeId} (hu : P.underlying t = some .bool) : Opn P t Kd.bool (fun _ => True) := by
  intro H enc w base spare held fuel cs x h
  obtain ⟨n, rfl, _⟩ := DataW.trod_bool hu h
  exact ⟨n, rfl, trivial⟩
theorem opn_string {P : Program} {t : TypeId} (hu : P.underlying t = some .string) : Opn P t Kd.string (fun s => s.size ≤ maxLen) := by
  intro H enc w base spare held fuel cs x h
  obtain ⟨n, rfl, _, hw⟩ := DataW.trod_string hu h
  exact ⟨n, rfl, hw⟩
theorem choose_list {α : Type} {Q : Nat → α → Prop} : ∀ (n : Nat), (∀ i, i < n → ∃ y, Q i y) → ∃ ys : List α, ys.length = n ∧ ∀ i y, ys[i]? = some y → Q i y
  | 0, _ => ⟨[], rfl, fun i y h => by simp at h⟩
  | n + 1, h => by
    obtain ⟨ys, hl, hq⟩ := choose_list n (fun i hi => h i (by omega))
    obtain ⟨y, hy⟩ := h n (by omega)
    refine ⟨ys ++ [y], by simp [hl], fun i z hz => ?_⟩
    rcases Nat.lt_or_ge i ys.length with hi | hi
    · rw [List.getElem?_append_left hi] at hz
      exact hq i z hz
    · rw [List.getElem?_append_right hi] at hz
      have hi2 : i - ys.length = 0 := by
        have := (List.getElem?_eq_some_iff.1 hz).1
        simp at this
        omega
      rw [hi2] at hz
      have : i = n := by omega
      subst this
      simp at hz
      subst hz
      exact hy
theorem adds (a : Addr) (m n : Nat) : (a.add m).add n = a.add (m + n) := by
  unfold Addr.add
  by_cases h1 : m = 0 <;> by_cases h2 : n = 0 <;> simp_all [Nat.add_assoc]
theorem opn_slice {α : Type} {P : Program} {t e : TypeId} {d : Kd α} {wf : α → Prop} (hu : P.underlying t = some (.slice e)) (hc : P.cellsOf e = d.sz) (ho : Opn P e d wf) :
    Opn P t (Kd.slice e d) (fun xs => xs.length ≤ maxLen ∧ ∀ x ∈ xs, wf x) := by
  intro H enc w base spare held fuel cs x h
  rcases DataW.trod_slice hu h with ⟨rfl, _⟩ | ⟨a, len, cap, elems, rest, n, _, rfl, _, hb, hl, hm, hlen, hel, _, _⟩
  · refine ⟨[], ⟨none, 0, rfl, Nat.le_refl _, rfl, by simp, fun h0 => absurd h0 (by simp)⟩, by simp, fun x hx => absurd hx (by simp)⟩
  · have each : ∀ i, i < len → ∃ y : α, ∃ c : List Value, (c.length = d.sz ∧ d.K w y c ∧ ∀ j u, c[j]? = some u → w.cell? (a.add (i * d.sz + j)) = some u) ∧ wf y := by
      intro i hi
      have h1 := hel i hi
      rw [List.getElem?_eq_getElem (by omega), Option.bind_eq_some_iff, hc] at h1
      obtain ⟨c, h2, h3⟩ := h1
      obtain ⟨_, hcl, hcell⟩ := World.cells?_some h2
      obtain ⟨y, hk, hw⟩ := ho H enc w base spare held n c _ h3
      refine ⟨y, c, ⟨hcl, hk, fun j u hj => ?_⟩, hw⟩
      have hjl : j < c.length := (List.getElem?_eq_some_iff.1 hj).1
      rw [← adds, hcell j (by omega), hj]
    obtain ⟨ys, hyl, hys⟩ := choose_list len each
    have hml : len ≤ maxLen := Nat.le_trans hl hm
    refine ⟨ys, ⟨some a, cap, by rw [hyl], by rw [hyl]; exact hl, rfl, by rw [hyl]; simpa only [maxLen] using hml, fun _ => ⟨a, rfl, fun j p hj => ?_⟩⟩, by rw [hyl]; exact hml, fun y hy => ?_⟩
    · obtain ⟨c, hq, _⟩ := hys j p hj
      exact ⟨c, hq⟩
    · obtain ⟨j, hj, he⟩ := List.getElem_of_mem hy
      obtain ⟨_, _, hw⟩ := hys j y (by rw [List.getElem?_eq_getElem hj, he])
      exact hw

/-- The fields fs, read off the cells from off on, are of kind d. -/
def OpnF {α : Type} (P : Program) (fs : List Field) (off : Nat) (d : Kd α) (wf : α → Prop) : Prop :=
  ∀ (H : Type) (enc : TypeId × Value → H) (w : World) (base : Nat) (spare : Nat → Bool) (held : Bool) (fuel : Nat) (cs : List Value), cs.length = off + d.sz →
    (∀ f ∈ fs, ∃ x, DataW.trod enc P w base spare held fuel f.type ((cs.drop f.offset).take (P.cellsOf f.type)) = some x) → ∃ y : α, d.K w y (cs.drop off) ∧ wf y
theorem opnF_one {α : Type} {P : Program} {f : Field} {off : Nat} {d : Kd α} {wf : α → Prop} (hoff : f.offset = off) (hc : P.cellsOf f.type = d.sz) (ho : Opn P f.type d wf) : OpnF P [f] off d wf := by
  intro H enc w base spare held fuel cs hl h
  obtain ⟨x, hx⟩ := h f (by simp)
  obtain ⟨y, hk, hw⟩ := ho H enc w base spare held fuel _ x hx
  rw [hoff, hc, List.take_of_length_le (by rw [List.length_drop]; omega)] at hk
  exact ⟨y, hk, hw⟩
theorem opnF_cons {α β : Type} {P : Program} {f : Field} {fs : List Field} {off : Nat} {a : Kd α} {b : Kd β} {wa : α → Prop} {wb : β → Prop} (hoff : f.offset = off) (hc : P.cellsOf f.type = a.sz) (ho : Opn P f.type a wa) (hr : OpnF P fs (off + a.sz) b wb) :
    OpnF P (f :: fs) off (Kd.pair a b) (fun p => wa p.1 ∧ wb p.2) := by
  intro H enc w base spare held fuel cs hl h
  obtain ⟨x, hx⟩ := h f (by simp)
  obtain ⟨y, hk, hw⟩ := ho H enc w base spare held fuel _ x hx
  have hsz : (Kd.pair a b).sz = a.sz + b.sz := rfl
  obtain ⟨z, hk2, hw2⟩ := hr H enc w base spare held fuel cs (by omega) (fun g hg => h g (List.mem_cons_of_mem _ hg))
  rw [hoff, hc] at hk
  refine ⟨(y, z), ⟨(cs.drop off).take a.sz, cs.drop (off + a.sz), ?_, hk, hk2⟩, hw, hw2⟩
  rw [← List.drop_drop, List.take_append_drop]
theorem opn_tuple {α : Type} {P : Program} {t : TypeId} {fs : List Field} {d : Kd α} {wf : α → Prop} (hu : P.underlying t = some (.struct fs.toArray)) (hc : P.cellsOf t = d.sz) (ho : OpnF P fs 0 d wf) :
    Opn P t d wf := by
  intro H enc w base spare held fuel cs x h
  obtain ⟨xs, n, _, _, hl, hlen, hf⟩ := DataW.trod_struct hu h
  obtain ⟨y, hk, hw⟩ := ho H enc w base spare held n cs (by omega) (fun fl hfl => by
    obtain ⟨i, hi, he⟩ := List.getElem_of_mem hfl
    have h1 := hf i fl (by simpa using (List.getElem?_eq_getElem hi).trans (congrArg some he))
    have hlen2 : xs.length = fs.length := by simpa using hlen
    exact ⟨xs[i]'(by omega), by rw [h1, List.getElem?_eq_getElem]⟩)
  exact ⟨y, by simpa using hk, hw⟩
theorem opn_struct {α β : Type} {P : Program} {t : TypeId} {fs : List Field} {d : Kd α} {wf : α → Prop} (f : β → α) (g : α → β) (hfg : ∀ a, f (g a) = a) (hu : P.underlying t = some (.struct fs.toArray)) (hc : P.cellsOf t = d.sz) (ho : OpnF P fs 0 d wf) :
    Opn P t (Kd.iso d f) (fun y => wf (f y)) := by
  intro H enc w base spare held fuel cs x h
  obtain ⟨xs, n, _, _, hl, hlen, hf⟩ := DataW.trod_struct hu h
  obtain ⟨y, hk, hw⟩ := ho H enc w base spare held n cs (by omega) (fun fl hfl => by
    obtain ⟨i, hi, he⟩ := List.getElem_of_mem hfl
    have h1 := hf i fl (by simpa using (List.getElem?_eq_getElem hi).trans (congrArg some he))
    have hlen2 : xs.length = fs.length := by simpa using hlen
    exact ⟨xs[i]'(by omega), by rw [h1, List.getElem?_eq_getElem]⟩)
  exact ⟨g y, by show d.K w (f (g y)) cs; rw [hfg]; simpa using hk, by show wf (f (g y)); rw [hfg]; exact hw⟩
end Go.Proofs.Ytklkhnomnanpoaa.Open

/- Plain facts on rounds, lists and whole numbers, for the pure statements. -/
namespace Go.Proofs.Ytklkhnomnanpoaa.Pu
open Go.RowKit Go.Proofs.YtklkhnomnanpoaaW.PrintWords
theorem w64 {x : Int} (h1 : -9223372036854775808 ≤ x) (h2 : x ≤ 9223372036854775807) : wrap64 x = x := by
  unfold wrap64; omega
theorem wsucc {i n : Nat} (h : i < n) (hn : n ≤ 9223372036854775807) : wrap64 ((i : Int) + 1) = ((i + 1 : Nat) : Int) := by
  rw [w64 (by omega) (by omega)]; rfl
theorem wf_i64 {n : Int} (h : (Lit.int .i64 n).wf = true) : -9223372036854775808 ≤ n ∧ n ≤ 9223372036854775807 := by
  simp only [Lit.wf, Bool.and_eq_true, decide_eq_true_eq] at h
  have h1 : IntKind.min .i64 = -9223372036854775808 := by decide
  have h2 : IntKind.max .i64 = 9223372036854775807 := by decide
  omega

/-- Rounds: what is told, a step on. -/
theorem ev_some {α : Type} {g : Nat → Option α} {r : α} (h : ∀ k, g (k + 1) = some r) : Ev g r := Ev.step h (Ev.now r)
theorem ev_const {α : Type} {o : Option α} {r : α} (h : o = some r) : Ev (fun _ => o) r := ⟨0, fun _ _ => h⟩
theorem ev_bind {α β : Type} {g : Nat → Option α} {f : Nat → α → Option β} {a : α} {r : β} (h : Ev g a) (k : Ev (fun n => f n a) r) : Ev (fun n => (g n).bind (f n)) r := Ev.bind h k
theorem ev_uniq {α : Type} {g : Nat → Option α} {a b : α} (h : Ev g a) (k : Ev g b) : a = b := by
  obtain ⟨K, hK⟩ := h
  obtain ⟨M, hM⟩ := k
  have h1 := hK (max K M) (Nat.le_max_left _ _)
  rw [hM (max K M) (Nat.le_max_right _ _)] at h1
  injection h1 with h1
  exact h1.symm
theorem ev_ext {α : Type} {g f : Nat → Option α} {r : α} (h : ∀ k, g k = f k) (k : Ev f r) : Ev g r := Ev.congr h k

/-- A row that is made and filled, place by place. -/
theorem ev_fill {β : Type} {L : Nat → List β → Int → Option (List β)} {E : Nat → Int → Option β} {n : Nat} {e : Nat → β} (hn : n ≤ 9223372036854775807)
    (hs : ∀ k xs i, L (k + 1) xs i = if i < (n : Int) then (if 0 ≤ i then ((E k i).bind fun b => if i < (xs.length : Int) then L k (xs.set i.toNat b) (wrap64 (i + 1)) else none) else none) else some xs)
    (hE : ∀ i, i < n → Ev (fun k => E k (i : Int)) (e i)) :
    ∀ (d i : Nat) (xs : List β), xs.length = n → i + d = n → Ev (fun k => L k xs (i : Int)) (xs.take i ++ (List.range' i d).map e) := by
  intro d
  induction d with
  | zero =>
    intro i xs hl hi
    refine ev_some fun k => ?_
    rw [hs, if_neg (by omega)]
    simp [List.take_of_length_le (show xs.length ≤ i by omega)]
  | succ d ih =>
    intro i xs hl hi
    refine Ev.step (f := fun k => (E k (i : Int)).bind fun b => L k (xs.set i b) ((i + 1 : Nat) : Int)) (fun k => ?_) ?_
    · rw [hs, if_pos (by omega), if_pos (by omega), wsucc (n := n) (by omega) hn]
      congr 1
      funext b
      rw [if_pos (by omega)]
      rfl
    · refine ev_bind (hE i (by omega)) ?_
      have h := ih (i + 1) (xs.set i (e i)) (by rw [List.length_set]; exact hl) (by omega)
      have e1 : (xs.set i (e i)).take (i + 1) ++ (List.range' (i + 1) d).map e = xs.take i ++ (List.range' i (d + 1)).map e := by
        rw [List.range'_succ, List.map_cons, List.take_succ_eq_append_getElem (by rw [List.length_set]; omega), List.getElem_set_self, List.take_set_of_le (Nat.le_refl _)]
        simp
      rw [e1] at h
      exact h
theorem map_range {α β : Type} (l : List α) (z : α) (g : α → β) : (List.range' 0 l.length).map (fun i => g (l.getD i z)) = l.map g := by
  apply List.ext_getElem
  · simp
  · intro i h1 h2
    simp only [List.length_map] at h2
    simp [List.getD_eq_getElem?_getD, List.getElem?_eq_getElem h2]
theorem ev_fill_all {α β : Type} {L : Nat → List β → Int → Option (List β)} {E : Nat → Int → Option β} {l : List α} {z : α} {g : α → β} {xs : List β} (hn : l.length ≤ 9223372036854775807)
    (hs : ∀ k xs i, L (k + 1) xs i = if i < (l.length : Int) then (if 0 ≤ i then ((E k i).bind fun b => if i < (xs.length : Int) then L k (xs.set i.toNat b) (wrap64 (i + 1)) else none) else none) else some xs)
    (hE : ∀ i, i < l.length → Ev (fun k => E k (i : Int)) (g (l.getD i z))) (hx : xs.length = l.length) : Ev (fun k => L k xs 0) (l.map g) := by
  have h := ev_fill (e := fun i => g (l.getD i z)) hn hs hE l.length 0 xs hx (by omega)
  rw [map_range] at h
  simpa using h

/-- Every place meets a test, tried place by place. -/
theorem ev_all {L E : Nat → Int → Option Bool} {n m : Nat} (hn : n ≤ 9223372036854775807) (hnm : n ≤ m)
    (hs : ∀ k i, L (k + 1) i = if i < (n : Int) then (if 0 ≤ i then (if i < (m : Int) then ((E k i).bind fun b => if b = true then L k (wrap64 (i + 1)) else some false) else none) else none) else some true)
    (hE : ∀ i, i < n → Ev (fun k => E k (i : Int)) true) : ∀ (d i : Nat), i + d = n → Ev (fun k => L k (i : Int)) true := by
  intro d
  induction d with
  | zero => intro i hi; exact ev_some fun k => by rw [hs, if_neg (by omega)]
  | succ d ih =>
    intro i hi
    refine Ev.step (f := fun k => (E k (i : Int)).bind fun b => if b = true then L k ((i + 1 : Nat) : Int) else some false) (fun k => ?_) (ev_bind (hE i (by omega)) (by simpa using ih (i + 1) (by omega)))
    rw [hs, if_pos (by omega), if_pos (by omega), if_pos (by omega), wsucc (n := n) (by omega) hn]

/-- What is left of a number, place by place, as long as it is not below 0. -/
theorem ev_size {L E : Nat → Int → Int → Option Int} {n : Nat} {P : Nat → Prop} (hn : n ≤ 9223372036854775807)
    (hs : ∀ k a i, L (k + 1) a i = if i < (n : Int) then (if 0 ≤ i then ((E k i a).bind fun t => if t < 0 then some (-1) else L k t (wrap64 (i + 1))) else none) else some a)
    (hE : ∀ i a, i < n → 0 ≤ a → a ≤ 1048576 → ∃ t, Ev (fun k => E k (i : Int) a) t ∧ t ≤ a ∧ (0 ≤ t → P i)) :
    ∀ (d i : Nat) (a : Int), i + d = n → 0 ≤ a → a ≤ 1048576 → ∃ r, Ev (fun k => L k a (i : Int)) r ∧ r ≤ a ∧ (0 ≤ r → ∀ m, i ≤ m → m < n → P m) := by
  intro d
  induction d with
  | zero => intro i a hi h0 h1; exact ⟨a, ev_some fun k => by rw [hs, if_neg (by omega)], Int.le_refl _, fun _ m h2 h3 => by omega⟩
  | succ d ih =>
    intro i a hi h0 h1
    obtain ⟨t, ht, hta, hp⟩ := hE i a (by omega) h0 h1
    have hst : ∀ k, L (k + 1) a (i : Int) = (E k (i : Int) a).bind fun t => if t < 0 then some (-1) else L k t ((i + 1 : Nat) : Int) := fun k => by
      rw [hs, if_pos (by omega), if_pos (by omega), wsucc (n := n) (by omega) hn]
    by_cases hneg : t < 0
    · exact ⟨-1, Ev.step hst (ev_bind ht (by simp only [if_pos hneg]; exact Ev.now _)), by omega, fun h => by omega⟩
    · obtain ⟨r, hr, hra, hq⟩ := ih (i + 1) t (by omega) (by omega) (by omega)
      refine ⟨r, Ev.step hst (ev_bind ht (by simp only [if_neg hneg]; exact hr)), by omega, fun h0r m h2 h3 => ?_⟩
      by_cases e : m = i
      · subst e; exact hp (by omega)
      · exact hq h0r m (by omega) h3
end Go.Proofs.Ytklkhnomnanpoaa.Pu

/- More plain facts on rounds: tests in a row, folds, searches. -/
namespace Go.Proofs.Ytklkhnomnanpoaa.Pu
open Go.RowKit Go.Proofs.YtklkhnomnanpoaaW.PrintWords
/-- Tests in a row, one a round; then what comes. -/
theorem ev_scan {L : Nat → Int → Option Bool} {g : Nat → Option Bool} {n : Nat} {T : Nat → Bool} {r : Bool}
    (hs : ∀ k i, i < n → L (k + 1) (i : Int) = if T i = true then L k ((i + 1 : Nat) : Int) else some false) (he : ∀ k, L (k + 1) (n : Int) = g k) (hr : Ev g r) :
    ∀ (d i : Nat), i + d = n → Ev (fun k => L k (i : Int)) ((List.range' i d).all T && r) := by
  intro d
  induction d with
  | zero =>
    intro i hi
    obtain rfl : i = n := by omega
    exact Ev.step he hr
  | succ d ih =>
    intro i hi
    rw [List.range'_succ, List.all_cons]
    by_cases h : T i = true
    · rw [h, Bool.true_and]
      exact Ev.step (fun k => by rw [hs k i (by omega), if_pos h]) (ih (i + 1) (by omega))
    · rw [Bool.eq_false_iff.mpr h, Bool.false_and, Bool.false_and]
      exact ev_some fun k => by rw [hs k i (by omega), if_neg h]
/-- Tests in a row, each of many rounds; then what comes. -/
theorem ev_outer {L : Nat → Int → Option Bool} {n : Nat} {T : Nat → Bool} {r0 : Bool}
    (hs : ∀ i r, i < n → Ev (fun k => L k ((i + 1 : Nat) : Int)) r → Ev (fun k => L k (i : Int)) (T i && r)) (he : Ev (fun k => L k (n : Int)) r0) :
    ∀ (d i : Nat), i + d = n → Ev (fun k => L k (i : Int)) ((List.range' i d).all T && r0) := by
  intro d
  induction d with
  | zero =>
    intro i hi
    obtain rfl : i = n := by omega
    exact he
  | succ d ih =>
    intro i hi
    rw [List.range'_succ, List.all_cons, Bool.and_assoc]
    exact hs i _ (by omega) (ih (i + 1) (by omega))
/-- A state that is carried along; then what comes. -/
theorem ev_fold {σ ρ : Type} {L : Nat → σ → Int → Option ρ} {n : Nat} {F : σ → Nat → σ} {fin : σ → ρ} (Inv : Nat → σ → Prop)
    (hs : ∀ s i, i < n → Inv i s → ∀ r, Ev (fun k => L k (F s i) ((i + 1 : Nat) : Int)) r → Ev (fun k => L k s (i : Int)) r) (hi : ∀ s i, i < n → Inv i s → Inv (i + 1) (F s i))
    (he : ∀ s, Inv n s → Ev (fun k => L k s (n : Int)) (fin s)) : ∀ (d i : Nat) (s : σ), i + d = n → Inv i s → Ev (fun k => L k s (i : Int)) (fin ((List.range' i d).foldl F s)) := by
  intro d
  induction d with
  | zero =>
    intro i s h hv
    obtain rfl : i = n := by omega
    exact he s hv
  | succ d ih =>
    intro i s h hv
    rw [List.range'_succ, List.foldl_cons]
    exact hs s i (by omega) hv _ (ih (i + 1) (F s i) (by omega) (hi s i (by omega) hv))
/-- The first place that meets a test, -1 without one. -/
def findI (T : Nat → Bool) : Nat → Nat → Int
  | _, 0 => -1
  | i, d + 1 => if T i = true then (i : Int) else findI T (i + 1) d
theorem ev_find {L : Nat → Int → Option Int} {n : Nat} {T : Nat → Bool}
    (hy : ∀ i, i < n → T i = true → Ev (fun k => L k (i : Int)) (i : Int)) (hn : ∀ i, i < n → T i = false → ∀ r, Ev (fun k => L k ((i + 1 : Nat) : Int)) r → Ev (fun k => L k (i : Int)) r)
    (he : Ev (fun k => L k (n : Int)) (-1)) : ∀ (d i : Nat), i + d = n → Ev (fun k => L k (i : Int)) (findI T i d) := by
  intro d
  induction d with
  | zero =>
    intro i hi
    obtain rfl : i = n := by omega
    exact he
  | succ d ih =>
    intro i hi
    unfold findI
    by_cases h : T i = true
    · rw [if_pos h]; exact hy i (by omega) h
    · rw [if_neg h]; exact hn i (by omega) (Bool.eq_false_iff.mpr h) _ (ih (i + 1) (by omega))
theorem findI_range {T : Nat → Bool} : ∀ (d i : Nat), findI T i d = -1 ∨ ∃ j, i ≤ j ∧ j < i + d ∧ findI T i d = (j : Int) ∧ T j = true
  | 0, i => .inl rfl
  | d + 1, i => by
    unfold findI
    by_cases h : T i = true
    · rw [if_pos h]; exact .inr ⟨i, Nat.le_refl _, by omega, rfl, h⟩
    · rw [if_neg h]
      rcases findI_range d (i + 1) with h1 | ⟨j, h1, h2, h3, h4⟩
      · exact .inl h1
      · exact .inr ⟨j, by omega, by omega, h3, h4⟩
theorem bytes_empty (a : ByteArray) : (a.toList == ([] : List UInt8)) = decide ((a.size : Int) ≤ 0) := by
  rw [ByteArray.toList_eq]
  have h : a.data.toList.length = a.size := by rw [Array.length_toList]; rfl
  cases e : a.data.toList with
  | nil =>
    have h1 : a.size = 0 := by rw [← h, e]; rfl
    rw [decide_eq_true (by omega)]; rfl
  | cons x l =>
    have h1 : a.size = l.length + 1 := by rw [← h, e]; rfl
    rw [decide_eq_false (by omega)]; rfl
theorem getD_mem' {α : Type} {l : List α} {i : Nat} {z : α} (hi : i < l.length) : l.getD i z ∈ l := by
  rw [List.getD_eq_getElem?_getD, List.getElem?_eq_getElem hi]; exact List.getElem_mem hi
end Go.Proofs.Ytklkhnomnanpoaa.Pu

/- What the functions on flashes answer: sizes, copies, comparison. -/
namespace Go.Proofs.Ytklkhnomnanpoaa.Pu
open Go.RowKit Go.Proofs.Ytklkhnomnanpoaa.PK Go.Proofs.YtklkhnomnanpoaaW.PrintWords
theorem rdLB_nat (l : List S129) (i : Nat) : rd_T129 l (i : Int) = l.getD i z129 := rfl
theorem rdIB_nat (l : List S83) (i : Nat) : rd_T83 l (i : Int) = l.getD i z83 := rfl
theorem rdLL_nat (l : List S176) (i : Nat) : rd_T176 l (i : Int) = l.getD i z176 := rfl
theorem rdIL_nat (l : List S101) (i : Nat) : rd_T101 l (i : Int) = l.getD i z101 := rfl

def toLf (x : S176) : S101 := ⟨x.f0, x.f1⟩
def toBk (x : S129) : S83 := ⟨x.f0, x.f1, x.f2.map toLf⟩
def toFl (l : List S129) : List S83 := l.map toBk

theorem toLeafS_ev (l : List S176) (h : l.length ≤ 1048576) : Ev (fun k => laws_toLeafS.f k l) (l.map toLf) := by
  have h1 := ev_fill_all (E := fun _ i => (laws_toLeaf.f (rd_T176 l i).f0 (rd_T176 l i).f1).bind fun bt => some (⟨bt.1, bt.2⟩ : S101)) (l := l) (z := z176) (g := toLf) (xs := List.replicate l.length z101) (L := fun k xs i => laws_toLeafS.l0 k l xs i) (by omega) (fun k xs i => by
    simp only [laws_toLeafS.l0, Option.bind_assoc, Option.bind_some]) (fun i hi => by rw [rdLL_nat]; exact Ev.now _) (by simp)
  refine ev_ext (fun k => ?_) h1
  unfold laws_toLeafS.f
  rw [if_pos (by omega), if_pos (by simp; omega)]
  simp
theorem toBlock_ev (b : Bool) (n : Int) (l : List S176) (h : l.length ≤ 1048576) : Ev (fun k => laws_toBlock.f k b n l) (b, n, l.map toLf) := by
  unfold laws_toBlock.f
  exact ev_bind (toLeafS_ev l h) (Ev.now _)
theorem toFlash_ev (l : List S129) (h : l.length ≤ 1048576) (hk : ∀ x ∈ l, x.f2.length ≤ 1048576) : Ev (fun k => laws_toFlash.f k l) (toFl l) := by
  have h1 := ev_fill_all (E := fun k i => (laws_toBlock.f k (rd_T129 l i).f0 (rd_T129 l i).f1 (rd_T129 l i).f2).bind fun bt => some (⟨bt.1, bt.2.1, bt.2.2⟩ : S83)) (l := l) (z := z129) (g := toBk) (xs := List.replicate l.length z83) (L := fun k xs i => laws_toBlockS.l0 k l xs i) (by omega) (fun k xs i => by
    simp only [laws_toBlockS.l0, Option.bind_assoc, Option.bind_some]) (fun i hi => by
      rw [rdLB_nat]
      exact ev_bind (toBlock_ev _ _ _ (hk _ (getD_mem' hi))) (Ev.now _)) (by simp)
  unfold laws_toFlash.f
  refine ev_bind (ev_ext (fun k => ?_) h1) (Ev.now _)
  unfold laws_toBlockS.f
  rw [if_pos (by omega), if_pos (by simp; omega)]
  simp

theorem eqLeafS_ev (l : List S101) (hn : l.length ≤ 1048576) : Ev (fun k => laws_eqLeafS.f k l l) true := by
  have h1 := ev_all (n := l.length) (m := l.length) (L := fun k i => laws_eqLeafS.l0 k l l i) (E := fun _ i => laws_eqLeaf.f (rd_T101 l i).f0 (rd_T101 l i).f1 (rd_T101 l i).f0 (rd_T101 l i).f1) (by omega) (Nat.le_refl _) (fun k i => by simp only [laws_eqLeafS.l0])
    (fun i _ => ev_const (by simp [laws_eqLeaf.f])) l.length 0 (by omega)
  refine ev_ext (fun k => ?_) h1
  unfold laws_eqLeafS.f
  rw [if_pos rfl]; rfl
theorem eqFlash_ev (l : List S83) (hn : l.length ≤ 1048576) (hk : ∀ x ∈ l, x.f2.length ≤ 1048576) : Ev (fun k => laws_eqFlash.f k l l) true := by
  have h1 := ev_all (n := l.length) (m := l.length) (L := fun k i => laws_eqBlockS.l0 k l l i) (E := fun k i => laws_eqBlock.f k (rd_T83 l i).f0 (rd_T83 l i).f1 (rd_T83 l i).f2 (rd_T83 l i).f0 (rd_T83 l i).f1 (rd_T83 l i).f2) (by omega) (Nat.le_refl _) (fun k i => by simp only [laws_eqBlockS.l0])
    (fun i hi => by
      rw [rdIB_nat]
      unfold laws_eqBlock.f
      simp only [bne_self_eq_false, Bool.false_eq_true, if_false, if_true]
      exact ev_bind (eqLeafS_ev _ (hk _ (getD_mem' hi))) (by simp only [if_true]; exact Ev.now _)) l.length 0 (by omega)
  unfold laws_eqFlash.f
  refine ev_bind (ev_ext (fun k => ?_) h1) (by simp only [if_true]; exact Ev.now _)
  unfold laws_eqBlockS.f
  rw [if_pos rfl]; rfl

theorem szLeafS_ev (l : List S176) (a : Int) (h0 : 0 ≤ a) (h1 : a ≤ 1048576) (hn : l.length ≤ 9223372036854775807) (hk : ∀ x ∈ l, x.f1.size ≤ 9223372036854775807) :
    ∃ r, Ev (fun k => laws_szLeafS.f k l a) r ∧ r ≤ a ∧ (0 ≤ r → (l.length : Int) ≤ a ∧ ∀ x ∈ l, (x.f1.size : Int) ≤ 1048576) := by
  by_cases h : a - (l.length : Int) < 0
  · refine ⟨-1, ⟨0, fun k _ => ?_⟩, by omega, fun h2 => by omega⟩
    show laws_szLeafS.f k l a = _
    unfold laws_szLeafS.f
    rw [w64 (by omega) (by omega), if_pos h]
  · obtain ⟨r, hr, hra, hq⟩ := ev_size (n := l.length) (L := fun k a i => laws_szLeafS.l0 k l a i) (E := fun _ i a => laws_szLeaf.f (rd_T176 l i).f0 (rd_T176 l i).f1 a) (P := fun i => ((l.getD i z176).f1.size : Int) ≤ 1048576) hn (fun k a i => by simp only [laws_szLeafS.l0])
      (fun i a hi h2 h3 => by
        have hb := hk _ (getD_mem' (z := z176) hi)
        rw [rdLL_nat]
        unfold laws_szLeaf.f
        rw [w64 (by omega) (by omega)]
        by_cases h4 : a - ((l.getD i z176).f1.size : Int) < 0
        · exact ⟨-1, ev_const (by rw [if_pos h4]), by omega, fun h5 => by omega⟩
        · exact ⟨_, ev_const (by rw [if_neg h4]), by omega, fun _ => by omega⟩) l.length 0 (a - (l.length : Int)) (by omega) (by omega) (by omega)
    refine ⟨r, ev_ext (fun k => ?_) hr, by omega, fun h2 => ⟨by omega, fun x hx => ?_⟩⟩
    · unfold laws_szLeafS.f
      rw [w64 (by omega) (by omega), if_neg h]; rfl
    · obtain ⟨i, hi, rfl⟩ := List.getElem_of_mem hx
      have := hq h2 i (by omega) hi
      rwa [List.getD_eq_getElem?_getD, List.getElem?_eq_getElem hi] at this
theorem szFlash_ev (l : List S129) (a : Int) (h0 : 0 ≤ a) (h1 : a ≤ 1048576) (hn : l.length ≤ 9223372036854775807) (hk : ∀ x ∈ l, x.f2.length ≤ 9223372036854775807 ∧ ∀ y ∈ x.f2, y.f1.size ≤ 9223372036854775807) :
    ∃ r, Ev (fun k => laws_szFlash.f k l a) r ∧ r ≤ a ∧ (0 ≤ r → (l.length : Int) ≤ a ∧ ∀ x ∈ l, (x.f2.length : Int) ≤ 1048576 ∧ ∀ y ∈ x.f2, (y.f1.size : Int) ≤ 1048576) := by
  by_cases h : a - (l.length : Int) < 0
  · refine ⟨-1, ⟨0, fun k _ => ?_⟩, by omega, fun h2 => by omega⟩
    show laws_szFlash.f k l a = _
    unfold laws_szFlash.f laws_szBlockS.f
    rw [w64 (by omega) (by omega), if_pos h]
    rfl
  · obtain ⟨r, hr, hra, hq⟩ := ev_size (n := l.length) (L := fun k a i => laws_szBlockS.l0 k l a i) (E := fun k i a => laws_szBlock.f k (rd_T129 l i).f0 (rd_T129 l i).f1 (rd_T129 l i).f2 a) (P := fun i => ((l.getD i z129).f2.length : Int) ≤ 1048576 ∧ ∀ y ∈ (l.getD i z129).f2, (y.f1.size : Int) ≤ 1048576) hn (fun k a i => by simp only [laws_szBlockS.l0])
      (fun i a hi h2 h3 => by
        have hb := hk _ (getD_mem' (z := z129) hi)
        rw [rdLB_nat]
        obtain ⟨t, ht, hta, hp⟩ := szLeafS_ev (l.getD i z129).f2 a h2 h3 hb.1 hb.2
        unfold laws_szBlock.f
        by_cases h4 : t < 0
        · exact ⟨-1, ev_bind ht (by simp only [if_pos h4]; exact Ev.now _), by omega, fun h5 => by omega⟩
        · exact ⟨t, ev_bind ht (by simp only [if_neg h4]; exact Ev.now _), hta, fun h5 => ⟨by have := (hp h5).1; omega, (hp h5).2⟩⟩) l.length 0 (a - (l.length : Int)) (by omega) (by omega) (by omega)
    have hr2 : Ev (fun k => laws_szBlockS.f k l a) r := by
      refine ev_ext (fun k => ?_) hr
      unfold laws_szBlockS.f
      rw [w64 (by omega) (by omega), if_neg h]; rfl
    have hp : 0 ≤ r → (l.length : Int) ≤ a ∧ ∀ x ∈ l, (x.f2.length : Int) ≤ 1048576 ∧ ∀ y ∈ x.f2, (y.f1.size : Int) ≤ 1048576 := fun h2 => ⟨by omega, fun x hx => by
      obtain ⟨i, hi, rfl⟩ := List.getElem_of_mem hx
      have := hq h2 i (by omega) hi
      rwa [List.getD_eq_getElem?_getD, List.getElem?_eq_getElem hi] at this⟩
    unfold laws_szFlash.f
    by_cases h4 : r < 0
    · exact ⟨-1, ev_bind hr2 (by simp only [if_pos h4]; exact Ev.now _), by omega, fun h5 => by omega⟩
    · exact ⟨r, ev_bind hr2 (by simp only [if_neg h4]; exact Ev.now _), by omega, hp⟩
/-- What a law on a flash begins with. -/
theorem flash_start {l : List S129} (hl : l.length ≤ maxLen) (hx : ∀ x ∈ l, x.f2.length ≤ maxLen ∧ ∀ y ∈ x.f2, y.f1.size ≤ maxLen) :
    ∃ r, Ev (fun k => laws_szFlash.f k l 1048576) r ∧ (0 ≤ r → Ev (fun k => laws_toFlash.f k l) (toFl l) ∧ Ev (fun k => laws_eqFlash.f k (toFl l) (toFl l)) true ∧ (toFl l).length ≤ 1048576 ∧ ∀ x ∈ toFl l, x.f2.length ≤ 1048576 ∧ ∀ y ∈ x.f2, y.f1.size ≤ 1048576) := by
  unfold maxLen at hl hx
  obtain ⟨r, hr, _, hq⟩ := szFlash_ev l 1048576 (by omega) (by omega) (by omega) (fun x h => ⟨by have := (hx x h).1; omega, fun y hy => by have := (hx x h).2 y hy; omega⟩)
  refine ⟨r, hr, fun h0 => ?_⟩
  obtain ⟨h1, h2⟩ := hq h0
  have hlen : (toFl l).length = l.length := by unfold toFl; exact List.length_map _
  have hm : ∀ x ∈ toFl l, x.f2.length ≤ 1048576 ∧ ∀ y ∈ x.f2, y.f1.size ≤ 1048576 := by
    intro x h
    unfold toFl at h
    obtain ⟨y, hy, rfl⟩ := List.mem_map.1 h
    obtain ⟨a1, a2⟩ := h2 y hy
    refine ⟨by show (y.f2.map toLf).length ≤ _; rw [List.length_map]; omega, fun z hz => ?_⟩
    obtain ⟨q, hq2, rfl⟩ := List.mem_map.1 (show z ∈ y.f2.map toLf from hz)
    have := a2 q hq2
    show q.f1.size ≤ _
    omega
  exact ⟨toFlash_ev l (by omega) (fun x h => by have := (h2 x h).1; omega), eqFlash_ev _ (by omega) (fun x h => (hm x h).1), by omega, hm⟩
end Go.Proofs.Ytklkhnomnanpoaa.Pu

/- When a flash is right, as one test; the program's and the reference's FlashOk answer it. -/
namespace Go.Proofs.Ytklkhnomnanpoaa.Pu
open Go.RowKit Go.Proofs.Ytklkhnomnanpoaa.PK Go.Proofs.YtklkhnomnanpoaaW.PrintWords
theorem inF_eq (a l h : Int) : impl_in.f a l h = some (decide (l ≤ a ∧ a ≤ h)) := by
  unfold impl_in.f
  by_cases h1 : a ≥ l
  · rw [if_pos h1]; congr 1; simp; omega
  · rw [if_neg h1]; congr 1; simp; omega
theorem l01InF_eq (a l h : Int) : spec_l01In.f a l h = some (decide (l ≤ a ∧ a ≤ h)) := by
  unfold spec_l01In.f
  by_cases h1 : a ≥ l
  · rw [if_pos h1]; congr 1; simp; omega
  · rw [if_neg h1]; congr 1; simp; omega

def leafB (x : S101) : Bool := if x.f0 = 0 then decide ((x.f1.size : Int) ≤ 0) else if x.f0 = 1 then decide (1 ≤ (x.f1.size : Int) ∧ (x.f1.size : Int) ≤ 120) else if x.f0 = 2 then decide ((x.f1.size : Int) ≤ 120) else false
/-- The leaf at place i of a block, and the one ahead of it. -/
def stepB (ls : List S101) (i : Nat) : Bool := leafB (ls.getD i z101) && (decide (i = 0) || !decide ((ls.getD (i - 1) z101).f0 = 0) || decide ((ls.getD i z101).f0 = 0))
def blockB (b : S83) : Bool := decide (b.f2.length = 4) && (decide (0 ≤ b.f1 ∧ b.f1 ≤ 1000000000) && (List.range' 0 b.f2.length).all (stepB b.f2))
def flashB (f : List S83) : Bool := (List.range' 0 f.length).all (fun i => blockB (f.getD i z83)) && decide (3 ≤ (f.length : Int) ∧ (f.length : Int) ≤ 10)

theorem sLeaf_eq (x : S101) : spec_l05Leaf.f x.f0 x.f1 = some (leafB x) := by
  unfold spec_l05Leaf.f leafB
  simp only [l01InF_eq, Option.bind_some, bytes_empty]
  repeat' split
  all_goals rfl
theorem iLeaf_eq (x : S101) : impl_leafOk.f x.f0 x.f1 = some (leafB x) := by
  unfold impl_leafOk.f leafB
  simp only [inF_eq, Option.bind_some, bytes_empty]
  repeat' split
  all_goals rfl
theorem sFlash_step (k : Nat) (a : Int) (f : List S83) (b : Bool) (n : Int) (ls : List S101) (i : Nat) (hi : i < ls.length) (hn : ls.length ≤ 1048576) :
    spec_FlashOk.l1 (k + 1) a (i : Int) f b n ls = if stepB ls i = true then spec_FlashOk.l1 k a ((i + 1 : Nat) : Int) f b n ls else some false := by
  simp only [spec_FlashOk.l1]
  rw [if_pos (by omega), if_pos (by omega), rdIL_nat, sLeaf_eq, wsucc (n := ls.length) hi (by omega), w64 (x := (i : Int) - 1) (by omega) (by omega)]
  simp only [Option.bind_some]
  unfold stepB
  by_cases h : leafB (ls.getD i z101) = true
  · rw [if_pos h, h, Bool.true_and]
    by_cases h0 : i = 0
    · subst h0
      simp
    · obtain ⟨j, rfl⟩ : ∃ j, i = j + 1 := ⟨i - 1, by omega⟩
      rw [if_pos (by omega), if_pos (by omega), if_pos (by omega), show ((j + 1 : Nat) : Int) - 1 = (j : Int) by omega, rdIL_nat, show j + 1 - 1 = j by omega]
      generalize (ls.getD j z101).f0 = u
      generalize (ls.getD (j + 1) z101).f0 = v
      by_cases h1 : u = 0 <;> by_cases h2 : v = 0 <;> simp [h1, h2]
  · rw [if_neg h, Bool.eq_false_iff.mpr h, Bool.false_and]
    rfl
theorem iFlash_step (k : Nat) (f : List S83) (a c : Int) (f2 : List S83) (b : Bool) (n : Int) (ls : List S101) (i : Nat) (hi : i < ls.length) (hn : ls.length ≤ 1048576) :
    impl_FlashOk.l1 (k + 1) f a c ls (ls.length : Int) (i : Int) f2 b n ls = if stepB ls i = true then impl_FlashOk.l1 k f a c ls (ls.length : Int) ((i + 1 : Nat) : Int) f2 b n ls else some false := by
  simp only [impl_FlashOk.l1]
  rw [if_pos (by omega), if_pos (by omega), if_pos (by omega), rdIL_nat, iLeaf_eq, wsucc (n := ls.length) hi (by omega), w64 (x := (i : Int) - 1) (by omega) (by omega)]
  simp only [Option.bind_some]
  unfold stepB
  by_cases h : leafB (ls.getD i z101) = true
  · rw [if_pos h, h, Bool.true_and]
    by_cases h0 : i = 0
    · subst h0
      simp
    · obtain ⟨j, rfl⟩ : ∃ j, i = j + 1 := ⟨i - 1, by omega⟩
      rw [if_pos (by omega), if_pos (by omega), if_pos (by omega), show ((j + 1 : Nat) : Int) - 1 = (j : Int) by omega, rdIL_nat, show j + 1 - 1 = j by omega]
      generalize (ls.getD j z101).f0 = u
      generalize (ls.getD (j + 1) z101).f0 = v
      by_cases h1 : u = 0 <;> by_cases h2 : v = 0 <;> simp [h1, h2]
  · rw [if_neg h, Bool.eq_false_iff.mpr h, Bool.false_and]
    rfl
theorem sFlashOk_ev (f : List S83) (hn : f.length ≤ 1048576) (hk : ∀ x ∈ f, x.f2.length ≤ 1048576) : Ev (fun k => spec_FlashOk.f k f) (flashB f) := by
  refine ev_outer (L := fun k i => spec_FlashOk.l0 k i f) (n := f.length) (T := fun i => blockB (f.getD i z83)) (fun i r hi hr => ?_) (ev_some fun k => by simp only [spec_FlashOk.l0]; rw [if_neg (by omega), l01InF_eq]; rfl) f.length 0 (by omega)
  have hb := hk _ (getD_mem' (z := z83) hi)
  unfold blockB
  by_cases h4 : (f.getD i z83).f2.length = 4
  · rw [decide_eq_true h4, Bool.true_and]
    by_cases hw : 0 ≤ (f.getD i z83).f1 ∧ (f.getD i z83).f1 ≤ 1000000000
    · rw [decide_eq_true hw, Bool.true_and]
      have h := ev_scan (L := fun k j => spec_FlashOk.l1 k i j f (f.getD i z83).f0 (f.getD i z83).f1 (f.getD i z83).f2) (n := (f.getD i z83).f2.length) (T := stepB (f.getD i z83).f2) (fun k j hj => sFlash_step k i f _ _ _ j hj hb)
        (g := fun k => spec_FlashOk.l0 k ((i + 1 : Nat) : Int) f) (fun k => by simp only [spec_FlashOk.l1]; rw [if_neg (by omega), wsucc (n := f.length) hi (by omega)]) hr _ 0 (Nat.zero_add _)
      refine Ev.step (f := fun k => spec_FlashOk.j1 k i false f (f.getD i z83).f0 (f.getD i z83).f1 (f.getD i z83).f2) (fun k => ?_) (Ev.step (fun k => ?_) h)
      · simp only [spec_FlashOk.l0]
        rw [if_pos (by omega), if_pos (by omega), rdIB_nat, if_pos (by omega), l01InF_eq, decide_eq_true hw]
        rfl
      · simp only [spec_FlashOk.j1]
        rfl
    · rw [decide_eq_false hw, Bool.false_and, Bool.false_and]
      refine Ev.step (f := fun k => spec_FlashOk.j1 k i true f (f.getD i z83).f0 (f.getD i z83).f1 (f.getD i z83).f2) (fun k => ?_) (ev_some fun k => by simp [spec_FlashOk.j1])
      simp only [spec_FlashOk.l0]
      rw [if_pos (by omega), if_pos (by omega), rdIB_nat, if_pos (by omega), l01InF_eq, decide_eq_false hw]
      rfl
  · rw [decide_eq_false h4, Bool.false_and, Bool.false_and]
    refine Ev.step (f := fun k => spec_FlashOk.j1 k i true f (f.getD i z83).f0 (f.getD i z83).f1 (f.getD i z83).f2) (fun k => ?_) (ev_some fun k => by simp [spec_FlashOk.j1])
    simp only [spec_FlashOk.l0]
    rw [if_pos (by omega), if_pos (by omega), rdIB_nat, if_neg (by omega)]
theorem iFlashOk_ev (f : List S83) (hn : f.length ≤ 1048576) (hk : ∀ x ∈ f, x.f2.length ≤ 1048576) : Ev (fun k => impl_FlashOk.f k f) (flashB f) := by
  refine ev_outer (L := fun k i => impl_FlashOk.l0 k f (f.length : Int) i f) (n := f.length) (T := fun i => blockB (f.getD i z83)) (fun i r hi hr => ?_) (ev_some fun k => by simp only [impl_FlashOk.l0]; rw [if_neg (by omega), inF_eq]; rfl) f.length 0 (by omega)
  have hb := hk _ (getD_mem' (z := z83) hi)
  unfold blockB
  by_cases h4 : (f.getD i z83).f2.length = 4
  · rw [decide_eq_true h4, Bool.true_and]
    by_cases hw : 0 ≤ (f.getD i z83).f1 ∧ (f.getD i z83).f1 ≤ 1000000000
    · rw [decide_eq_true hw, Bool.true_and]
      have h := ev_scan (L := fun k j => impl_FlashOk.l1 k f (f.length : Int) i (f.getD i z83).f2 ((f.getD i z83).f2.length : Int) j f (f.getD i z83).f0 (f.getD i z83).f1 (f.getD i z83).f2) (n := (f.getD i z83).f2.length) (T := stepB (f.getD i z83).f2) (fun k j hj => iFlash_step k f _ _ f _ _ _ j hj hb)
        (g := fun k => impl_FlashOk.l0 k f (f.length : Int) ((i + 1 : Nat) : Int) f) (fun k => by simp only [impl_FlashOk.l1]; rw [if_neg (by omega), wsucc (n := f.length) hi (by omega)]) hr _ 0 (Nat.zero_add _)
      refine Ev.step (f := fun k => impl_FlashOk.j1 k f (f.length : Int) i false f (f.getD i z83).f0 (f.getD i z83).f1 (f.getD i z83).f2) (fun k => ?_) (Ev.step (fun k => ?_) h)
      · simp only [impl_FlashOk.l0]
        rw [if_pos (by omega), if_pos (by omega), if_pos (by omega), rdIB_nat, if_pos (by omega), inF_eq, decide_eq_true hw]
        rfl
      · simp only [impl_FlashOk.j1]
        rfl
    · rw [decide_eq_false hw, Bool.false_and, Bool.false_and]
      refine Ev.step (f := fun k => impl_FlashOk.j1 k f (f.length : Int) i true f (f.getD i z83).f0 (f.getD i z83).f1 (f.getD i z83).f2) (fun k => ?_) (ev_some fun k => by simp [impl_FlashOk.j1])
      simp only [impl_FlashOk.l0]
      rw [if_pos (by omega), if_pos (by omega), if_pos (by omega), rdIB_nat, if_pos (by omega), inF_eq, decide_eq_false hw]
      rfl
  · rw [decide_eq_false h4, Bool.false_and, Bool.false_and]
    refine Ev.step (f := fun k => impl_FlashOk.j1 k f (f.length : Int) i true f (f.getD i z83).f0 (f.getD i z83).f1 (f.getD i z83).f2) (fun k => ?_) (ev_some fun k => by simp [impl_FlashOk.j1])
    simp only [impl_FlashOk.l0]
    rw [if_pos (by omega), if_pos (by omega), if_pos (by omega), rdIB_nat, if_neg (by omega)]
end Go.Proofs.Ytklkhnomnanpoaa.Pu

/- The next blank leaf of a block; the program's and the reference's NextBlank tell it. -/
namespace Go.Proofs.Ytklkhnomnanpoaa.Pu
open Go.RowKit Go.Proofs.Ytklkhnomnanpoaa.PK Go.Proofs.YtklkhnomnanpoaaW.PrintWords
def blankL (x : S101) : Bool := decide (x.f0 = 0)
def nextB (ls : List S101) : Int := let r := findI (fun i => blankL (ls.getD i z101)) 0 ls.length; if r = -1 then 4 else r
theorem iNext_ev (b : Bool) (n : Int) (ls : List S101) (hn : ls.length ≤ 1048576) : Ev (fun k => impl_NextBlank.f k b n ls) (nextB ls) := by
  have main : ∀ (d i : Nat), i + d = ls.length → Ev (fun k => impl_NextBlank.l0 k ls (ls.length : Int) (i : Int)) (if findI (fun i => blankL (ls.getD i z101)) i d = -1 then 4 else findI (fun i => blankL (ls.getD i z101)) i d) := by
    intro d
    induction d with
    | zero => intro i hi; exact ev_some fun k => by simp only [impl_NextBlank.l0]; rw [if_neg (by omega)]; rfl
    | succ d ih =>
      intro i hi
      unfold findI
      by_cases h : (ls.getD i z101).f0 = 0
      · rw [if_pos (show blankL (ls.getD i z101) = true from decide_eq_true h), if_neg (by omega)]
        refine ev_some fun k => ?_
        simp only [impl_NextBlank.l0]
        rw [if_pos (by omega), if_pos (by omega), if_pos (by omega), rdIL_nat, if_pos h]
      · rw [if_neg (show ¬ blankL (ls.getD i z101) = true by unfold blankL; rw [decide_eq_false h]; decide)]
        refine Ev.step (fun k => ?_) (ih (i + 1) (by omega))
        simp only [impl_NextBlank.l0]
        rw [if_pos (by omega), if_pos (by omega), if_pos (by omega), rdIL_nat, if_neg h, wsucc (n := ls.length) (by omega) (by omega)]
  exact main ls.length 0 (by omega)
theorem sNext_ev (b : Bool) (n : Int) (ls : List S101) (hn : ls.length ≤ 1048576) : Ev (fun k => spec_NextBlank.f k b n ls) (nextB ls) := by
  have main : ∀ (d i : Nat), i + d = ls.length → Ev (fun k => spec_NextBlank.l0 k (i : Int) b n ls) (if findI (fun i => blankL (ls.getD i z101)) i d = -1 then 4 else findI (fun i => blankL (ls.getD i z101)) i d) := by
    intro d
    induction d with
    | zero => intro i hi; exact ev_some fun k => by simp only [spec_NextBlank.l0]; rw [if_neg (by omega)]; rfl
    | succ d ih =>
      intro i hi
      unfold findI
      by_cases h : (ls.getD i z101).f0 = 0
      · rw [if_pos (show blankL (ls.getD i z101) = true from decide_eq_true h), if_neg (by omega)]
        refine ev_some fun k => ?_
        simp only [spec_NextBlank.l0]
        rw [if_pos (by omega), if_pos (by omega), rdIL_nat, if_pos h]
      · rw [if_neg (show ¬ blankL (ls.getD i z101) = true by unfold blankL; rw [decide_eq_false h]; decide)]
        refine Ev.step (fun k => ?_) (ih (i + 1) (by omega))
        simp only [spec_NextBlank.l0]
        rw [if_pos (by omega), if_pos (by omega), rdIL_nat, if_neg h, wsucc (n := ls.length) (by omega) (by omega)]
  exact main ls.length 0 (by omega)
end Go.Proofs.Ytklkhnomnanpoaa.Pu

/- Marks: what a row's places are marked with is held there again, and the count goes on alike. -/
namespace Go.Proofs.Ytklkhnomnanpoaa.Pu
open Go.RowKit Go.Proofs.Ytklkhnomnanpoaa.PK Go.Proofs.YtklkhnomnanpoaaW.PrintWords
theorem getD_set_self {α : Type} {xs : List α} {i : Nat} {x z : α} (h : i < xs.length) : (xs.set i x).getD i z = x := by
  rw [List.getD_eq_getElem?_getD, List.getElem?_set_self h]; rfl
theorem getD_set_ne {α : Type} {xs : List α} {i j : Nat} {x z : α} (h : i ≠ j) : (xs.set i x).getD j z = xs.getD j z := by
  rw [List.getD_eq_getElem?_getD, List.getD_eq_getElem?_getD, List.getElem?_set_ne h]
/-- A row that is marked place by place, and held so. -/
theorem ev_mark {α : Type} (z : α) {L : Nat → List α → Int → Int → Option (Int × List α)} {Hd : Nat → List α → Int → Int → Option Int} (E : Nat → α → Int → Option (Int × α)) (G : Nat → α → Int → Option Int) (c : Int) (P : α → Prop)
    (hL : ∀ k (xs : List α) (a : Int) (i : Nat), i < xs.length → 0 ≤ a → a + c ≤ 4611686018427387904 → L (k + 1) xs a (i : Int) = (E k (xs.getD i z) a).bind fun b => L k (xs.set i b.2) b.1 (wrap64 ((i : Int) + 1)))
    (hL0 : ∀ k (xs : List α) (a : Int) (i : Nat), xs.length ≤ i → L (k + 1) xs a (i : Int) = some (a, xs))
    (hH : ∀ k (xs : List α) (a : Int) (i : Nat), i < xs.length → 0 ≤ a → a + c ≤ 4611686018427387904 → Hd (k + 1) xs a (i : Int) = (G k (xs.getD i z) a).bind fun t => if t < 0 then some (-1) else Hd k xs t (wrap64 ((i : Int) + 1)))
    (hH0 : ∀ k (xs : List α) (a : Int) (i : Nat), xs.length ≤ i → Hd (k + 1) xs a (i : Int) = some a)
    (hc : 0 ≤ c)
    (hE : ∀ x a, P x → 0 ≤ a → a + c ≤ 4611686018427387904 → ∃ a' x', Ev (fun k => E k x a) (a', x') ∧ Ev (fun k => G k x' a) a' ∧ a ≤ a' ∧ a' ≤ a + c) :
    ∀ (d i : Nat) (xs : List α) (a : Int), i + d = xs.length → xs.length ≤ 9223372036854775807 → (∀ j, i ≤ j → j < xs.length → P (xs.getD j z)) → 0 ≤ a → a + d * c ≤ 4611686018427387904 →
      ∃ a' xs', xs'.length = xs.length ∧ (∀ j, j < i → xs'.getD j z = xs.getD j z) ∧ Ev (fun k => L k xs a (i : Int)) (a', xs') ∧ Ev (fun k => Hd k xs' a (i : Int)) a' ∧ a ≤ a' ∧ a' ≤ a + d * c := by
  intro d
  induction d with
  | zero =>
    intro i xs a hi hn hP ha hM
    exact ⟨a, xs, rfl, fun _ _ => rfl, ev_some fun k => hL0 k xs a i (by omega), ev_some fun k => hH0 k xs a i (by omega), Int.le_refl _, by simp⟩
  | succ d ih =>
    intro i xs a hi hn hP ha hM
    have hdc : 0 ≤ (d : Int) * c := Int.mul_nonneg (by omega) hc
    have hds : ((d + 1 : Nat) : Int) * c = (d : Int) * c + c := by rw [Int.natCast_add, Int.add_mul]; simp
    rw [hds] at hM
    obtain ⟨a1, x1, hE1, hG1, h1, h2⟩ := hE (xs.getD i z) a (hP i (Nat.le_refl _) (by omega)) ha (by omega)
    have hlen : (xs.set i x1).length = xs.length := List.length_set
    obtain ⟨a', xs', hl', hb', hL', hH', h3, h4⟩ := ih (i + 1) (xs.set i x1) a1 (by rw [hlen]; omega) (by rw [hlen]; exact hn) (fun j hj hj2 => by
      rw [hlen] at hj2
      rw [getD_set_ne (by omega)]
      exact hP j (by omega) hj2) (by omega) (by omega)
    have hxi : xs'.getD i z = x1 := by rw [hb' i (by omega), getD_set_self (by omega)]
    refine ⟨a', xs', by rw [hl', hlen], fun j hj => by rw [hb' j (by omega), getD_set_ne (by omega)], ?_, ?_, by omega, by rw [hds]; omega⟩
    · refine Ev.step (fun k => hL k xs a i (by omega) ha (by omega)) (ev_bind hE1 ?_)
      simp only [wsucc (n := xs.length) (i := i) (by omega) hn]
      exact hL'
    · refine Ev.step (fun k => hH k xs' a i (by rw [hl', hlen]; omega) ha (by omega)) ?_
      rw [hxi]
      refine ev_bind hG1 ?_
      simp only [if_neg (show ¬ a1 < 0 by omega), wsucc (n := xs.length) (i := i) (by omega) hn]
      exact hH'

/-- A row that is marked place by place. -/
theorem ev_mark1 {α : Type} (z : α) {L : Nat → List α → Int → Int → Option (Int × List α)} (E : Nat → α → Int → Option (Int × α)) (c : Int)
    (hL : ∀ k (xs : List α) (a : Int) (i : Nat), i < xs.length → 0 ≤ a → a + c ≤ 4611686018427387904 → L (k + 1) xs a (i : Int) = (E k (xs.getD i z) a).bind fun b => L k (xs.set i b.2) b.1 (wrap64 ((i : Int) + 1)))
    (hL0 : ∀ k (xs : List α) (a : Int) (i : Nat), xs.length ≤ i → L (k + 1) xs a (i : Int) = some (a, xs)) (hc : 0 ≤ c)
    (hE : ∀ x a, 0 ≤ a → a + c ≤ 4611686018427387904 → ∃ a' x', Ev (fun k => E k x a) (a', x') ∧ a ≤ a' ∧ a' ≤ a + c) :
    ∀ (d i : Nat) (xs : List α) (a : Int), i + d = xs.length → xs.length ≤ 9223372036854775807 → 0 ≤ a → a + d * c ≤ 4611686018427387904 →
      ∃ a' xs', Ev (fun k => L k xs a (i : Int)) (a', xs') ∧ a ≤ a' ∧ a' ≤ a + d * c := by
  intro d
  induction d with
  | zero =>
    intro i xs a hi hn ha hM
    exact ⟨a, xs, ev_some fun k => hL0 k xs a i (by omega), Int.le_refl _, by simp⟩
  | succ d ih =>
    intro i xs a hi hn ha hM
    have hdc : 0 ≤ (d : Int) * c := Int.mul_nonneg (by omega) hc
    have hds : ((d + 1 : Nat) : Int) * c = (d : Int) * c + c := by rw [Int.natCast_add, Int.add_mul]; simp
    rw [hds] at hM
    obtain ⟨a1, x1, hE1, h1, h2⟩ := hE (xs.getD i z) a ha (by omega)
    have hlen : (xs.set i x1).length = xs.length := List.length_set
    obtain ⟨a', xs', hL', h3, h4⟩ := ih (i + 1) (xs.set i x1) a1 (by rw [hlen]; omega) (by rw [hlen]; exact hn) (by omega) (by omega)
    refine ⟨a', xs', ?_, by omega, by rw [hds]; omega⟩
    refine Ev.step (fun k => hL k xs a i (by omega) ha (by omega)) (ev_bind hE1 ?_)
    simp only [wsucc (n := xs.length) (i := i) (by omega) hn]
    exact hL'

end Go.Proofs.Ytklkhnomnanpoaa.Pu

/- Steps on a flash: a leaf programmed, a block wiped; the program's and the reference's DoStep and DoSteps do them. -/
namespace Go.Proofs.Ytklkhnomnanpoaa.Pu
open Go.RowKit Go.Proofs.Ytklkhnomnanpoaa.PK Go.Proofs.YtklkhnomnanpoaaW.PrintWords
theorem dropS {α : Type} {l : List α} {i : Nat} (z : α) (h : i < l.length) : l.drop i = l.getD i z :: l.drop (i + 1) := by
  rw [List.drop_eq_getElem_cons h, List.getD_eq_getElem?_getD, List.getElem?_eq_getElem h]; rfl
theorem iCopyF_ev (f : List S83) (hn : f.length ≤ 1048576) (hk : ∀ x ∈ f, x.f2.length ≤ 1048576) : Ev (fun k => impl_copyFlash.f k f) f := by
  have main : ∀ (d i : Nat) (acc : List S83), i + d = f.length → acc.length = i → Ev (fun k => impl_copyFlash.l0 k f (f.length : Int) (i : Int) acc) (acc ++ f.drop i) := by
    intro d
    induction d with
    | zero => intro i acc hi hl; exact ev_some fun k => by simp only [impl_copyFlash.l0]; rw [if_neg (by omega), List.drop_eq_nil_of_le (by omega), List.append_nil]
    | succ d ih =>
      intro i acc hi hl
      have hm := hk _ (getD_mem' (z := z83) (show i < f.length by omega))
      have h := ih (i + 1) (acc ++ [f.getD i z83]) (by omega) (by rw [List.length_append, hl]; rfl)
      rw [List.append_assoc, List.singleton_append] at h
      rw [dropS z83 (by omega)]
      refine Ev.step (fun k => ?_) h
      simp only [impl_copyFlash.l0]
      rw [if_pos (by omega), if_pos (by omega), if_pos (by omega), rdIB_nat, if_pos (by simp only [List.length_nil]; omega), if_pos (by omega), wsucc (n := f.length) (by omega) (by omega), List.nil_append]
  exact main f.length 0 [] (by omega) rfl
theorem sCopyF_ev (f : List S83) (hn : f.length ≤ 1048576) (hk : ∀ x ∈ f, x.f2.length ≤ 1048576) : Ev (fun k => spec_l05Copy.f k f) f := by
  have main : ∀ (d i : Nat) (acc : List S83), i + d = f.length → acc.length = i → Ev (fun k => spec_l05Copy.l0 k (i : Int) f acc) (acc ++ f.drop i) := by
    intro d
    induction d with
    | zero => intro i acc hi hl; exact ev_some fun k => by simp only [spec_l05Copy.l0]; rw [if_neg (by omega), List.drop_eq_nil_of_le (by omega), List.append_nil]
    | succ d ih =>
      intro i acc hi hl
      have hm := hk _ (getD_mem' (z := z83) (show i < f.length by omega))
      have h := ih (i + 1) (acc ++ [f.getD i z83]) (by omega) (by rw [List.length_append, hl]; rfl)
      rw [List.append_assoc, List.singleton_append] at h
      rw [dropS z83 (by omega)]
      refine Ev.step (fun k => ?_) h
      simp only [spec_l05Copy.l0]
      rw [if_pos (by omega), if_pos (by omega), rdIB_nat]
      simp only [Option.bind_some]
      rw [if_pos (by simp only [List.length_nil]; omega), if_pos (by omega), wsucc (n := f.length) (by omega) (by omega), List.nil_append]
  exact main f.length 0 [] (by omega) rfl
def useB (f : List S83) (b : Int) : Bool := flashB f && (decide (0 ≤ b ∧ b ≤ (f.length : Int) - 1) && !(f.getD b.toNat z83).f0)
theorem rdB_toNat (f : List S83) (b : Int) : rd_T83 f b = f.getD b.toNat z83 := rfl
theorem iUse_ev (f : List S83) (b : Int) (hn : f.length ≤ 1048576) (hk : ∀ x ∈ f, x.f2.length ≤ 1048576) : Ev (fun k => impl_usable.f k f b) (useB f b) := by
  unfold impl_usable.f useB
  refine ev_bind (iFlashOk_ev f hn hk) ?_
  by_cases h : flashB f = true
  · simp only [if_pos h, inF_eq, Option.bind_some, w64 (x := (f.length : Int) - 1) (by omega) (by omega), h, Bool.true_and]
    by_cases h2 : 0 ≤ b ∧ b ≤ (f.length : Int) - 1
    · simp only [decide_eq_true h2, if_true, if_pos h2.1, if_pos (show b < (f.length : Int) by omega), Bool.true_and, rdB_toNat]
      exact Ev.now _
    · simp only [decide_eq_false h2, Bool.false_eq_true, if_false, Bool.false_and]
      exact Ev.now _
  · simp only [if_neg h, Bool.eq_false_iff.mpr h, Bool.false_and]
    exact Ev.now _
def progOk (f : List S83) (b a : Int) (t : ByteArray) : Bool := useB f b && (decide (0 ≤ a ∧ a ≤ 3) && (decide (a = nextB (f.getD b.toNat z83).f2) && decide (1 ≤ (t.size : Int) ∧ (t.size : Int) ≤ 120)))
def progB (f : List S83) (b a : Int) (t : ByteArray) : List S83 := f.set b.toNat ⟨(f.getD b.toNat z83).f0, (f.getD b.toNat z83).f1, (f.getD b.toNat z83).f2.set a.toNat ⟨1, t⟩⟩
def programB (f : List S83) (b a : Int) (t : ByteArray) : List S83 × Bool := if progOk f b a t = true then (progB f b a t, true) else (f, false)
def wipeOk (f : List S83) (b : Int) : Bool := useB f b && !decide ((f.getD b.toNat z83).f1 = 1000000000)
def wipedB (f : List S83) (b : Int) : List S83 := f.set b.toNat ⟨false, wrap64 ((f.getD b.toNat z83).f1 + 1), List.replicate 4 z101⟩
def wipeB (f : List S83) (b : Int) : List S83 × Bool := if wipeOk f b = true then (wipedB f b, true) else (f, false)
theorem use_of {f : List S83} {b : Int} (h : useB f b = true) : flashB f = true ∧ 0 ≤ b ∧ b.toNat < f.length ∧ b < (f.length : Int) ∧ (f.getD b.toNat z83).f0 = false := by
  unfold useB at h
  simp only [Bool.and_eq_true, decide_eq_true_eq, Bool.not_eq_true'] at h
  exact ⟨h.1, h.2.1.1, by omega, by omega, h.2.2⟩
theorem four_of {f : List S83} (h : flashB f = true) {i : Nat} (hi : i < f.length) : (f.getD i z83).f2.length = 4 := by
  unfold flashB at h
  simp only [Bool.and_eq_true, List.all_eq_true] at h
  have := h.1 i (by simp; omega)
  unfold blockB at this
  simp only [Bool.and_eq_true, decide_eq_true_eq] at this
  exact this.1
theorem nextB_range (ls : List S101) : 0 ≤ nextB ls := by
  unfold nextB
  rcases findI_range (T := fun i => blankL (ls.getD i z101)) ls.length 0 with h | ⟨j, _, _, h, _⟩
  · simp only [h]; decide
  · simp only [h]
    rw [if_neg (by omega)]
    omega
theorem iProgram_ev (f : List S83) (b a : Int) (t : ByteArray) (hn : f.length ≤ 1048576) (hk : ∀ x ∈ f, x.f2.length ≤ 1048576) : Ev (fun k => impl_Program.f k f b a t) (programB f b a t) := by
  unfold impl_Program.f programB progOk progB
  refine ev_bind (iCopyF_ev f hn hk) (ev_bind (iUse_ev f b hn hk) ?_)
  by_cases hu : useB f b = true
  · obtain ⟨u1, u2, u3, u4, u5⟩ := use_of hu
    have h4 := four_of u1 u3
    simp only [hu, if_true, inF_eq, Option.bind_some, Bool.true_and]
    by_cases ha : 0 ≤ a ∧ a ≤ 3
    · simp only [decide_eq_true ha, if_true, if_pos u2, if_pos u4, Bool.true_and, rdB_toNat]
      refine ev_bind (iNext_ev _ _ _ (by omega)) ?_
      by_cases hx : a = nextB (f.getD b.toNat z83).f2
      · simp only [if_pos hx, decide_eq_true hx, Bool.true_and]
        by_cases ht : 1 ≤ (t.size : Int) ∧ (t.size : Int) ≤ 120
        · have hlt : a < ((f.getD b.toNat z83).f2.length : Int) := by omega
          simp only [decide_eq_true ht, if_true, if_pos ha.1]
          exact ⟨0, fun k _ => if_pos hlt⟩
        · simp only [decide_eq_false ht, Bool.false_eq_true, if_false]
          exact Ev.now _
      · simp only [if_neg hx, decide_eq_false hx, Bool.false_and, Bool.false_eq_true, if_false]
        exact Ev.now _
    · simp only [decide_eq_false ha, Bool.false_and, Bool.false_eq_true, if_false]
      exact Ev.now _
  · simp only [Bool.eq_false_iff.mpr hu, Bool.false_and, Bool.false_eq_true, if_false]
    exact Ev.now _
theorem sProgram_ev (f : List S83) (b a : Int) (t : ByteArray) (hn : f.length ≤ 1048576) (hk : ∀ x ∈ f, x.f2.length ≤ 1048576) : Ev (fun k => spec_Program.f k f b a t) (programB f b a t) := by
  unfold spec_Program.f programB progOk useB progB
  refine ev_bind (sCopyF_ev f hn hk) (ev_bind (sFlashOk_ev f hn hk) ?_)
  by_cases h : flashB f = true
  · simp only [h, if_true, Bool.true_and]
    unfold spec_l05May.f
    simp only [l01InF_eq, Option.bind_some, w64 (x := (f.length : Int) - 1) (by omega) (by omega), Option.bind_assoc]
    by_cases h2 : 0 ≤ b ∧ b ≤ (f.length : Int) - 1
    · have u3 : b.toNat < f.length := by omega
      have h4 := four_of h u3
      simp only [decide_eq_true h2, if_true, if_pos h2.1, if_pos (show b < (f.length : Int) by omega), Bool.true_and, rdB_toNat]
      by_cases hb : (f.getD b.toNat z83).f0 = true
      · simp only [hb, if_true, Option.bind_some, Bool.false_eq_true, if_false, Bool.not_true, Bool.false_and]
        exact Ev.now _
      · simp only [Bool.eq_false_iff.mpr hb, Bool.false_eq_true, if_false, Bool.not_false, Bool.true_and]
        by_cases ha : a < 4
        · simp only [if_pos ha, Option.bind_assoc]
          refine ev_bind (sNext_ev _ _ _ (by omega)) ?_
          by_cases hx : a = nextB (f.getD b.toNat z83).f2
          · have h0 : 0 ≤ a := by rw [hx]; exact nextB_range _
            simp only [if_pos hx, decide_eq_true hx, decide_eq_true (show 0 ≤ a ∧ a ≤ 3 from ⟨h0, by omega⟩), Bool.true_and, Option.bind_some]
            by_cases ht : 1 ≤ (t.size : Int) ∧ (t.size : Int) ≤ 120
            · simp only [decide_eq_true ht, if_true, if_pos h0, if_pos (show a < ((f.getD b.toNat z83).f2.length : Int) by omega)]
              exact Ev.now _
            · simp only [decide_eq_false ht, Bool.false_eq_true, if_false]
              exact Ev.now _
          · simp only [if_neg hx, decide_eq_false hx, Bool.false_and, Bool.and_false, Bool.false_eq_true, if_false, Option.bind_some]
            exact Ev.now _
        · simp only [if_neg ha, decide_eq_false (show ¬ (0 ≤ a ∧ a ≤ 3) by omega), Bool.false_and, Bool.false_eq_true, if_false, Option.bind_some]
          exact Ev.now _
    · simp only [decide_eq_false h2, Bool.false_and, Bool.false_eq_true, if_false, Option.bind_some]
      exact Ev.now _
  · simp only [Bool.eq_false_iff.mpr h, Bool.false_and, Bool.false_eq_true, if_false]
    exact Ev.now _
theorem blank_eq : impl_blankLeaves.f = some (List.replicate 4 z101) := by unfold impl_blankLeaves.f; rw [if_pos (by omega)]
theorem iWipe_ev (f : List S83) (b : Int) (hn : f.length ≤ 1048576) (hk : ∀ x ∈ f, x.f2.length ≤ 1048576) : Ev (fun k => impl_Wipe.f k f b) (wipeB f b) := by
  unfold impl_Wipe.f wipeB wipeOk wipedB
  refine ev_bind (iCopyF_ev f hn hk) (ev_bind (iUse_ev f b hn hk) ?_)
  by_cases hu : useB f b = true
  · obtain ⟨u1, u2, u3, u4, u5⟩ := use_of hu
    have e1 : ∀ v, rd_T83 (f.set b.toNat v) b = v := fun v => getD_set_self u3
    simp only [hu, if_true, Bool.true_and, if_pos u2, if_pos u4, rdB_toNat]
    by_cases hw : (f.getD b.toNat z83).f1 = 1000000000
    · simp only [if_pos hw, decide_eq_true hw, Bool.not_true, Bool.false_eq_true, if_false]
      exact Ev.now _
    · simp only [if_neg hw, decide_eq_false hw, Bool.not_false, if_true, blank_eq, Option.bind_some]
      simp only [← rdB_toNat, e1, List.set_set]
      rw [rdB_toNat, u5]
      exact Ev.now _
  · simp only [Bool.eq_false_iff.mpr hu, Bool.false_and, Bool.false_eq_true, if_false]
    exact Ev.now _
theorem sWipe_ev (f : List S83) (b : Int) (hn : f.length ≤ 1048576) (hk : ∀ x ∈ f, x.f2.length ≤ 1048576) : Ev (fun k => spec_Wipe.f k f b) (wipeB f b) := by
  unfold spec_Wipe.f wipeB wipeOk wipedB useB
  refine ev_bind (sCopyF_ev f hn hk) (ev_bind (sFlashOk_ev f hn hk) ?_)
  by_cases h : flashB f = true
  · simp only [h, if_true, Bool.true_and, l01InF_eq, Option.bind_some, w64 (x := (f.length : Int) - 1) (by omega) (by omega)]
    by_cases h2 : 0 ≤ b ∧ b ≤ (f.length : Int) - 1
    · simp only [decide_eq_true h2, if_true, if_pos h2.1, if_pos (show b < (f.length : Int) by omega), Bool.true_and, rdB_toNat, if_pos (show 4 ≤ 11728124029610 by omega)]
      by_cases hb : (f.getD b.toNat z83).f0 = true
      · simp only [hb, if_true, Bool.not_true, Bool.false_and, Bool.false_eq_true, if_false]
        exact Ev.now _
      · simp only [Bool.eq_false_iff.mpr hb, Bool.false_eq_true, if_false, Bool.not_false, Bool.true_and]
        by_cases hw : (f.getD b.toNat z83).f1 = 1000000000
        · simp only [if_pos hw, decide_eq_true hw, Bool.not_true, Bool.false_eq_true, if_false]
          exact Ev.now _
        · simp only [if_neg hw, decide_eq_false hw, Bool.not_false, if_true]
          exact Ev.now _
    · simp only [decide_eq_false h2, Bool.false_and, Bool.false_eq_true, if_false]
      exact Ev.now _
  · simp only [Bool.eq_false_iff.mpr h, Bool.false_and, Bool.false_eq_true, if_false]
    exact Ev.now _
/-- A step. -/
def doB (f : List S83) (kd b a : Int) (t : ByteArray) : List S83 × Bool := if kd = 1 then programB f b a t else if kd = 2 then wipeB f b else (f, false)
theorem iDo_ev (f : List S83) (kd b a : Int) (t : ByteArray) (hn : f.length ≤ 1048576) (hk : ∀ x ∈ f, x.f2.length ≤ 1048576) : Ev (fun k => impl_DoStep.f k f kd b a t) (doB f kd b a t) := by
  unfold impl_DoStep.f doB
  by_cases h1 : kd = 1
  · simp only [if_pos h1]
    exact ev_bind (iProgram_ev f b a t hn hk) (Ev.now _)
  · simp only [if_neg h1]
    by_cases h2 : kd = 2
    · simp only [if_pos h2]
      exact ev_bind (iWipe_ev f b hn hk) (Ev.now _)
    · simp only [if_neg h2]
      exact ev_bind (iCopyF_ev f hn hk) (Ev.now _)
theorem sDo_ev (f : List S83) (kd b a : Int) (t : ByteArray) (hn : f.length ≤ 1048576) (hk : ∀ x ∈ f, x.f2.length ≤ 1048576) : Ev (fun k => spec_DoStep.f k f kd b a t) (doB f kd b a t) := by
  unfold spec_DoStep.f doB
  by_cases h1 : kd = 1
  · simp only [if_pos h1]
    exact ev_bind (sProgram_ev f b a t hn hk) (Ev.now _)
  · simp only [if_neg h1]
    by_cases h2 : kd = 2
    · simp only [if_pos h2]
      exact ev_bind (sWipe_ev f b hn hk) (Ev.now _)
    · simp only [if_neg h2]
      exact ev_bind (sCopyF_ev f hn hk) (Ev.now _)
theorem doB_le {f : List S83} (kd b a : Int) (t : ByteArray) (hn : f.length ≤ 1048576) (hk : ∀ x ∈ f, x.f2.length ≤ 1048576) : (doB f kd b a t).1.length ≤ 1048576 ∧ ∀ x ∈ (doB f kd b a t).1, x.f2.length ≤ 1048576 := by
  have hset : ∀ (i : Nat) (x : S83), x.f2.length ≤ 1048576 → (f.set i x).length ≤ 1048576 ∧ ∀ y ∈ f.set i x, y.f2.length ≤ 1048576 := fun i x hx => ⟨by rw [List.length_set]; exact hn, fun y hy => by
    rcases List.mem_or_eq_of_mem_set hy with h | h
    · exact hk y h
    · rw [h]; exact hx⟩
  have hz : ∀ i, (f.getD i z83).f2.length ≤ 1048576 := fun i => by
    by_cases hi : i < f.length
    · exact hk _ (getD_mem' hi)
    · rw [List.getD_eq_getElem?_getD, List.getElem?_eq_none (by omega)]; exact Nat.zero_le _
  unfold doB programB wipeB progB wipedB
  split
  · split
    · exact hset _ _ (by rw [List.length_set]; exact hz _)
    · exact ⟨hn, hk⟩
  · split
    · split
      · exact hset _ _ (by simp)
      · exact ⟨hn, hk⟩
    · exact ⟨hn, hk⟩
theorem rdS_nat (l : List S56) (i : Nat) : rd_T56 l (i : Int) = l.getD i z56 := rfl
/-- Steps, as long as they are done. -/
def runB (L : List S56) : Nat → Nat → List S83 → List S83 × Int
  | 0, _, f => (f, (L.length : Int))
  | d + 1, i, f => if (doB f (L.getD i z56).f0 (L.getD i z56).f1 (L.getD i z56).f2 (L.getD i z56).f3).2 = true then runB L d (i + 1) (doB f (L.getD i z56).f0 (L.getD i z56).f1 (L.getD i z56).f2 (L.getD i z56).f3).1 else (f, (i : Int))
theorem runB_le (L : List S56) : ∀ (d i : Nat) (f : List S83), f.length ≤ 1048576 → (∀ x ∈ f, x.f2.length ≤ 1048576) → (runB L d i f).1.length ≤ 1048576 ∧ ∀ x ∈ (runB L d i f).1, x.f2.length ≤ 1048576
  | 0, _, f, h, hk => ⟨h, hk⟩
  | d + 1, i, f, h, hk => by
    unfold runB
    split
    · have hb := doB_le (L.getD i z56).f0 (L.getD i z56).f1 (L.getD i z56).f2 (L.getD i z56).f3 h hk
      exact runB_le L d (i + 1) _ hb.1 hb.2
    · exact ⟨h, hk⟩
theorem iSteps_ev (f : List S83) (L : List S56) (hn : f.length ≤ 1048576) (hk : ∀ x ∈ f, x.f2.length ≤ 1048576) (hL : L.length ≤ 1048576) : Ev (fun k => impl_DoSteps.f k f L) (runB L L.length 0 f) := by
  have main : ∀ (d i : Nat) (f : List S83), i + d = L.length → f.length ≤ 1048576 → (∀ x ∈ f, x.f2.length ≤ 1048576) → Ev (fun k => impl_DoSteps.l0 k L L (L.length : Int) (i : Int) f) (runB L d i f) := by
    intro d
    induction d with
    | zero => intro i f hi _ _; exact ev_some fun k => by simp only [impl_DoSteps.l0]; rw [if_neg (by omega)]; rfl
    | succ d ih =>
      intro i f hi h hk
      unfold runB
      refine Ev.step (f := fun k => (impl_DoStep.f k f (L.getD i z56).f0 (L.getD i z56).f1 (L.getD i z56).f2 (L.getD i z56).f3).bind fun bt => if bt.2 = true then impl_DoSteps.l0 k L L (L.length : Int) ((i + 1 : Nat) : Int) bt.1 else some (f, (i : Int))) (fun k => ?_) (ev_bind (iDo_ev f _ _ _ _ h hk) ?_)
      · simp only [impl_DoSteps.l0]
        rw [if_pos (by omega), if_pos (by omega), if_pos (by omega), rdS_nat, wsucc (n := L.length) (by omega) (by omega)]
      · have hb := doB_le (L.getD i z56).f0 (L.getD i z56).f1 (L.getD i z56).f2 (L.getD i z56).f3 h hk
        by_cases hd : (doB f (L.getD i z56).f0 (L.getD i z56).f1 (L.getD i z56).f2 (L.getD i z56).f3).2 = true
        · simp only [if_pos hd]
          exact ih (i + 1) _ (by omega) hb.1 hb.2
        · simp only [if_neg hd]
          exact Ev.now _
  unfold impl_DoSteps.f
  exact ev_bind (iCopyF_ev f hn hk) (main L.length 0 f (by omega) hn hk)
theorem sSteps_ev (f : List S83) (L : List S56) (hn : f.length ≤ 1048576) (hk : ∀ x ∈ f, x.f2.length ≤ 1048576) (hL : L.length ≤ 1048576) : Ev (fun k => spec_DoSteps.f k f L) (runB L L.length 0 f) := by
  have main : ∀ (d i : Nat) (f : List S83), i + d = L.length → f.length ≤ 1048576 → (∀ x ∈ f, x.f2.length ≤ 1048576) → Ev (fun k => spec_DoSteps.l0 k L (i : Int) f) (runB L d i f) := by
    intro d
    induction d with
    | zero => intro i f hi _ _; exact ev_some fun k => by simp only [spec_DoSteps.l0]; rw [if_neg (by omega)]; rfl
    | succ d ih =>
      intro i f hi h hk
      unfold runB
      refine Ev.step (f := fun k => (spec_DoStep.f k f (L.getD i z56).f0 (L.getD i z56).f1 (L.getD i z56).f2 (L.getD i z56).f3).bind fun bt => if bt.2 = true then spec_DoSteps.l0 k L ((i + 1 : Nat) : Int) bt.1 else some (f, (i : Int))) (fun k => ?_) (ev_bind (sDo_ev f _ _ _ _ h hk) ?_)
      · simp only [spec_DoSteps.l0]
        rw [if_pos (by omega), if_pos (by omega), rdS_nat, wsucc (n := L.length) (by omega) (by omega)]
      · have hb := doB_le (L.getD i z56).f0 (L.getD i z56).f1 (L.getD i z56).f2 (L.getD i z56).f3 h hk
        by_cases hd : (doB f (L.getD i z56).f0 (L.getD i z56).f1 (L.getD i z56).f2 (L.getD i z56).f3).2 = true
        · simp only [if_pos hd]
          exact ih (i + 1) _ (by omega) hb.1 hb.2
        · simp only [if_neg hd]
          exact Ev.now _
  unfold spec_DoSteps.f
  exact ev_bind (sCopyF_ev f hn hk) (main L.length 0 f (by omega) hn hk)
end Go.Proofs.Ytklkhnomnanpoaa.Pu
