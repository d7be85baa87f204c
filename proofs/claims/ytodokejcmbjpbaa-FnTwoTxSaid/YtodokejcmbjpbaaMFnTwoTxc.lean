/- FnTwoTx: functions of the translation as Lean functions with what their calls come to, plain lemmas on them, and, at the end, the row. Parts of one proof, merged by a program of this session; each part's own sentence stands at its head. -/
import Derived.Shelf.Sort.Plain
import Derived.Shelf.Slices.In.SortNone2
import Derived.Sort.OwnSortedInts
import Derived.Test.YtodokejcmbjpbaaMFnTwoTxb
set_option linter.unusedSimpArgs false
set_option linter.unusedVariables false
namespace Go.Proofs.Ytodokejcmbjpbaa.PK
open Go.RowKit Go.Proofs.YtodokejcmbjpbaaW.PrintWords Go.Proofs.YtodokejcmbjpbaaW.PrintLast Go.Proofs.YtodokejcmbjpbaaW.PrintMore
attribute [local go_sem] max2_int min2_int max_two min_two max_three min_three max_four min_four
def impl_ReadRecs.l0 : Nat → ByteArray → List (S45) → Int → Option ((List (S45)) × Bool)
 | 0,_,_,_=>none
 | k + 1,x0,x4,x5=>if x5 < (x0.size : Int) then ((impl_ReadVar.f k x0 (wrap64 (x5 + 1))).bind fun bt423=>((impl_ReadVar.f k x0 bt423.2.1).bind fun bt426=>(if 0 ≤ x5 then (if bt423.2.2 = true then (if bt426.2.2 = true then ((impl_RecOk.f k (wrap64 (Int.tdiv (wrap64 (bt x0 x5)) 16)) (Int.tmod (wrap64 (bt x0 x5)) 16) bt423.1 bt426.1).bind fun t430=>(if t430 = true then (if x4.length < 4398046511104 then (impl_ReadRecs.l0 k x0 (x4 ++ [(⟨wrap64 (Int.tdiv (wrap64 (bt x0 x5)) 16),Int.tmod (wrap64 (bt x0 x5)) 16,bt423.1,bt426.1⟩ : S45)]) bt426.2.1) else (none)) else (some (([] : List (S45)),false)))) else (some (([] : List (S45)),false))) else (some (([] : List (S45)),false))) else (none)))) else (some (x4,true))
def impl_ReadRecs.f (k : Nat) (a0 : ByteArray) : Option ((List (S45)) × Bool):=impl_ReadRecs.l0 k a0 ([] : List (S45)) 0
theorem impl_ReadRecs.mono_l : ∀ k,(∀ y0 y1 y2,LeO (impl_ReadRecs.l0 k y0 y1 y2) (impl_ReadRecs.l0 (k + 1) y0 y1 y2))
 | 0=>fun _ _ _ r h=>by simp [impl_ReadRecs.l0] at h
 | k + 1=>by
  have ih0:=impl_ReadRecs.mono_l k;intro y0 y1 y2;unfold impl_ReadRecs.l0
  repeat' first
  | (with_reducible exact ih0 _ _ _)
  | (with_reducible exact impl_ReadVar.mono _ _ _)
  | (with_reducible exact impl_RecOk.mono _ _ _ _ _)
  | (with_reducible exact LeO.refl _)
  | (with_reducible exact LeO.none _)
  | (with_reducible refine LeO.ite ?_ ?_)
  | (with_reducible refine LeO.bind ?_ (fun _=>?_))
  | exact ih0 _ _ _
  | exact impl_ReadVar.mono _ _ _
  | exact impl_RecOk.mono _ _ _ _ _
  | exact LeO.none _
  | refine LeO.ite ?_ ?_
  | refine LeO.bind ?_ (fun _=>?_)
theorem impl_ReadRecs.mono : ∀ a0 k,LeO (impl_ReadRecs.f k a0) (impl_ReadRecs.f (k + 1) a0):=by
 intro a0 k;have ih0:=impl_ReadRecs.mono_l k;unfold impl_ReadRecs.f
 repeat' first
   | (with_reducible exact ih0 _ _ _)
   | (with_reducible exact impl_ReadVar.mono _ _ _)
   | (with_reducible exact impl_RecOk.mono _ _ _ _ _)
   | (with_reducible exact LeO.refl _)
   | (with_reducible exact LeO.none _)
   | (with_reducible refine LeO.ite ?_ ?_)
   | (with_reducible refine LeO.bind ?_ (fun _=>?_))
   | exact ih0 _ _ _
   | exact impl_ReadVar.mono _ _ _
   | exact impl_RecOk.mono _ _ _ _ _
   | exact LeO.none _
   | refine LeO.ite ?_ ?_
   | refine LeO.bind ?_ (fun _=>?_)
def impl_ReadRecs.T6 : Bool × List (List Nat × List Nat):=(true,[([],[]),([],[]),([0,1],[0,1]),([2],[2]),([3],[3]),([],[]),([],[]),([5,6],[5,6]),([7],[7]),([8],[8]),([],[]),([],[]),([4,9,10,11],[4,9,10,11]),([],[]),([13,12,0,1,2,3,4,5,6,7,8,9,10,11,12,13],[12,13])])
def impl_ReadRecs.B6 : List Nat:=[0,0,3,7,15,0,0,96,224,480,0,0,4095,0,16383]
theorem impl_ReadRecs.tab6 : rtab .any (opsOf Try.f56 6) = impl_ReadRecs.T6:=by kernel_rfl
theorem impl_ReadRecs.bits6 : waitsOk impl_ReadRecs.T6.2 impl_ReadRecs.B6 = true:=by kernel_rfl
set_option maxHeartbeats 8000000 in
set_option maxRecDepth 100000 in
theorem impl_ReadRecs.calls (k : Nat) (a0 : ByteArray) (r1 : List (S45)) (r2 : Bool) (w : World) (h : impl_ReadRecs.f k a0 = some (r1,r2)) :
  Calls Try.prog 56 #[.string a0] w fun e w'=>∃ v0_ : Value,e = .returned (.tuple #[v0_,.bool r2]) ∧ Kd.R k45 45 w' w.heap.size (fun _=>True) v0_ r1 ∧ Below w.heap.size w w':=by
 have hu45:=Try.underlying45;have HB:=zMk (Below.refl w.heap.size w);have H : (impl_ReadRecs.l0 k a0 ([] : List (S45)) 0) = some (r1,r2):=h;clear h;have H':=zMk H;clear H
 go_enter Try.func56,Try.ntmps56
 go_wp2
 go_loopg [4,5] k (fun kq v4 v5 w'=>∃ (x4_1 : List (S45)) (x5_1 : Int),v5 = .int .i64 x5_1 ∧ Aside0 (impl_ReadRecs.l0 kq a0 x4_1 x5_1 = some (r1,r2)) ∧ Aside0 (kq ≤ k) ∧ Aside0 (Kd.R k45 45 w' w.heap.size (fun _=>True) v4 x4_1) ∧ Aside0 (Below w.heap.size w w'));case atStart=>exact ⟨(([] : List (S45))),(0),(by first | rfl | (simp;done) | (simp [*];done)),H',⟨Nat.le_refl _⟩,⟨by first | exact Kd.R_nil _ _ _ _ _ | exact Kd.N_nil _ _ _ _ _ | exact Kd.V_nil _ _ _ _ _ | exact Kd.Q_nil _ _ _ _ _ | exact Kd.S_nil _ _ _ _ _⟩,⟨hs HB⟩⟩
 case round =>
  clear H';obtain ⟨x4_1,x5_1,rfl,HA,HK1,HO_4,HB⟩:=hrel;cases gk with
  | zero=>exact absurd HA.out (by simp [impl_ReadRecs.l0])
  | succ k1 =>
   have H:=HA.out;clear HA;simp only [impl_ReadRecs.l0] at H
   by_cases c2 : x5_1 < (a0.size : Int)
   ·rw [if_pos c2] at H;have c2b0 : decide (x5_1 < (a0.size : Int)) = true:=decide_eq_true c2;clear c2;replace H:=Option.bind_eq_some_iff.mp H;obtain ⟨⟨t423,t424,t425⟩,A30,H⟩:=H;replace H : ((impl_ReadVar.f k1 a0 t424).bind fun bt426=>(if 0 ≤ x5_1 then (if t425 = true then (if bt426.2.2 = true then ((impl_RecOk.f k1 (wrap64 (Int.tdiv (wrap64 (bt a0 x5_1)) 16)) (Int.tmod (wrap64 (bt a0 x5_1)) 16) t423 bt426.1).bind fun t430=>(if t430 = true then (if x4_1.length < 4398046511104 then (impl_ReadRecs.l0 k1 a0 (x4_1 ++ [(⟨wrap64 (Int.tdiv (wrap64 (bt a0 x5_1)) 16),Int.tmod (wrap64 (bt a0 x5_1)) 16,t423,bt426.1⟩ : S45)]) bt426.2.1) else (none)) else (some (([] : List (S45)),false)))) else (some (([] : List (S45)),false))) else (some (([] : List (S45)),false))) else (none))) = some (r1,r2):=H;have A3:=zMk A30;clear A30;replace H:=Option.bind_eq_some_iff.mp H;obtain ⟨⟨t426,t427,t428⟩,A40,H⟩:=H;replace H : (if 0 ≤ x5_1 then (if t425 = true then (if t428 = true then ((impl_RecOk.f k1 (wrap64 (Int.tdiv (wrap64 (bt a0 x5_1)) 16)) (Int.tmod (wrap64 (bt a0 x5_1)) 16) t423 t426).bind fun t430=>(if t430 = true then (if x4_1.length < 4398046511104 then (impl_ReadRecs.l0 k1 a0 (x4_1 ++ [(⟨wrap64 (Int.tdiv (wrap64 (bt a0 x5_1)) 16),Int.tmod (wrap64 (bt a0 x5_1)) 16,t423,t426⟩ : S45)]) t427) else (none)) else (some (([] : List (S45)),false)))) else (some (([] : List (S45)),false))) else (some (([] : List (S45)),false))) else (none)) = some (r1,r2):=H;have A4:=zMk A40;clear A40
    by_cases c5 : 0 ≤ x5_1
    ·rw [if_pos c5] at H;have c5b0 : decide (0 ≤ x5_1) = true:=decide_eq_true c5;clear c5
     by_cases c8 : t425 = true
     ·subst c8;have H1 : (if t428 = true then ((impl_RecOk.f k1 (wrap64 (Int.tdiv (wrap64 (bt a0 x5_1)) 16)) (Int.tmod (wrap64 (bt a0 x5_1)) 16) t423 t426).bind fun t430=>(if t430 = true then (if x4_1.length < 4398046511104 then (impl_ReadRecs.l0 k1 a0 (x4_1 ++ [(⟨wrap64 (Int.tdiv (wrap64 (bt a0 x5_1)) 16),Int.tmod (wrap64 (bt a0 x5_1)) 16,t423,t426⟩ : S45)]) t427) else (none)) else (some (([] : List (S45)),false)))) else (some (([] : List (S45)),false))) = some (r1,r2):=by rw [if_pos rfl] at H;exact H
      clear H;have H:=H1;clear H1
      by_cases c9 : t428 = true
      ·subst c9;have H1 : ((impl_RecOk.f k1 (wrap64 (Int.tdiv (wrap64 (bt a0 x5_1)) 16)) (Int.tmod (wrap64 (bt a0 x5_1)) 16) t423 t426).bind fun t430=>(if t430 = true then (if x4_1.length < 4398046511104 then (impl_ReadRecs.l0 k1 a0 (x4_1 ++ [(⟨wrap64 (Int.tdiv (wrap64 (bt a0 x5_1)) 16),Int.tmod (wrap64 (bt a0 x5_1)) 16,t423,t426⟩ : S45)]) t427) else (none)) else (some (([] : List (S45)),false)))) = some (r1,r2):=by rw [if_pos rfl] at H;exact H
       clear H;have H:=H1;clear H1;replace H:=Option.bind_eq_some_iff.mp H;obtain ⟨t430,A100,H⟩:=H;replace H : (if t430 = true then (if x4_1.length < 4398046511104 then (impl_ReadRecs.l0 k1 a0 (x4_1 ++ [(⟨wrap64 (Int.tdiv (wrap64 (bt a0 x5_1)) 16),Int.tmod (wrap64 (bt a0 x5_1)) 16,t423,t426⟩ : S45)]) t427) else (none)) else (some (([] : List (S45)),false))) = some (r1,r2):=H;have A10:=zMk A100;clear A100
       by_cases c11 : t430 = true
       ·subst c11;have H1 : (if x4_1.length < 4398046511104 then (impl_ReadRecs.l0 k1 a0 (x4_1 ++ [(⟨wrap64 (Int.tdiv (wrap64 (bt a0 x5_1)) 16),Int.tmod (wrap64 (bt a0 x5_1)) 16,t423,t426⟩ : S45)]) t427) else (none)) = some (r1,r2):=by rw [if_pos rfl] at H;exact H
        clear H;have H:=H1;clear H1
        by_cases c12 : x4_1.length < 4398046511104
        ·rw [if_pos c12] at H;have LMc12:=zMk c12;clear c12;obtain ⟨y431,hy431⟩ : ∃ y_ : List (S45),y_ = (x4_1 ++ [(⟨wrap64 (Int.tdiv (wrap64 (bt a0 x5_1)) 16),Int.tmod (wrap64 (bt a0 x5_1)) 16,t423,t426⟩ : S45)]):=⟨_,rfl⟩;replace H : (impl_ReadRecs.l0 k1 a0 y431 t427) = some (r1,r2):=by first | (rw [hy431];with_reducible exact H) | (have H2_:=(Option.bind_some _ _).symm.trans H;rw [hy431];with_reducible exact H2_) | (have H2_:=(Option.bind_some _ _).symm.trans H;with_reducible exact H2_) | with_reducible exact H | (rw [hy431];exact H) | exact H
         have Ny431:=zMk hy431;clear hy431;have H':=zMk H;clear H
         try go_wp2_with (first | ((with_reducible refine gate_callee (f:=66) rfl ?_);refine goesL_ (some 21) rfl rfl Try.func66 (by kernel_rfl) rfl #[.string a0,.int .i64 (wrap64 (x5_1 + 1))] rfl (by (try simp only [List.map_toArray,List.map_cons,List.map_nil]);first | done | rfl | (simp only [List.length_drop,List.length_take];rfl)) ?_;(with_reducible refine (impl_ReadVar.calls k1 a0 (wrap64 (x5_1 + 1)) t423 t424 true _ A3.out).mono ?_);rintro e w' ⟨rfl,⟨nd,rfl⟩⟩;refine ⟨_,rfl,?_⟩;(try (rw [drewN_self wr];generalize hq_ : World.drewN wr _ = wr;have n0_ : Aside0 (Kd.R k45 45 wr w.heap.size (fun _=>True) u4 x4_1):=⟨by rw [← hq_];exact (rs HO_4)⟩;have n1_ : Aside0 (Below w.heap.size w wr):=⟨by rw [← hq_];exact (hs HB)⟩;clear HO_4 HB hq_;have HO_4:=n0_;have HB:=n1_;clear n0_ n1_))) | ((with_reducible refine gate_callee (f:=66) rfl ?_);refine goesL_ (some 28) rfl rfl Try.func66 (by kernel_rfl) rfl #[.string a0,.int .i64 t424] rfl (by (try simp only [List.map_toArray,List.map_cons,List.map_nil]);first | done | rfl | (simp only [List.length_drop,List.length_take];rfl)) ?_;(with_reducible refine (impl_ReadVar.calls k1 a0 t424 t426 t427 true _ A4.out).mono ?_);rintro e w' ⟨rfl,⟨nd,rfl⟩⟩;refine ⟨_,rfl,?_⟩;(try (rw [drewN_self wr];generalize hq_ : World.drewN wr _ = wr;have n0_ : Aside0 (Kd.R k45 45 wr w.heap.size (fun _=>True) u4 x4_1):=⟨by rw [← hq_];exact (rs HO_4)⟩;have n1_ : Aside0 (Below w.heap.size w wr):=⟨by rw [← hq_];exact (hs HB)⟩;clear HO_4 HB hq_;have HO_4:=n0_;have HB:=n1_;clear n0_ n1_))))
         have n0_:=zMk (Kd.R_drew HO_4.out);have n1_:=zMk (below_drew1 HB.out);clear HO_4;clear HB;have HO_4:=n0_;have HB:=n1_;clear n0_ n1_;have p6 : 0 ≤ (x5_1 : Int):=zDe (by first | (with_reducible assumption) | assumption);have q6 : x5_1 < (a0.size : Int):=zDe (by first | (with_reducible assumption) | assumption);have hx6:=bt_at a0 x5_1;replace p6:=eq_true p6;replace q6:=eq_true q6;have p7 : 0 ≤ (x5_1 : Int):=zDe (by first | (with_reducible assumption) | assumption);have q7 : x5_1 < (a0.size : Int):=zDe (by first | (with_reducible assumption) | assumption);have hx7:=bt_at a0 x5_1;replace p7:=eq_true p7;replace q7:=eq_true q7;refine start_ (n:=15) (S:=fun w'=>True) (ds:=[]) #[false,false,false,false,false,false,false,false,false,false,false,false,false,false,false] (by kernel_rfl) rfl rfl trivial (fun hHeld=>?_);refine with_tabW impl_ReadRecs.tab6 impl_ReadRecs.bits6 (fun HT_ HW_=>?_);generalize wr.drew = w13 at HO_4 HB hHeld ⊢;refine pure_ (i:=0) (N:=some 32) (v:=?_) (a':=?_) #[true,false,false,false,false,false,false,false,false,false,false,false,false,false,false] rfl rfl (any_of HT_.out (by kernel_rfl)) (fun _ _ _ h=>h) (Or.inl ⟨by rfl,?_⟩) ?_ ?_;rotate_left
         ·intro w';go_simp;with_reducible rfl
         rotate_left
         ·simp only [Act.put,zS1,zS2,zS3,i64_w,i32_w];rfl
         refine pure_ (i:=1) (N:=some 33) (v:=?_) (a':=?_) #[true,true,false,false,false,false,false,false,false,false,false,false,false,false,false] rfl rfl (any_of HT_.out (by kernel_rfl)) (fun _ _ _ h=>h) (Or.inl ⟨by rfl,?_⟩) ?_ ?_;rotate_left
         ·intro w';go_simp;with_reducible rfl
         rotate_left
         ·simp only [Act.put,zS1,zS2,zS3,i64_w,i32_w];rfl
         refine pure_ (i:=5) (N:=some 37) (v:=?_) (a':=?_) #[true,true,false,false,false,true,false,false,false,false,false,false,false,false,false] rfl rfl (any_of HT_.out (by kernel_rfl)) (fun _ _ _ h=>h) (Or.inl ⟨by rfl,?_⟩) ?_ ?_;rotate_left
         ·intro w';go_simp;with_reducible rfl
         rotate_left
         ·simp only [Act.put,zS1,zS2,zS3,i64_w,i32_w];rfl
         refine pure_ (i:=6) (N:=some 38) (v:=?_) (a':=?_) #[true,true,false,false,false,true,true,false,false,false,false,false,false,false,false] rfl rfl (any_of HT_.out (by kernel_rfl)) (fun _ _ _ h=>h) (Or.inl ⟨by rfl,?_⟩) ?_ ?_;rotate_left
         ·intro w';go_simp;with_reducible rfl
         rotate_left
         ·simp only [Act.put,zS1,zS2,zS3,i64_w,i32_w];rfl
         refine pure_ (i:=10) (N:=some 42) (v:=?_) (a':=?_) #[true,true,false,false,false,true,true,false,false,false,true,false,false,false,false] rfl rfl (any_of HT_.out (by kernel_rfl)) (fun _ _ _ h=>h) (Or.inl ⟨by rfl,?_⟩) ?_ ?_;rotate_left
         ·intro w';go_simp;with_reducible rfl
         rotate_left
         ·simp only [Act.put,zS1,zS2,zS3,i64_w,i32_w];rfl
         refine pure_ (i:=11) (N:=some 43) (v:=?_) (a':=?_) #[true,true,false,false,false,true,true,false,false,false,true,true,false,false,false] rfl rfl (any_of HT_.out (by kernel_rfl)) (fun _ _ _ h=>h) (Or.inl ⟨by rfl,?_⟩) ?_ ?_;rotate_left
         ·intro w';go_simp;with_reducible rfl
         rotate_left
         ·simp only [Act.put,zS1,zS2,zS3,i64_w,i32_w];rfl
         refine take_ (i:=2) (N:=some 34) (v:=?_) (a':=?_) #[true,true,true,false,false,true,true,false,false,false,true,true,false,false,false] rfl rfl (take_ofW HT_.out HW_.out (by kernel_rfl)) (fun _ _ _ h=>h) (Or.inl ⟨by rfl,?_⟩) hHeld ?_ ?_;rotate_left
         ·intro w' _;go_simp;with_reducible rfl
         rotate_left
         ·simp only [Act.put,zS1,zS2,zS3,i64_w,i32_w];rfl
         refine pure_ (i:=3) (N:=some 35) (v:=?_) (a':=?_) #[true,true,true,true,false,true,true,false,false,false,true,true,false,false,false] rfl rfl (any_of HT_.out (by kernel_rfl)) (fun _ _ _ h=>h) (Or.inl ⟨by rfl,?_⟩) ?_ ?_;rotate_left
         ·intro w';go_simp;with_reducible rfl
         rotate_left
         ·simp only [Act.put,zS1,zS2,zS3,i64_w,i32_w];rfl
         refine pure_ (i:=4) (N:=some 36) (v:=?_) (a':=?_) #[true,true,true,true,true,true,true,false,false,false,true,true,false,false,false] rfl rfl (any_of HT_.out (by kernel_rfl)) (fun _ _ _ h=>h) (Or.inl ⟨by rfl,?_⟩) ?_ ?_;rotate_left
         ·intro w';go_simp;with_reducible rfl
         rotate_left
         ·simp only [Act.put,zS1,zS2,zS3,i64_w,i32_w];rfl
         refine take_ (i:=7) (N:=some 39) (v:=?_) (a':=?_) #[true,true,true,true,true,true,true,true,false,false,true,true,false,false,false] rfl rfl (take_ofW HT_.out HW_.out (by kernel_rfl)) (fun _ _ _ h=>h) (Or.inl ⟨by rfl,?_⟩) hHeld ?_ ?_;rotate_left
         ·intro w' _;go_simp;with_reducible rfl
         rotate_left
         ·simp only [Act.put,zS1,zS2,zS3,i64_w,i32_w];rfl
         refine pure_ (i:=8) (N:=some 40) (v:=?_) (a':=?_) #[true,true,true,true,true,true,true,true,true,false,true,true,false,false,false] rfl rfl (any_of HT_.out (by kernel_rfl)) (fun _ _ _ h=>h) (Or.inl ⟨by rfl,?_⟩) ?_ ?_;rotate_left
         ·intro w';go_simp;with_reducible rfl
         rotate_left
         ·simp only [Act.put,zS1,zS2,zS3,i64_w,i32_w];rfl
         refine pure_ (i:=9) (N:=some 41) (v:=?_) (a':=?_) #[true,true,true,true,true,true,true,true,true,true,true,true,false,false,false] rfl rfl (any_of HT_.out (by kernel_rfl)) (fun _ _ _ h=>h) (Or.inl ⟨by rfl,?_⟩) ?_ ?_;rotate_left
         ·intro w';go_simp;with_reducible rfl
         rotate_left
         ·simp only [Act.put,zS1,zS2,zS3,i64_w,i32_w];rfl
         refine pure_ (i:=12) (N:=some 44) (v:=?_) (a':=?_) #[true,true,true,true,true,true,true,true,true,true,true,true,true,false,false] rfl rfl (any_of HT_.out (by kernel_rfl)) (fun _ _ _ h=>h) (Or.inl ⟨by rfl,?_⟩) ?_ ?_;rotate_left
         ·intro w';go_simp;with_reducible rfl
         rotate_left
         ·simp only [Act.put,zS1,zS2,zS3,i64_w,i32_w];rfl
         refine one_ (i:=13) (N:=some 12) #[true,true,true,true,true,true,true,true,true,true,true,true,true,true,false] rfl rfl (one_of HT_.out (by kernel_rfl)) (by decide) (fun K hK=>?_);refine box_step ?hg (N:=12) ?hd (cs:=#[.int .i64 0,.int .i64 0,.int .i64 0,.int .i64 0]) (t:=45) ?hr ?_;(case hd=>rfl);(case hg=>rfl);(case hr=>first | (go_simp;done) | (go_simp;rfl));intro gb429 hg w14 hbox hb;have n0_:=zMk (Kd.R_below (Kd.R_elderB (rs HO_4) gb429 (Nat.le_of_eq hg.symm)) hb);have n1_:=zMk (below_step (hs HB) hb);have n2_:=zMk (hbox);have n3_:=zMk ((by rw [hg];exact (below_size (hs HB)) : w.heap.size ≤ gb429));have n4_:=zMk ((by rw [hg];exact (below_size (hs HB)) : w.heap.size ≤ gb429));clear HO_4;clear HB;have HO_4:=n0_;have HB:=n1_;have BK429:=n2_;have GW429:=n3_;have GE429:=n4_;clear n0_ n1_ n2_ n3_ n4_;clear hb hbox hg;refine hK.out _ _ trivial (fun hHeld=>?_);clear hK K;refine norm_ (a':=?_) ?_ ?_;rotate_left
         ·show Act.put _ (some 12) _ = _;simp only [Act.put,zS1,zS2,zS3,i64_w,i32_w];rfl
         refine one_ (i:=14) (N:=none) #[true,true,true,true,true,true,true,true,true,true,true,true,true,true,true] rfl rfl (one_of HT_.out (by kernel_rfl)) (by decide) (fun K hK=>?_);have hs15 : w14.cell? ⟨gb429,0,none⟩ = some (.int .i64 0):=(zCl BK429.out 0).trans rfl;have hfs15:=zFr BK429.out 0;have hs16 : w14.cell? ⟨gb429,1,none⟩ = some (.int .i64 0):=(zCl BK429.out 1).trans rfl;have hfs16:=zFr BK429.out 1;have hs17 : w14.cell? ⟨gb429,2,none⟩ = some (.int .i64 0):=(zCl BK429.out 2).trans rfl;have hfs17:=zFr BK429.out 2;have hs18 : w14.cell? ⟨gb429,3,none⟩ = some (.int .i64 0):=(zCl BK429.out 3).trans rfl;have hfs18:=zFr BK429.out 3;refine skip_ (w1:=?_) (by rfl) rfl ?_ ?_;rotate_left
         ·go_simp;rfl
         refine hK.out _ _ trivial (fun hHeld=>?_);clear hK K;refine done_ (done_of HT_.out (by kernel_rfl)) ?_;have hcz19_0 : w14.cell? ⟨gb429,0,none⟩ = some (.int .i64 0):=(zCl BK429.out 0).trans rfl;have hcz19_1 : w14.cell? ⟨gb429,1,none⟩ = some (.int .i64 0):=(zCl BK429.out 1).trans rfl;have hcz19_2 : w14.cell? ⟨gb429,2,none⟩ = some (.int .i64 0):=(zCl BK429.out 2).trans rfl;have hcz19_3 : w14.cell? ⟨gb429,3,none⟩ = some (.int .i64 0):=(zCl BK429.out 3).trans rfl;have hfz19_0:=zFr BK429.out 0;have hfz19_1:=zFr BK429.out 1;have hfz19_2:=zFr BK429.out 2;have hfz19_3:=zFr BK429.out 3
         try go_wp2_with (first | (go_at_call 49;(with_reducible refine (impl_RecOk.calls k1 (wrap64 (Int.tdiv (wrap64 (bt a0 x5_1)) 16)) (Int.tmod (wrap64 (bt a0 x5_1)) 16) t423 t426 true _ A10.out).mono ?_);rintro e w20 ⟨rfl,hb⟩;have n0_:=zMk (Kd.R_below (by (with_reducible repeat (first | apply Kd.R_alloc | apply Kd.R_drewN | apply Kd.R_drew));exact (Kd.R_mono (Kd.R_far (p:=⟨gb429,3,none⟩) (Kd.R_far (p:=⟨gb429,2,none⟩) (Kd.R_far (p:=⟨gb429,1,none⟩) (Kd.R_far (p:=⟨gb429,0,none⟩) (Kd.R_mono HO_4.out (fun k_ hk=>(⟨hk,hk.2⟩ : _ ∧ k_ ≠ gb429))) (fun _ hk=>hk.2) (.int .i64 (wrap64 (Int.tdiv (wrap64 (bt a0 x5_1)) 16)))) (fun _ hk=>hk.2) (.int .i64 (Int.tmod (wrap64 (bt a0 x5_1)) 16))) (fun _ hk=>hk.2) (.int .i64 t423)) (fun _ hk=>hk.2) (.int .i64 t426)) (fun _ h_=>h_.1))) hb);have n1_:=zMk (blk_below (g:=gb429) (o:=.cells #[.int .i64 (wrap64 (Int.tdiv (wrap64 (bt a0 x5_1)) 16)),.int .i64 (Int.tmod (wrap64 (bt a0 x5_1)) 16),.int .i64 t423,.int .i64 t426] 45 (0,0)) (by (with_reducible repeat (first | refine blk_drewN ?_ _ | refine blk_drew ?_ | refine blk_alloc ?_ _));refine blk_put (cs:=#[.int .i64 (wrap64 (Int.tdiv (wrap64 (bt a0 x5_1)) 16)),.int .i64 (Int.tmod (wrap64 (bt a0 x5_1)) 16),.int .i64 t423,.int .i64 0]) ?_ 3 _ rfl;(with_reducible repeat (first | refine blk_drewN ?_ _ | refine blk_drew ?_ | refine blk_alloc ?_ _));refine blk_put (cs:=#[.int .i64 (wrap64 (Int.tdiv (wrap64 (bt a0 x5_1)) 16)),.int .i64 (Int.tmod (wrap64 (bt a0 x5_1)) 16),.int .i64 0,.int .i64 0]) ?_ 2 _ rfl;(with_reducible repeat (first | refine blk_drewN ?_ _ | refine blk_drew ?_ | refine blk_alloc ?_ _));refine blk_put (cs:=#[.int .i64 (wrap64 (Int.tdiv (wrap64 (bt a0 x5_1)) 16)),.int .i64 0,.int .i64 0,.int .i64 0]) ?_ 1 _ rfl;(with_reducible repeat (first | refine blk_drewN ?_ _ | refine blk_drew ?_ | refine blk_alloc ?_ _));refine blk_put (cs:=#[.int .i64 0,.int .i64 0,.int .i64 0,.int .i64 0]) ?_ 0 _ rfl;(with_reducible repeat (first | refine blk_drewN ?_ _ | refine blk_drew ?_ | refine blk_alloc ?_ _));exact BK429.out) hb);have n2_:=zMk (below_step (hs1 HB GE429) hb);clear HO_4;clear BK429;clear HB;have HO_4:=n0_;have BK429:=n1_;have HB:=n2_;clear n0_ n1_ n2_;(try clear hb);(try clear hb2);(try clear hk);(try clear hi);have hcz21_0 : w20.cell? ⟨gb429,0,none⟩ = some (.int .i64 (wrap64 (Int.tdiv (wrap64 (bt a0 x5_1)) 16))):=(zCl BK429.out 0).trans rfl;have hcz21_1 : w20.cell? ⟨gb429,1,none⟩ = some (.int .i64 (Int.tmod (wrap64 (bt a0 x5_1)) 16)):=(zCl BK429.out 1).trans rfl;have hcz21_2 : w20.cell? ⟨gb429,2,none⟩ = some (.int .i64 t423):=(zCl BK429.out 2).trans rfl;have hcz21_3 : w20.cell? ⟨gb429,3,none⟩ = some (.int .i64 t426):=(zCl BK429.out 3).trans rfl;have hfz21_0:=zFr BK429.out 0;have hfz21_1:=zFr BK429.out 1;have hfz21_2:=zFr BK429.out 2;have hfz21_3:=zFr BK429.out 3) | ((with_reducible refine gate_builtin (b:=.append) (xs:=#[.tmp 56,.tmp 58]) rfl ?_);at_builtin;refine Kd.R_append k45 (w0:=w) w.heap.size rfl (.tmp 56) (.tmp 58) 24 45 (.agg #[(.int .i64 0),(.int .i64 0),(.int .i64 0),(.int .i64 0)]) 32 rfl Try.underlying24 info45 rfl (by decide) (by omega) u4 x4_1 (⟨wrap64 (Int.tdiv (wrap64 (bt a0 x5_1)) 16),Int.tmod (wrap64 (bt a0 x5_1)) 16,t423,t426⟩ : S45) [.int .i64 (wrap64 (Int.tdiv (wrap64 (bt a0 x5_1)) 16)),.int .i64 (Int.tmod (wrap64 (bt a0 x5_1)) 16),.int .i64 t423,.int .i64 t426] (fun k_=>k_ ≠ gb429) (fun _=>False) rfl rfl ?aP (fun _ hk=>hk.elim) ?aF ?aO ?aB ?aS ?aL ?_;(case aP=>exact k45_mkM _ _ _ (⟨wrap64 (Int.tdiv (wrap64 (bt a0 x5_1)) 16),Int.tmod (wrap64 (bt a0 x5_1)) 16,t423,t426⟩ : S45));(case aB=>exact (hs1 HB GE429));(case aF=>exact (fun k_ hk=>Kd.freshB (g:=gb429) (o:=.cells #[.int .i64 (wrap64 (Int.tdiv (wrap64 (bt a0 x5_1)) 16)),.int .i64 (Int.tmod (wrap64 (bt a0 x5_1)) 16),.int .i64 t423,.int .i64 t426] 45 (0,0)) (bs BK429) k_ hk));(case aO=>exact (by (with_reducible repeat (first | apply Kd.R_alloc | apply Kd.R_drewN | apply Kd.R_drew));exact Kd.R_mono HO_4.out (fun _ hk=>hk.2)));(case aS=>exact (below_size (hs1 HB GE429)));(case aL=>have:=LMc12.out;omega);intro v432 w22 ho hb hg hat;rw [← Ny431.out] at ho;have n0_:=zMk (blk_grown (g:=gb429) (o:=.cells #[.int .i64 (wrap64 (Int.tdiv (wrap64 (bt a0 x5_1)) 16)),.int .i64 (Int.tmod (wrap64 (bt a0 x5_1)) 16),.int .i64 t423,.int .i64 t426] 45 (0,0)) (bs BK429) hg (Kd.R_away HO_4.out (fun _ hk=>hk.2)));have n1_:=zMk (hb);have n2_:=zMk (ho);clear BK429;clear HB;clear HO_4;have BK429:=n0_;have HB:=n1_;have HO433:=n2_;clear n0_ n1_ n2_;clear ho hb hg hat))
         go_roundg k1;case measure=>have:=HK1.out;omega
         case rel=>exact ⟨(y431),(t427),(by first | rfl | (simp;done) | (simp [*];done)),H',⟨by have:=HK1.out;omega⟩,⟨by (with_reducible repeat (first | apply Kd.R_alloc | apply Kd.R_drewN | apply Kd.R_drew));exact Kd.R_mono HO433.out (fun _ hk=>trivial)⟩,⟨hs1 HB GE429⟩⟩
        rw [if_neg c12] at H;exact absurd H (by simp)
       replace c11:=Bool.eq_false_iff.mpr c11;subst c11;have H1 : (some (([] : List (S45)),false)) = some (r1,r2):=by rw [if_neg (show ¬ (false = true) by decide)] at H;exact H
       clear H;have H:=H1;clear H1;simp only [Option.some.injEq,Prod.mk.injEq] at H;obtain ⟨rfl,rfl⟩:=H
       try go_wp2_with (first | ((with_reducible refine gate_callee (f:=66) rfl ?_);refine goesL_ (some 21) rfl rfl Try.func66 (by kernel_rfl) rfl #[.string a0,.int .i64 (wrap64 (x5_1 + 1))] rfl (by (try simp only [List.map_toArray,List.map_cons,List.map_nil]);first | done | rfl | (simp only [List.length_drop,List.length_take];rfl)) ?_;(with_reducible refine (impl_ReadVar.calls k1 a0 (wrap64 (x5_1 + 1)) t423 t424 true _ A3.out).mono ?_);rintro e w' ⟨rfl,⟨nd,rfl⟩⟩;refine ⟨_,rfl,?_⟩;(try (rw [drewN_self wr];generalize hq_ : World.drewN wr _ = wr;have n0_ : Aside0 (Kd.R k45 45 wr w.heap.size (fun _=>True) u4 x4_1):=⟨by rw [← hq_];exact (rs HO_4)⟩;have n1_ : Aside0 (Below w.heap.size w wr):=⟨by rw [← hq_];exact (hs HB)⟩;clear HO_4 HB hq_;have HO_4:=n0_;have HB:=n1_;clear n0_ n1_))) | ((with_reducible refine gate_callee (f:=66) rfl ?_);refine goesL_ (some 28) rfl rfl Try.func66 (by kernel_rfl) rfl #[.string a0,.int .i64 t424] rfl (by (try simp only [List.map_toArray,List.map_cons,List.map_nil]);first | done | rfl | (simp only [List.length_drop,List.length_take];rfl)) ?_;(with_reducible refine (impl_ReadVar.calls k1 a0 t424 t426 t427 true _ A4.out).mono ?_);rintro e w' ⟨rfl,⟨nd,rfl⟩⟩;refine ⟨_,rfl,?_⟩;(try (rw [drewN_self wr];generalize hq_ : World.drewN wr _ = wr;have n0_ : Aside0 (Kd.R k45 45 wr w.heap.size (fun _=>True) u4 x4_1):=⟨by rw [← hq_];exact (rs HO_4)⟩;have n1_ : Aside0 (Below w.heap.size w wr):=⟨by rw [← hq_];exact (hs HB)⟩;clear HO_4 HB hq_;have HO_4:=n0_;have HB:=n1_;clear n0_ n1_))))
       have n0_:=zMk (Kd.R_drew HO_4.out);have n1_:=zMk (below_drew1 HB.out);clear HO_4;clear HB;have HO_4:=n0_;have HB:=n1_;clear n0_ n1_;have p6 : 0 ≤ (x5_1 : Int):=zDe (by first | (with_reducible assumption) | assumption);have q6 : x5_1 < (a0.size : Int):=zDe (by first | (with_reducible assumption) | assumption);have hx6:=bt_at a0 x5_1;replace p6:=eq_true p6;replace q6:=eq_true q6;have p7 : 0 ≤ (x5_1 : Int):=zDe (by first | (with_reducible assumption) | assumption);have q7 : x5_1 < (a0.size : Int):=zDe (by first | (with_reducible assumption) | assumption);have hx7:=bt_at a0 x5_1;replace p7:=eq_true p7;replace q7:=eq_true q7;refine start_ (n:=15) (S:=fun w'=>True) (ds:=[]) #[false,false,false,false,false,false,false,false,false,false,false,false,false,false,false] (by kernel_rfl) rfl rfl trivial (fun hHeld=>?_);refine with_tabW impl_ReadRecs.tab6 impl_ReadRecs.bits6 (fun HT_ HW_=>?_);generalize wr.drew = w23 at HO_4 HB hHeld ⊢;refine pure_ (i:=0) (N:=some 32) (v:=?_) (a':=?_) #[true,false,false,false,false,false,false,false,false,false,false,false,false,false,false] rfl rfl (any_of HT_.out (by kernel_rfl)) (fun _ _ _ h=>h) (Or.inl ⟨by rfl,?_⟩) ?_ ?_;rotate_left
       ·intro w';go_simp;with_reducible rfl
       rotate_left
       ·simp only [Act.put,zS1,zS2,zS3,i64_w,i32_w];rfl
       refine pure_ (i:=1) (N:=some 33) (v:=?_) (a':=?_) #[true,true,false,false,false,false,false,false,false,false,false,false,false,false,false] rfl rfl (any_of HT_.out (by kernel_rfl)) (fun _ _ _ h=>h) (Or.inl ⟨by rfl,?_⟩) ?_ ?_;rotate_left
       ·intro w';go_simp;with_reducible rfl
       rotate_left
       ·simp only [Act.put,zS1,zS2,zS3,i64_w,i32_w];rfl
       refine pure_ (i:=5) (N:=some 37) (v:=?_) (a':=?_) #[true,true,false,false,false,true,false,false,false,false,false,false,false,false,false] rfl rfl (any_of HT_.out (by kernel_rfl)) (fun _ _ _ h=>h) (Or.inl ⟨by rfl,?_⟩) ?_ ?_;rotate_left
       ·intro w';go_simp;with_reducible rfl
       rotate_left
       ·simp only [Act.put,zS1,zS2,zS3,i64_w,i32_w];rfl
       refine pure_ (i:=6) (N:=some 38) (v:=?_) (a':=?_) #[true,true,false,false,false,true,true,false,false,false,false,false,false,false,false] rfl rfl (any_of HT_.out (by kernel_rfl)) (fun _ _ _ h=>h) (Or.inl ⟨by rfl,?_⟩) ?_ ?_;rotate_left
       ·intro w';go_simp;with_reducible rfl
       rotate_left
       ·simp only [Act.put,zS1,zS2,zS3,i64_w,i32_w];rfl
       refine pure_ (i:=10) (N:=some 42) (v:=?_) (a':=?_) #[true,true,false,false,false,true,true,false,false,false,true,false,false,false,false] rfl rfl (any_of HT_.out (by kernel_rfl)) (fun _ _ _ h=>h) (Or.inl ⟨by rfl,?_⟩) ?_ ?_;rotate_left
       ·intro w';go_simp;with_reducible rfl
       rotate_left
       ·simp only [Act.put,zS1,zS2,zS3,i64_w,i32_w];rfl
       refine pure_ (i:=11) (N:=some 43) (v:=?_) (a':=?_) #[true,true,false,false,false,true,true,false,false,false,true,true,false,false,false] rfl rfl (any_of HT_.out (by kernel_rfl)) (fun _ _ _ h=>h) (Or.inl ⟨by rfl,?_⟩) ?_ ?_;rotate_left
       ·intro w';go_simp;with_reducible rfl
       rotate_left
       ·simp only [Act.put,zS1,zS2,zS3,i64_w,i32_w];rfl
       refine take_ (i:=2) (N:=some 34) (v:=?_) (a':=?_) #[true,true,true,false,false,true,true,false,false,false,true,true,false,false,false] rfl rfl (take_ofW HT_.out HW_.out (by kernel_rfl)) (fun _ _ _ h=>h) (Or.inl ⟨by rfl,?_⟩) hHeld ?_ ?_;rotate_left
       ·intro w' _;go_simp;with_reducible rfl
       rotate_left
       ·simp only [Act.put,zS1,zS2,zS3,i64_w,i32_w];rfl
       refine pure_ (i:=3) (N:=some 35) (v:=?_) (a':=?_) #[true,true,true,true,false,true,true,false,false,false,true,true,false,false,false] rfl rfl (any_of HT_.out (by kernel_rfl)) (fun _ _ _ h=>h) (Or.inl ⟨by rfl,?_⟩) ?_ ?_;rotate_left
       ·intro w';go_simp;with_reducible rfl
       rotate_left
       ·simp only [Act.put,zS1,zS2,zS3,i64_w,i32_w];rfl
       refine pure_ (i:=4) (N:=some 36) (v:=?_) (a':=?_) #[true,true,true,true,true,true,true,false,false,false,true,true,false,false,false] rfl rfl (any_of HT_.out (by kernel_rfl)) (fun _ _ _ h=>h) (Or.inl ⟨by rfl,?_⟩) ?_ ?_;rotate_left
       ·intro w';go_simp;with_reducible rfl
       rotate_left
       ·simp only [Act.put,zS1,zS2,zS3,i64_w,i32_w];rfl
       refine take_ (i:=7) (N:=some 39) (v:=?_) (a':=?_) #[true,true,true,true,true,true,true,true,false,false,true,true,false,false,false] rfl rfl (take_ofW HT_.out HW_.out (by kernel_rfl)) (fun _ _ _ h=>h) (Or.inl ⟨by rfl,?_⟩) hHeld ?_ ?_;rotate_left
       ·intro w' _;go_simp;with_reducible rfl
       rotate_left
       ·simp only [Act.put,zS1,zS2,zS3,i64_w,i32_w];rfl
       refine pure_ (i:=8) (N:=some 40) (v:=?_) (a':=?_) #[true,true,true,true,true,true,true,true,true,false,true,true,false,false,false] rfl rfl (any_of HT_.out (by kernel_rfl)) (fun _ _ _ h=>h) (Or.inl ⟨by rfl,?_⟩) ?_ ?_;rotate_left
       ·intro w';go_simp;with_reducible rfl
       rotate_left
       ·simp only [Act.put,zS1,zS2,zS3,i64_w,i32_w];rfl
       refine pure_ (i:=9) (N:=some 41) (v:=?_) (a':=?_) #[true,true,true,true,true,true,true,true,true,true,true,true,false,false,false] rfl rfl (any_of HT_.out (by kernel_rfl)) (fun _ _ _ h=>h) (Or.inl ⟨by rfl,?_⟩) ?_ ?_;rotate_left
       ·intro w';go_simp;with_reducible rfl
       rotate_left
       ·simp only [Act.put,zS1,zS2,zS3,i64_w,i32_w];rfl
       refine pure_ (i:=12) (N:=some 44) (v:=?_) (a':=?_) #[true,true,true,true,true,true,true,true,true,true,true,true,true,false,false] rfl rfl (any_of HT_.out (by kernel_rfl)) (fun _ _ _ h=>h) (Or.inl ⟨by rfl,?_⟩) ?_ ?_;rotate_left
       ·intro w';go_simp;with_reducible rfl
       rotate_left
       ·simp only [Act.put,zS1,zS2,zS3,i64_w,i32_w];rfl
       refine one_ (i:=13) (N:=some 12) #[true,true,true,true,true,true,true,true,true,true,true,true,true,true,false] rfl rfl (one_of HT_.out (by kernel_rfl)) (by decide) (fun K hK=>?_);refine box_step ?hg (N:=12) ?hd (cs:=#[.int .i64 0,.int .i64 0,.int .i64 0,.int .i64 0]) (t:=45) ?hr ?_;(case hd=>rfl);(case hg=>rfl);(case hr=>first | (go_simp;done) | (go_simp;rfl));intro gb429 hg w24 hbox hb;have n0_:=zMk (Kd.R_below (Kd.R_elderB (rs HO_4) gb429 (Nat.le_of_eq hg.symm)) hb);have n1_:=zMk (below_step (hs HB) hb);have n2_:=zMk (hbox);have n3_:=zMk ((by rw [hg];exact (below_size (hs HB)) : w.heap.size ≤ gb429));have n4_:=zMk ((by rw [hg];exact (below_size (hs HB)) : w.heap.size ≤ gb429));clear HO_4;clear HB;have HO_4:=n0_;have HB:=n1_;have BK429:=n2_;have GW429:=n3_;have GE429:=n4_;clear n0_ n1_ n2_ n3_ n4_;clear hb hbox hg;refine hK.out _ _ trivial (fun hHeld=>?_);clear hK K;refine norm_ (a':=?_) ?_ ?_;rotate_left
       ·show Act.put _ (some 12) _ = _;simp only [Act.put,zS1,zS2,zS3,i64_w,i32_w];rfl
       refine one_ (i:=14) (N:=none) #[true,true,true,true,true,true,true,true,true,true,true,true,true,true,true] rfl rfl (one_of HT_.out (by kernel_rfl)) (by decide) (fun K hK=>?_);have hs25 : w24.cell? ⟨gb429,0,none⟩ = some (.int .i64 0):=(zCl BK429.out 0).trans rfl;have hfs25:=zFr BK429.out 0;have hs26 : w24.cell? ⟨gb429,1,none⟩ = some (.int .i64 0):=(zCl BK429.out 1).trans rfl;have hfs26:=zFr BK429.out 1;have hs27 : w24.cell? ⟨gb429,2,none⟩ = some (.int .i64 0):=(zCl BK429.out 2).trans rfl;have hfs27:=zFr BK429.out 2;have hs28 : w24.cell? ⟨gb429,3,none⟩ = some (.int .i64 0):=(zCl BK429.out 3).trans rfl;have hfs28:=zFr BK429.out 3;refine skip_ (w1:=?_) (by rfl) rfl ?_ ?_;rotate_left
       ·go_simp;rfl
       refine hK.out _ _ trivial (fun hHeld=>?_);clear hK K;refine done_ (done_of HT_.out (by kernel_rfl)) ?_;have hcz29_0 : w24.cell? ⟨gb429,0,none⟩ = some (.int .i64 0):=(zCl BK429.out 0).trans rfl;have hcz29_1 : w24.cell? ⟨gb429,1,none⟩ = some (.int .i64 0):=(zCl BK429.out 1).trans rfl;have hcz29_2 : w24.cell? ⟨gb429,2,none⟩ = some (.int .i64 0):=(zCl BK429.out 2).trans rfl;have hcz29_3 : w24.cell? ⟨gb429,3,none⟩ = some (.int .i64 0):=(zCl BK429.out 3).trans rfl;have hfz29_0:=zFr BK429.out 0;have hfz29_1:=zFr BK429.out 1;have hfz29_2:=zFr BK429.out 2;have hfz29_3:=zFr BK429.out 3
       try go_wp2_with (first | (go_at_call 49;(with_reducible refine (impl_RecOk.calls k1 (wrap64 (Int.tdiv (wrap64 (bt a0 x5_1)) 16)) (Int.tmod (wrap64 (bt a0 x5_1)) 16) t423 t426 false _ A10.out).mono ?_);rintro e w30 ⟨rfl,hb⟩;have n0_:=zMk (Kd.R_below (by (with_reducible repeat (first | apply Kd.R_alloc | apply Kd.R_drewN | apply Kd.R_drew));exact (Kd.R_mono (Kd.R_far (p:=⟨gb429,3,none⟩) (Kd.R_far (p:=⟨gb429,2,none⟩) (Kd.R_far (p:=⟨gb429,1,none⟩) (Kd.R_far (p:=⟨gb429,0,none⟩) (Kd.R_mono HO_4.out (fun k_ hk=>(⟨hk,hk.2⟩ : _ ∧ k_ ≠ gb429))) (fun _ hk=>hk.2) (.int .i64 (wrap64 (Int.tdiv (wrap64 (bt a0 x5_1)) 16)))) (fun _ hk=>hk.2) (.int .i64 (Int.tmod (wrap64 (bt a0 x5_1)) 16))) (fun _ hk=>hk.2) (.int .i64 t423)) (fun _ hk=>hk.2) (.int .i64 t426)) (fun _ h_=>h_.1))) hb);have n1_:=zMk (blk_below (g:=gb429) (o:=.cells #[.int .i64 (wrap64 (Int.tdiv (wrap64 (bt a0 x5_1)) 16)),.int .i64 (Int.tmod (wrap64 (bt a0 x5_1)) 16),.int .i64 t423,.int .i64 t426] 45 (0,0)) (by (with_reducible repeat (first | refine blk_drewN ?_ _ | refine blk_drew ?_ | refine blk_alloc ?_ _));refine blk_put (cs:=#[.int .i64 (wrap64 (Int.tdiv (wrap64 (bt a0 x5_1)) 16)),.int .i64 (Int.tmod (wrap64 (bt a0 x5_1)) 16),.int .i64 t423,.int .i64 0]) ?_ 3 _ rfl;(with_reducible repeat (first | refine blk_drewN ?_ _ | refine blk_drew ?_ | refine blk_alloc ?_ _));refine blk_put (cs:=#[.int .i64 (wrap64 (Int.tdiv (wrap64 (bt a0 x5_1)) 16)),.int .i64 (Int.tmod (wrap64 (bt a0 x5_1)) 16),.int .i64 0,.int .i64 0]) ?_ 2 _ rfl;(with_reducible repeat (first | refine blk_drewN ?_ _ | refine blk_drew ?_ | refine blk_alloc ?_ _));refine blk_put (cs:=#[.int .i64 (wrap64 (Int.tdiv (wrap64 (bt a0 x5_1)) 16)),.int .i64 0,.int .i64 0,.int .i64 0]) ?_ 1 _ rfl;(with_reducible repeat (first | refine blk_drewN ?_ _ | refine blk_drew ?_ | refine blk_alloc ?_ _));refine blk_put (cs:=#[.int .i64 0,.int .i64 0,.int .i64 0,.int .i64 0]) ?_ 0 _ rfl;(with_reducible repeat (first | refine blk_drewN ?_ _ | refine blk_drew ?_ | refine blk_alloc ?_ _));exact BK429.out) hb);have n2_:=zMk (below_step (hs1 HB GE429) hb);clear HO_4;clear BK429;clear HB;have HO_4:=n0_;have BK429:=n1_;have HB:=n2_;clear n0_ n1_ n2_;(try clear hb);(try clear hb2);(try clear hk);(try clear hi)))
       go_ret2
       exact ⟨_,by first | rfl | (simp [errW_none,errW_some] <;> rfl) | (simp [*,errW_none,errW_some] <;> rfl),by first | exact Kd.R_nil _ _ _ _ _ | exact Kd.N_nil _ _ _ _ _ | exact Kd.V_nil _ _ _ _ _ | exact Kd.Q_nil _ _ _ _ _ | exact Kd.S_nil _ _ _ _ _,hs1 HB GE429⟩
      replace c9:=Bool.eq_false_iff.mpr c9;subst c9;have H1 : (some (([] : List (S45)),false)) = some (r1,r2):=by rw [if_neg (show ¬ (false = true) by decide)] at H;exact H
      clear H;have H:=H1;clear H1;simp only [Option.some.injEq,Prod.mk.injEq] at H;obtain ⟨rfl,rfl⟩:=H
      try go_wp2_with (first | ((with_reducible refine gate_callee (f:=66) rfl ?_);refine goesL_ (some 21) rfl rfl Try.func66 (by kernel_rfl) rfl #[.string a0,.int .i64 (wrap64 (x5_1 + 1))] rfl (by (try simp only [List.map_toArray,List.map_cons,List.map_nil]);first | done | rfl | (simp only [List.length_drop,List.length_take];rfl)) ?_;(with_reducible refine (impl_ReadVar.calls k1 a0 (wrap64 (x5_1 + 1)) t423 t424 true _ A3.out).mono ?_);rintro e w' ⟨rfl,⟨nd,rfl⟩⟩;refine ⟨_,rfl,?_⟩;(try (rw [drewN_self wr];generalize hq_ : World.drewN wr _ = wr;have n0_ : Aside0 (Kd.R k45 45 wr w.heap.size (fun _=>True) u4 x4_1):=⟨by rw [← hq_];exact (rs HO_4)⟩;have n1_ : Aside0 (Below w.heap.size w wr):=⟨by rw [← hq_];exact (hs HB)⟩;clear HO_4 HB hq_;have HO_4:=n0_;have HB:=n1_;clear n0_ n1_))) | ((with_reducible refine gate_callee (f:=66) rfl ?_);refine goesL_ (some 28) rfl rfl Try.func66 (by kernel_rfl) rfl #[.string a0,.int .i64 t424] rfl (by (try simp only [List.map_toArray,List.map_cons,List.map_nil]);first | done | rfl | (simp only [List.length_drop,List.length_take];rfl)) ?_;(with_reducible refine (impl_ReadVar.calls k1 a0 t424 t426 t427 false _ A4.out).mono ?_);rintro e w' ⟨rfl,⟨nd,rfl⟩⟩;refine ⟨_,rfl,?_⟩;(try (rw [drewN_self wr];generalize hq_ : World.drewN wr _ = wr;have n0_ : Aside0 (Kd.R k45 45 wr w.heap.size (fun _=>True) u4 x4_1):=⟨by rw [← hq_];exact (rs HO_4)⟩;have n1_ : Aside0 (Below w.heap.size w wr):=⟨by rw [← hq_];exact (hs HB)⟩;clear HO_4 HB hq_;have HO_4:=n0_;have HB:=n1_;clear n0_ n1_))))
      have n0_:=zMk (Kd.R_drew HO_4.out);have n1_:=zMk (below_drew1 HB.out);clear HO_4;clear HB;have HO_4:=n0_;have HB:=n1_;clear n0_ n1_;have p6 : 0 ≤ (x5_1 : Int):=zDe (by first | (with_reducible assumption) | assumption);have q6 : x5_1 < (a0.size : Int):=zDe (by first | (with_reducible assumption) | assumption);have hx6:=bt_at a0 x5_1;replace p6:=eq_true p6;replace q6:=eq_true q6;have p7 : 0 ≤ (x5_1 : Int):=zDe (by first | (with_reducible assumption) | assumption);have q7 : x5_1 < (a0.size : Int):=zDe (by first | (with_reducible assumption) | assumption);have hx7:=bt_at a0 x5_1;replace p7:=eq_true p7;replace q7:=eq_true q7;refine start_ (n:=15) (S:=fun w'=>True) (ds:=[]) #[false,false,false,false,false,false,false,false,false,false,false,false,false,false,false] (by kernel_rfl) rfl rfl trivial (fun hHeld=>?_);refine with_tabW impl_ReadRecs.tab6 impl_ReadRecs.bits6 (fun HT_ HW_=>?_);generalize wr.drew = w31 at HO_4 HB hHeld ⊢;refine pure_ (i:=0) (N:=some 32) (v:=?_) (a':=?_) #[true,false,false,false,false,false,false,false,false,false,false,false,false,false,false] rfl rfl (any_of HT_.out (by kernel_rfl)) (fun _ _ _ h=>h) (Or.inl ⟨by rfl,?_⟩) ?_ ?_;rotate_left
      ·intro w';go_simp;with_reducible rfl
      rotate_left
      ·simp only [Act.put,zS1,zS2,zS3,i64_w,i32_w];rfl
      refine pure_ (i:=1) (N:=some 33) (v:=?_) (a':=?_) #[true,true,false,false,false,false,false,false,false,false,false,false,false,false,false] rfl rfl (any_of HT_.out (by kernel_rfl)) (fun _ _ _ h=>h) (Or.inl ⟨by rfl,?_⟩) ?_ ?_;rotate_left
      ·intro w';go_simp;with_reducible rfl
      rotate_left
      ·simp only [Act.put,zS1,zS2,zS3,i64_w,i32_w];rfl
      refine pure_ (i:=5) (N:=some 37) (v:=?_) (a':=?_) #[true,true,false,false,false,true,false,false,false,false,false,false,false,false,false] rfl rfl (any_of HT_.out (by kernel_rfl)) (fun _ _ _ h=>h) (Or.inl ⟨by rfl,?_⟩) ?_ ?_;rotate_left
      ·intro w';go_simp;with_reducible rfl
      rotate_left
      ·simp only [Act.put,zS1,zS2,zS3,i64_w,i32_w];rfl
      refine pure_ (i:=6) (N:=some 38) (v:=?_) (a':=?_) #[true,true,false,false,false,true,true,false,false,false,false,false,false,false,false] rfl rfl (any_of HT_.out (by kernel_rfl)) (fun _ _ _ h=>h) (Or.inl ⟨by rfl,?_⟩) ?_ ?_;rotate_left
      ·intro w';go_simp;with_reducible rfl
      rotate_left
      ·simp only [Act.put,zS1,zS2,zS3,i64_w,i32_w];rfl
      refine pure_ (i:=10) (N:=some 42) (v:=?_) (a':=?_) #[true,true,false,false,false,true,true,false,false,false,true,false,false,false,false] rfl rfl (any_of HT_.out (by kernel_rfl)) (fun _ _ _ h=>h) (Or.inl ⟨by rfl,?_⟩) ?_ ?_;rotate_left
      ·intro w';go_simp;with_reducible rfl
      rotate_left
      ·simp only [Act.put,zS1,zS2,zS3,i64_w,i32_w];rfl
      refine pure_ (i:=11) (N:=some 43) (v:=?_) (a':=?_) #[true,true,false,false,false,true,true,false,false,false,true,true,false,false,false] rfl rfl (any_of HT_.out (by kernel_rfl)) (fun _ _ _ h=>h) (Or.inl ⟨by rfl,?_⟩) ?_ ?_;rotate_left
      ·intro w';go_simp;with_reducible rfl
      rotate_left
      ·simp only [Act.put,zS1,zS2,zS3,i64_w,i32_w];rfl
      refine take_ (i:=2) (N:=some 34) (v:=?_) (a':=?_) #[true,true,true,false,false,true,true,false,false,false,true,true,false,false,false] rfl rfl (take_ofW HT_.out HW_.out (by kernel_rfl)) (fun _ _ _ h=>h) (Or.inl ⟨by rfl,?_⟩) hHeld ?_ ?_;rotate_left
      ·intro w' _;go_simp;with_reducible rfl
      rotate_left
      ·simp only [Act.put,zS1,zS2,zS3,i64_w,i32_w];rfl
      refine pure_ (i:=3) (N:=some 35) (v:=?_) (a':=?_) #[true,true,true,true,false,true,true,false,false,false,true,true,false,false,false] rfl rfl (any_of HT_.out (by kernel_rfl)) (fun _ _ _ h=>h) (Or.inl ⟨by rfl,?_⟩) ?_ ?_;rotate_left
      ·intro w';go_simp;with_reducible rfl
      rotate_left
      ·simp only [Act.put,zS1,zS2,zS3,i64_w,i32_w];rfl
      refine pure_ (i:=4) (N:=some 36) (v:=?_) (a':=?_) #[true,true,true,true,true,true,true,false,false,false,true,true,false,false,false] rfl rfl (any_of HT_.out (by kernel_rfl)) (fun _ _ _ h=>h) (Or.inl ⟨by rfl,?_⟩) ?_ ?_;rotate_left
      ·intro w';go_simp;with_reducible rfl
      rotate_left
      ·simp only [Act.put,zS1,zS2,zS3,i64_w,i32_w];rfl
      refine take_ (i:=7) (N:=some 39) (v:=?_) (a':=?_) #[true,true,true,true,true,true,true,true,false,false,true,true,false,false,false] rfl rfl (take_ofW HT_.out HW_.out (by kernel_rfl)) (fun _ _ _ h=>h) (Or.inl ⟨by rfl,?_⟩) hHeld ?_ ?_;rotate_left
      ·intro w' _;go_simp;with_reducible rfl
      rotate_left
      ·simp only [Act.put,zS1,zS2,zS3,i64_w,i32_w];rfl
      refine pure_ (i:=8) (N:=some 40) (v:=?_) (a':=?_) #[true,true,true,true,true,true,true,true,true,false,true,true,false,false,false] rfl rfl (any_of HT_.out (by kernel_rfl)) (fun _ _ _ h=>h) (Or.inl ⟨by rfl,?_⟩) ?_ ?_;rotate_left
      ·intro w';go_simp;with_reducible rfl
      rotate_left
      ·simp only [Act.put,zS1,zS2,zS3,i64_w,i32_w];rfl
      refine pure_ (i:=9) (N:=some 41) (v:=?_) (a':=?_) #[true,true,true,true,true,true,true,true,true,true,true,true,false,false,false] rfl rfl (any_of HT_.out (by kernel_rfl)) (fun _ _ _ h=>h) (Or.inl ⟨by rfl,?_⟩) ?_ ?_;rotate_left
      ·intro w';go_simp;with_reducible rfl
      rotate_left
      ·simp only [Act.put,zS1,zS2,zS3,i64_w,i32_w];rfl
      refine pure_ (i:=12) (N:=some 44) (v:=?_) (a':=?_) #[true,true,true,true,true,true,true,true,true,true,true,true,true,false,false] rfl rfl (any_of HT_.out (by kernel_rfl)) (fun _ _ _ h=>h) (Or.inl ⟨by rfl,?_⟩) ?_ ?_;rotate_left
      ·intro w';go_simp;with_reducible rfl
      rotate_left
      ·simp only [Act.put,zS1,zS2,zS3,i64_w,i32_w];rfl
      refine one_ (i:=13) (N:=some 12) #[true,true,true,true,true,true,true,true,true,true,true,true,true,true,false] rfl rfl (one_of HT_.out (by kernel_rfl)) (by decide) (fun K hK=>?_);refine box_step ?hg (N:=12) ?hd (cs:=#[.int .i64 0,.int .i64 0,.int .i64 0,.int .i64 0]) (t:=45) ?hr ?_;(case hd=>rfl);(case hg=>rfl);(case hr=>first | (go_simp;done) | (go_simp;rfl));intro gb429 hg w32 hbox hb;have n0_:=zMk (Kd.R_below (Kd.R_elderB (rs HO_4) gb429 (Nat.le_of_eq hg.symm)) hb);have n1_:=zMk (below_step (hs HB) hb);have n2_:=zMk (hbox);have n3_:=zMk ((by rw [hg];exact (below_size (hs HB)) : w.heap.size ≤ gb429));have n4_:=zMk ((by rw [hg];exact (below_size (hs HB)) : w.heap.size ≤ gb429));clear HO_4;clear HB;have HO_4:=n0_;have HB:=n1_;have BK429:=n2_;have GW429:=n3_;have GE429:=n4_;clear n0_ n1_ n2_ n3_ n4_;clear hb hbox hg;refine hK.out _ _ trivial (fun hHeld=>?_);clear hK K;refine norm_ (a':=?_) ?_ ?_;rotate_left
      ·show Act.put _ (some 12) _ = _;simp only [Act.put,zS1,zS2,zS3,i64_w,i32_w];rfl
      refine one_ (i:=14) (N:=none) #[true,true,true,true,true,true,true,true,true,true,true,true,true,true,true] rfl rfl (one_of HT_.out (by kernel_rfl)) (by decide) (fun K hK=>?_);have hs33 : w32.cell? ⟨gb429,0,none⟩ = some (.int .i64 0):=(zCl BK429.out 0).trans rfl;have hfs33:=zFr BK429.out 0;have hs34 : w32.cell? ⟨gb429,1,none⟩ = some (.int .i64 0):=(zCl BK429.out 1).trans rfl;have hfs34:=zFr BK429.out 1;have hs35 : w32.cell? ⟨gb429,2,none⟩ = some (.int .i64 0):=(zCl BK429.out 2).trans rfl;have hfs35:=zFr BK429.out 2;have hs36 : w32.cell? ⟨gb429,3,none⟩ = some (.int .i64 0):=(zCl BK429.out 3).trans rfl;have hfs36:=zFr BK429.out 3;refine skip_ (w1:=?_) (by rfl) rfl ?_ ?_;rotate_left
      ·go_simp;rfl
      refine hK.out _ _ trivial (fun hHeld=>?_);clear hK K;refine done_ (done_of HT_.out (by kernel_rfl)) ?_
      try go_wp2
      go_ret2
      exact ⟨_,by first | rfl | (simp [errW_none,errW_some] <;> rfl) | (simp [*,errW_none,errW_some] <;> rfl),by first | exact Kd.R_nil _ _ _ _ _ | exact Kd.N_nil _ _ _ _ _ | exact Kd.V_nil _ _ _ _ _ | exact Kd.Q_nil _ _ _ _ _ | exact Kd.S_nil _ _ _ _ _,hs1 HB GE429⟩
     replace c8:=Bool.eq_false_iff.mpr c8;subst c8;have H1 : (some (([] : List (S45)),false)) = some (r1,r2):=by rw [if_neg (show ¬ (false = true) by decide)] at H;exact H
     clear H;have H:=H1;clear H1;simp only [Option.some.injEq,Prod.mk.injEq] at H;obtain ⟨rfl,rfl⟩:=H
     try go_wp2_with (first | ((with_reducible refine gate_callee (f:=66) rfl ?_);refine goesL_ (some 21) rfl rfl Try.func66 (by kernel_rfl) rfl #[.string a0,.int .i64 (wrap64 (x5_1 + 1))] rfl (by (try simp only [List.map_toArray,List.map_cons,List.map_nil]);first | done | rfl | (simp only [List.length_drop,List.length_take];rfl)) ?_;(with_reducible refine (impl_ReadVar.calls k1 a0 (wrap64 (x5_1 + 1)) t423 t424 false _ A3.out).mono ?_);rintro e w' ⟨rfl,⟨nd,rfl⟩⟩;refine ⟨_,rfl,?_⟩;(try (rw [drewN_self wr];generalize hq_ : World.drewN wr _ = wr;have n0_ : Aside0 (Kd.R k45 45 wr w.heap.size (fun _=>True) u4 x4_1):=⟨by rw [← hq_];exact (rs HO_4)⟩;have n1_ : Aside0 (Below w.heap.size w wr):=⟨by rw [← hq_];exact (hs HB)⟩;clear HO_4 HB hq_;have HO_4:=n0_;have HB:=n1_;clear n0_ n1_))) | ((with_reducible refine gate_callee (f:=66) rfl ?_);refine goesL_ (some 28) rfl rfl Try.func66 (by kernel_rfl) rfl #[.string a0,.int .i64 t424] rfl (by (try simp only [List.map_toArray,List.map_cons,List.map_nil]);first | done | rfl | (simp only [List.length_drop,List.length_take];rfl)) ?_;(with_reducible refine (impl_ReadVar.calls k1 a0 t424 t426 t427 t428 _ A4.out).mono ?_);rintro e w' ⟨rfl,⟨nd,rfl⟩⟩;refine ⟨_,rfl,?_⟩;(try (rw [drewN_self wr];generalize hq_ : World.drewN wr _ = wr;have n0_ : Aside0 (Kd.R k45 45 wr w.heap.size (fun _=>True) u4 x4_1):=⟨by rw [← hq_];exact (rs HO_4)⟩;have n1_ : Aside0 (Below w.heap.size w wr):=⟨by rw [← hq_];exact (hs HB)⟩;clear HO_4 HB hq_;have HO_4:=n0_;have HB:=n1_;clear n0_ n1_))))
     have n0_:=zMk (Kd.R_drew HO_4.out);have n1_:=zMk (below_drew1 HB.out);clear HO_4;clear HB;have HO_4:=n0_;have HB:=n1_;clear n0_ n1_;have p6 : 0 ≤ (x5_1 : Int):=zDe (by first | (with_reducible assumption) | assumption);have q6 : x5_1 < (a0.size : Int):=zDe (by first | (with_reducible assumption) | assumption);have hx6:=bt_at a0 x5_1;replace p6:=eq_true p6;replace q6:=eq_true q6;have p7 : 0 ≤ (x5_1 : Int):=zDe (by first | (with_reducible assumption) | assumption);have q7 : x5_1 < (a0.size : Int):=zDe (by first | (with_reducible assumption) | assumption);have hx7:=bt_at a0 x5_1;replace p7:=eq_true p7;replace q7:=eq_true q7;refine start_ (n:=15) (S:=fun w'=>True) (ds:=[]) #[false,false,false,false,false,false,false,false,false,false,false,false,false,false,false] (by kernel_rfl) rfl rfl trivial (fun hHeld=>?_);refine with_tabW impl_ReadRecs.tab6 impl_ReadRecs.bits6 (fun HT_ HW_=>?_);generalize wr.drew = w37 at HO_4 HB hHeld ⊢;refine pure_ (i:=0) (N:=some 32) (v:=?_) (a':=?_) #[true,false,false,false,false,false,false,false,false,false,false,false,false,false,false] rfl rfl (any_of HT_.out (by kernel_rfl)) (fun _ _ _ h=>h) (Or.inl ⟨by rfl,?_⟩) ?_ ?_;rotate_left
     ·intro w';go_simp;with_reducible rfl
     rotate_left
     ·simp only [Act.put,zS1,zS2,zS3,i64_w,i32_w];rfl
     refine pure_ (i:=1) (N:=some 33) (v:=?_) (a':=?_) #[true,true,false,false,false,false,false,false,false,false,false,false,false,false,false] rfl rfl (any_of HT_.out (by kernel_rfl)) (fun _ _ _ h=>h) (Or.inl ⟨by rfl,?_⟩) ?_ ?_;rotate_left
     ·intro w';go_simp;with_reducible rfl
     rotate_left
     ·simp only [Act.put,zS1,zS2,zS3,i64_w,i32_w];rfl
     refine pure_ (i:=5) (N:=some 37) (v:=?_) (a':=?_) #[true,true,false,false,false,true,false,false,false,false,false,false,false,false,false] rfl rfl (any_of HT_.out (by kernel_rfl)) (fun _ _ _ h=>h) (Or.inl ⟨by rfl,?_⟩) ?_ ?_;rotate_left
     ·intro w';go_simp;with_reducible rfl
     rotate_left
     ·simp only [Act.put,zS1,zS2,zS3,i64_w,i32_w];rfl
     refine pure_ (i:=6) (N:=some 38) (v:=?_) (a':=?_) #[true,true,false,false,false,true,true,false,false,false,false,false,false,false,false] rfl rfl (any_of HT_.out (by kernel_rfl)) (fun _ _ _ h=>h) (Or.inl ⟨by rfl,?_⟩) ?_ ?_;rotate_left
     ·intro w';go_simp;with_reducible rfl
     rotate_left
     ·simp only [Act.put,zS1,zS2,zS3,i64_w,i32_w];rfl
     refine pure_ (i:=10) (N:=some 42) (v:=?_) (a':=?_) #[true,true,false,false,false,true,true,false,false,false,true,false,false,false,false] rfl rfl (any_of HT_.out (by kernel_rfl)) (fun _ _ _ h=>h) (Or.inl ⟨by rfl,?_⟩) ?_ ?_;rotate_left
     ·intro w';go_simp;with_reducible rfl
     rotate_left
     ·simp only [Act.put,zS1,zS2,zS3,i64_w,i32_w];rfl
     refine pure_ (i:=11) (N:=some 43) (v:=?_) (a':=?_) #[true,true,false,false,false,true,true,false,false,false,true,true,false,false,false] rfl rfl (any_of HT_.out (by kernel_rfl)) (fun _ _ _ h=>h) (Or.inl ⟨by rfl,?_⟩) ?_ ?_;rotate_left
     ·intro w';go_simp;with_reducible rfl
     rotate_left
     ·simp only [Act.put,zS1,zS2,zS3,i64_w,i32_w];rfl
     refine take_ (i:=2) (N:=some 34) (v:=?_) (a':=?_) #[true,true,true,false,false,true,true,false,false,false,true,true,false,false,false] rfl rfl (take_ofW HT_.out HW_.out (by kernel_rfl)) (fun _ _ _ h=>h) (Or.inl ⟨by rfl,?_⟩) hHeld ?_ ?_;rotate_left
     ·intro w' _;go_simp;with_reducible rfl
     rotate_left
     ·simp only [Act.put,zS1,zS2,zS3,i64_w,i32_w];rfl
     refine pure_ (i:=3) (N:=some 35) (v:=?_) (a':=?_) #[true,true,true,true,false,true,true,false,false,false,true,true,false,false,false] rfl rfl (any_of HT_.out (by kernel_rfl)) (fun _ _ _ h=>h) (Or.inl ⟨by rfl,?_⟩) ?_ ?_;rotate_left
     ·intro w';go_simp;with_reducible rfl
     rotate_left
     ·simp only [Act.put,zS1,zS2,zS3,i64_w,i32_w];rfl
     refine pure_ (i:=4) (N:=some 36) (v:=?_) (a':=?_) #[true,true,true,true,true,true,true,false,false,false,true,true,false,false,false] rfl rfl (any_of HT_.out (by kernel_rfl)) (fun _ _ _ h=>h) (Or.inl ⟨by rfl,?_⟩) ?_ ?_;rotate_left
     ·intro w';go_simp;with_reducible rfl
     rotate_left
     ·simp only [Act.put,zS1,zS2,zS3,i64_w,i32_w];rfl
     refine take_ (i:=7) (N:=some 39) (v:=?_) (a':=?_) #[true,true,true,true,true,true,true,true,false,false,true,true,false,false,false] rfl rfl (take_ofW HT_.out HW_.out (by kernel_rfl)) (fun _ _ _ h=>h) (Or.inl ⟨by rfl,?_⟩) hHeld ?_ ?_;rotate_left
     ·intro w' _;go_simp;with_reducible rfl
     rotate_left
     ·simp only [Act.put,zS1,zS2,zS3,i64_w,i32_w];rfl
     refine pure_ (i:=8) (N:=some 40) (v:=?_) (a':=?_) #[true,true,true,true,true,true,true,true,true,false,true,true,false,false,false] rfl rfl (any_of HT_.out (by kernel_rfl)) (fun _ _ _ h=>h) (Or.inl ⟨by rfl,?_⟩) ?_ ?_;rotate_left
     ·intro w';go_simp;with_reducible rfl
     rotate_left
     ·simp only [Act.put,zS1,zS2,zS3,i64_w,i32_w];rfl
     refine pure_ (i:=9) (N:=some 41) (v:=?_) (a':=?_) #[true,true,true,true,true,true,true,true,true,true,true,true,false,false,false] rfl rfl (any_of HT_.out (by kernel_rfl)) (fun _ _ _ h=>h) (Or.inl ⟨by rfl,?_⟩) ?_ ?_;rotate_left
     ·intro w';go_simp;with_reducible rfl
     rotate_left
     ·simp only [Act.put,zS1,zS2,zS3,i64_w,i32_w];rfl
     refine pure_ (i:=12) (N:=some 44) (v:=?_) (a':=?_) #[true,true,true,true,true,true,true,true,true,true,true,true,true,false,false] rfl rfl (any_of HT_.out (by kernel_rfl)) (fun _ _ _ h=>h) (Or.inl ⟨by rfl,?_⟩) ?_ ?_;rotate_left
     ·intro w';go_simp;with_reducible rfl
     rotate_left
     ·simp only [Act.put,zS1,zS2,zS3,i64_w,i32_w];rfl
     refine one_ (i:=13) (N:=some 12) #[true,true,true,true,true,true,true,true,true,true,true,true,true,true,false] rfl rfl (one_of HT_.out (by kernel_rfl)) (by decide) (fun K hK=>?_);refine box_step ?hg (N:=12) ?hd (cs:=#[.int .i64 0,.int .i64 0,.int .i64 0,.int .i64 0]) (t:=45) ?hr ?_;(case hd=>rfl);(case hg=>rfl);(case hr=>first | (go_simp;done) | (go_simp;rfl));intro gb429 hg w38 hbox hb;have n0_:=zMk (Kd.R_below (Kd.R_elderB (rs HO_4) gb429 (Nat.le_of_eq hg.symm)) hb);have n1_:=zMk (below_step (hs HB) hb);have n2_:=zMk (hbox);have n3_:=zMk ((by rw [hg];exact (below_size (hs HB)) : w.heap.size ≤ gb429));have n4_:=zMk ((by rw [hg];exact (below_size (hs HB)) : w.heap.size ≤ gb429));clear HO_4;clear HB;have HO_4:=n0_;have HB:=n1_;have BK429:=n2_;have GW429:=n3_;have GE429:=n4_;clear n0_ n1_ n2_ n3_ n4_;clear hb hbox hg;refine hK.out _ _ trivial (fun hHeld=>?_);clear hK K;refine norm_ (a':=?_) ?_ ?_;rotate_left
     ·show Act.put _ (some 12) _ = _;simp only [Act.put,zS1,zS2,zS3,i64_w,i32_w];rfl
     refine one_ (i:=14) (N:=none) #[true,true,true,true,true,true,true,true,true,true,true,true,true,true,true] rfl rfl (one_of HT_.out (by kernel_rfl)) (by decide) (fun K hK=>?_);have hs39 : w38.cell? ⟨gb429,0,none⟩ = some (.int .i64 0):=(zCl BK429.out 0).trans rfl;have hfs39:=zFr BK429.out 0;have hs40 : w38.cell? ⟨gb429,1,none⟩ = some (.int .i64 0):=(zCl BK429.out 1).trans rfl;have hfs40:=zFr BK429.out 1;have hs41 : w38.cell? ⟨gb429,2,none⟩ = some (.int .i64 0):=(zCl BK429.out 2).trans rfl;have hfs41:=zFr BK429.out 2;have hs42 : w38.cell? ⟨gb429,3,none⟩ = some (.int .i64 0):=(zCl BK429.out 3).trans rfl;have hfs42:=zFr BK429.out 3;refine skip_ (w1:=?_) (by rfl) rfl ?_ ?_;rotate_left
     ·go_simp;rfl
     refine hK.out _ _ trivial (fun hHeld=>?_);clear hK K;refine done_ (done_of HT_.out (by kernel_rfl)) ?_
     try go_wp2
     go_ret2
     exact ⟨_,by first | rfl | (simp [errW_none,errW_some] <;> rfl) | (simp [*,errW_none,errW_some] <;> rfl),by first | exact Kd.R_nil _ _ _ _ _ | exact Kd.N_nil _ _ _ _ _ | exact Kd.V_nil _ _ _ _ _ | exact Kd.Q_nil _ _ _ _ _ | exact Kd.S_nil _ _ _ _ _,hs1 HB GE429⟩
    rw [if_neg c5] at H;exact absurd H (by simp)
   rw [if_neg c2] at H;have c2b0 : decide (x5_1 < (a0.size : Int)) = false:=decide_eq_false c2;clear c2;simp only [Option.some.injEq,Prod.mk.injEq] at H;obtain ⟨rfl,rfl⟩:=H
   go_wp2
   go_ret2
   exact ⟨_,by first | rfl | (simp [errW_none,errW_some] <;> rfl) | (simp [*,errW_none,errW_some] <;> rfl),rs HO_4,hs HB⟩
def impl_gathered.l0 : Nat → List (S36) → Int → ByteArray → Int → Int → Int → Int → Int → Int → Int → ByteArray → Option (Int × Int × (List (S45)) × Bool)
 | 0,_,_,_,_,_,_,_,_,_,_,_=>none
 | k + 1,x0,x1,x8,x9,x10,x443000,x443001,x443002,x443003,x443004,x443005=>if x10 < x443004 then ((impl_metaOf.f k x0 x1 x10 x443004).bind fun bt443=>(if bt443.2.2.2.2.2.2 = true then (if x8.size + bt443.2.2.2.2.2.1.size ≤ 9223372036854775807 then (impl_gathered.l0 k x0 x1 (x8 ++ bt443.2.2.2.2.2.1) (mn x9 bt443.2.1) (wrap64 (x10 + 1)) x443000 x443001 x443002 x443003 x443004 x443005) else (none)) else (some (0,0,([] : List (S45)),false)))) else ((impl_ReadRecs.f k x8).bind fun bt451=>(some (x1,x9,bt451.1,bt451.2)))
def impl_gathered.f (k : Nat) (l0 : List (S36)) (a1 : Int) : Option (Int × Int × (List (S45)) × Bool):=(impl_metaOf.f k l0 a1 0 0).bind fun bt435=>(if bt435.2.2.2.2.2.2 = true then (impl_gathered.l0 k l0 a1 bt435.2.2.2.2.2.1 bt435.2.1 1 bt435.1 bt435.2.1 bt435.2.2.1 bt435.2.2.2.1 bt435.2.2.2.2.1 bt435.2.2.2.2.2.1) else (some (0,0,([] : List (S45)),false)))
theorem impl_gathered.mono_l : ∀ k,(∀ y0 y1 y2 y3 y4 y5 y6 y7 y8 y9 y10,LeO (impl_gathered.l0 k y0 y1 y2 y3 y4 y5 y6 y7 y8 y9 y10) (impl_gathered.l0 (k + 1) y0 y1 y2 y3 y4 y5 y6 y7 y8 y9 y10))
 | 0=>fun _ _ _ _ _ _ _ _ _ _ _ r h=>by simp [impl_gathered.l0] at h
 | k + 1=>by
  have ih0:=impl_gathered.mono_l k;intro y0 y1 y2 y3 y4 y5 y6 y7 y8 y9 y10;unfold impl_gathered.l0
  repeat' first
  | (with_reducible exact ih0 _ _ _ _ _ _ _ _ _ _ _)
  | (with_reducible exact impl_ReadRecs.mono _ _)
  | (with_reducible exact impl_metaOf.mono _ _ _ _ _)
  | (with_reducible exact LeO.refl _)
  | (with_reducible exact LeO.none _)
  | (with_reducible refine LeO.ite ?_ ?_)
  | (with_reducible refine LeO.bind ?_ (fun _=>?_))
  | exact ih0 _ _ _ _ _ _ _ _ _ _ _
  | exact impl_ReadRecs.mono _ _
  | exact impl_metaOf.mono _ _ _ _ _
  | exact LeO.none _
  | refine LeO.ite ?_ ?_
  | refine LeO.bind ?_ (fun _=>?_)
theorem impl_gathered.mono : ∀ a0 a1 k,LeO (impl_gathered.f k a0 a1) (impl_gathered.f (k + 1) a0 a1):=by
 intro a0 a1 k;have ih0:=impl_gathered.mono_l k;unfold impl_gathered.f
 repeat' first
   | (with_reducible exact ih0 _ _ _ _ _ _ _ _ _ _ _)
   | (with_reducible exact impl_ReadRecs.mono _ _)
   | (with_reducible exact impl_metaOf.mono _ _ _ _ _)
   | (with_reducible exact LeO.refl _)
   | (with_reducible exact LeO.none _)
   | (with_reducible refine LeO.ite ?_ ?_)
   | (with_reducible refine LeO.bind ?_ (fun _=>?_))
   | exact ih0 _ _ _ _ _ _ _ _ _ _ _
   | exact impl_ReadRecs.mono _ _
   | exact impl_metaOf.mono _ _ _ _ _
   | exact LeO.none _
   | refine LeO.ite ?_ ?_
   | refine LeO.bind ?_ (fun _=>?_)
set_option maxHeartbeats 8000000 in
set_option maxRecDepth 100000 in
theorem impl_gathered.calls (k : Nat) (A0 : Option Addr) (c0 : Nat) (l0 : List (S36)) (a1 : Int) (r1 : Int) (r2 : Int) (r3 : List (S45)) (r4 : Bool) (w : World) (hr0 : Kd.C k36 w A0 l0.length l0) (hc0 : l0.length ≤ c0) (h : impl_gathered.f k l0 a1 = some (r1,r2,r3,r4)) :
  Calls Try.prog 37 #[.slice A0 l0.length c0,.int .i64 a1] w fun e w'=>∃ v2_ : Value,e = .returned (.tuple #[.agg #[.int .i64 r1,.int .i64 r2,v2_],.bool r4]) ∧ Kd.R k45 45 w' w.heap.size (fun _=>True) v2_ r3 ∧ Below w.heap.size w w':=by
 have hu40:=Try.underlying40;have hu33:=Try.underlying33;have HR0:=zMk hr0;have HC0:=zMk hc0;clear hr0 hc0;have HB:=zMk (Below.refl w.heap.size w);have H : ((impl_metaOf.f k l0 a1 0 0).bind fun bt435=>(if bt435.2.2.2.2.2.2 = true then (impl_gathered.l0 k l0 a1 bt435.2.2.2.2.2.1 bt435.2.1 1 bt435.1 bt435.2.1 bt435.2.2.1 bt435.2.2.2.1 bt435.2.2.2.2.1 bt435.2.2.2.2.2.1) else (some (0,0,([] : List (S45)),false)))) = some (r1,r2,r3,r4):=h;clear h;replace H:=Option.bind_eq_some_iff.mp H;obtain ⟨⟨t435,t436,t437,t438,t439,t440,t441⟩,A30,H⟩:=H;replace H : (if t441 = true then (impl_gathered.l0 k l0 a1 t440 t436 1 t435 t436 t437 t438 t439 t440) else (some (0,0,([] : List (S45)),false))) = some (r1,r2,r3,r4):=H;have A3:=zMk A30;clear A30
 by_cases c4 : t441 = true
 ·subst c4;have H1 : (impl_gathered.l0 k l0 a1 t440 t436 1 t435 t436 t437 t438 t439 t440) = some (r1,r2,r3,r4):=by rw [if_pos rfl] at H;exact H
  clear H;have H:=H1;clear H1;have H':=zMk H;clear H
  go_enter Try.func37,Try.ntmps37
  go_wp2_with (first | ((with_reducible refine gate_dst (N:=4) rfl ?_);refine box_event ?hg (N:=4) ?hd (cs:=#[.int .i64 0,.int .i64 0,.slice none 0 0]) (t:=40) ?hr ?_;(case hd=>rfl);(case hg=>rfl);(case hr=>first | (go_simp;done) | (go_simp;rfl));intro gb434 hg w5 hbox hb;have n0_:=zMk (below_step (hs HB) hb);have n1_:=zMk (hbox);have n2_:=zMk ((by rw [hg];exact (below_size (hs HB)) : w.heap.size ≤ gb434));have n3_:=zMk ((by rw [hg];exact (below_size (hs HB)) : w.heap.size ≤ gb434));clear HB;have HB:=n0_;have BK434:=n1_;have GW434:=n2_;have GE434:=n3_;clear n0_ n1_ n2_ n3_;clear hb hbox hg) | (go_at_call 55;(with_reducible refine (impl_metaOf.calls k _ _ l0 a1 0 0 t435 t436 t437 t438 t439 t440 true _ ?side1 ?side2 A3.out).mono ?_);(case side1=>repeat (first | exact (Kd.C_below HR0.out HB.out) | (with_reducible refine Kd.C_alloc ?_ _) | (with_reducible refine Kd.C_drewN ?_ _) | (with_reducible refine Kd.C_drew ?_)));(case side2=>exact HC0.out);rintro e w6 ⟨rfl,hb⟩;have n0_:=zMk (blk_below (g:=gb434) (o:=.cells #[.int .i64 0,.int .i64 0,.slice none 0 0] 40 (0,0)) (bs BK434) hb);have n1_:=zMk (below_step (hs1 HB GE434) hb);clear BK434;clear HB;have BK434:=n0_;have HB:=n1_;clear n0_ n1_;(try clear hb);(try clear hb2);(try clear hk);(try clear hi)) | ((with_reducible refine gate_dst (N:=6) rfl ?_);refine box_event ?hg (N:=6) ?hd (cs:=#[.int .i64 0,.int .i64 0,.int .i64 0,.int .i64 0,.int .i64 0,.string (⟨#[]⟩ : ByteArray)]) (t:=33) ?hr ?_;(case hd=>rfl);(case hg=>rfl);(case hr=>first | (go_simp;done) | (go_simp;rfl));intro gb442 hg w7 hbox hb;have n0_:=zMk (blk_below (g:=gb434) (o:=.cells #[.int .i64 0,.int .i64 0,.slice none 0 0] 40 (0,0)) (bs BK434) hb);have n1_:=zMk (below_step (hs1 HB GE434) hb);have n2_:=zMk (hbox);have n3_:=zMk ((by rw [hg];exact (below_size (hs1 HB GE434)) : w.heap.size ≤ gb442));have n4_:=zMk ((by rw [hg];exact (below_size (hs1 HB GE434)) : w.heap.size ≤ gb442));have n5_:=zMk ((by rw [hg];exact Nat.ne_of_lt (blk_lt (g:=gb434) (o:=.cells #[.int .i64 0,.int .i64 0,.slice none 0 0] 40 (0,0)) (bs BK434)) : gb434 ≠ gb442));have n6_:=zMk ((by rw [hg];exact Nat.ne_of_gt (blk_lt (g:=gb434) (o:=.cells #[.int .i64 0,.int .i64 0,.slice none 0 0] 40 (0,0)) (bs BK434)) : gb442 ≠ gb434));clear BK434;clear HB;have BK434:=n0_;have HB:=n1_;have BK442:=n2_;have GW442:=n3_;have GE442:=n4_;have NB434_442:=n5_;have NB442_434:=n6_;clear n0_ n1_ n2_ n3_ n4_ n5_ n6_;clear hb hbox hg;have hnb8:=NB442_434.out;have hnc8:=NB434_442.out;have hcz9_0 : w7.cell? ⟨gb442,0,none⟩ = some (.int .i64 0):=(zCl BK442.out 0).trans rfl;have hcz9_1 : w7.cell? ⟨gb442,1,none⟩ = some (.int .i64 0):=(zCl BK442.out 1).trans rfl;have hcz9_2 : w7.cell? ⟨gb442,2,none⟩ = some (.int .i64 0):=(zCl BK442.out 2).trans rfl;have hcz9_3 : w7.cell? ⟨gb442,3,none⟩ = some (.int .i64 0):=(zCl BK442.out 3).trans rfl;have hcz9_4 : w7.cell? ⟨gb442,4,none⟩ = some (.int .i64 0):=(zCl BK442.out 4).trans rfl;have hcz9_5 : w7.cell? ⟨gb442,5,none⟩ = some (.string (⟨#[]⟩ : ByteArray)):=(zCl BK442.out 5).trans rfl;have hfz9_0:=zFr BK442.out 0;have hfz9_1:=zFr BK442.out 1;have hfz9_2:=zFr BK442.out 2;have hfz9_3:=zFr BK442.out 3;have hfz9_4:=zFr BK442.out 4;have hfz9_5:=zFr BK442.out 5))
  repeat (go_quiet (first | ((with_reducible refine gate_dst (N:=4) rfl ?_);refine box_event ?hg (N:=4) ?hd (cs:=#[.int .i64 0,.int .i64 0,.slice none 0 0]) (t:=40) ?hr ?_;(case hd=>rfl);(case hg=>rfl);(case hr=>first | (go_simp;done) | (go_simp;rfl));intro gb434 hg w5 hbox hb;have n0_:=zMk (below_step (hs HB) hb);have n1_:=zMk (hbox);have n2_:=zMk ((by rw [hg];exact (below_size (hs HB)) : w.heap.size ≤ gb434));have n3_:=zMk ((by rw [hg];exact (below_size (hs HB)) : w.heap.size ≤ gb434));clear HB;have HB:=n0_;have BK434:=n1_;have GW434:=n2_;have GE434:=n3_;clear n0_ n1_ n2_ n3_;clear hb hbox hg) | (go_at_call 55;(with_reducible refine (impl_metaOf.calls k _ _ l0 a1 0 0 t435 t436 t437 t438 t439 t440 true _ ?side1 ?side2 A3.out).mono ?_);(case side1=>repeat (first | exact (Kd.C_below HR0.out HB.out) | (with_reducible refine Kd.C_alloc ?_ _) | (with_reducible refine Kd.C_drewN ?_ _) | (with_reducible refine Kd.C_drew ?_)));(case side2=>exact HC0.out);rintro e w6 ⟨rfl,hb⟩;have n0_:=zMk (blk_below (g:=gb434) (o:=.cells #[.int .i64 0,.int .i64 0,.slice none 0 0] 40 (0,0)) (bs BK434) hb);have n1_:=zMk (below_step (hs1 HB GE434) hb);clear BK434;clear HB;have BK434:=n0_;have HB:=n1_;clear n0_ n1_;(try clear hb);(try clear hb2);(try clear hk);(try clear hi)) | ((with_reducible refine gate_dst (N:=6) rfl ?_);refine box_event ?hg (N:=6) ?hd (cs:=#[.int .i64 0,.int .i64 0,.int .i64 0,.int .i64 0,.int .i64 0,.string (⟨#[]⟩ : ByteArray)]) (t:=33) ?hr ?_;(case hd=>rfl);(case hg=>rfl);(case hr=>first | (go_simp;done) | (go_simp;rfl));intro gb442 hg w7 hbox hb;have n0_:=zMk (blk_below (g:=gb434) (o:=.cells #[.int .i64 0,.int .i64 0,.slice none 0 0] 40 (0,0)) (bs BK434) hb);have n1_:=zMk (below_step (hs1 HB GE434) hb);have n2_:=zMk (hbox);have n3_:=zMk ((by rw [hg];exact (below_size (hs1 HB GE434)) : w.heap.size ≤ gb442));have n4_:=zMk ((by rw [hg];exact (below_size (hs1 HB GE434)) : w.heap.size ≤ gb442));have n5_:=zMk ((by rw [hg];exact Nat.ne_of_lt (blk_lt (g:=gb434) (o:=.cells #[.int .i64 0,.int .i64 0,.slice none 0 0] 40 (0,0)) (bs BK434)) : gb434 ≠ gb442));have n6_:=zMk ((by rw [hg];exact Nat.ne_of_gt (blk_lt (g:=gb434) (o:=.cells #[.int .i64 0,.int .i64 0,.slice none 0 0] 40 (0,0)) (bs BK434)) : gb442 ≠ gb434));clear BK434;clear HB;have BK434:=n0_;have HB:=n1_;have BK442:=n2_;have GW442:=n3_;have GE442:=n4_;have NB434_442:=n5_;have NB442_434:=n6_;clear n0_ n1_ n2_ n3_ n4_ n5_ n6_;clear hb hbox hg;have hnb8:=NB442_434.out;have hnc8:=NB434_442.out;have hcz9_0 : w7.cell? ⟨gb442,0,none⟩ = some (.int .i64 0):=(zCl BK442.out 0).trans rfl;have hcz9_1 : w7.cell? ⟨gb442,1,none⟩ = some (.int .i64 0):=(zCl BK442.out 1).trans rfl;have hcz9_2 : w7.cell? ⟨gb442,2,none⟩ = some (.int .i64 0):=(zCl BK442.out 2).trans rfl;have hcz9_3 : w7.cell? ⟨gb442,3,none⟩ = some (.int .i64 0):=(zCl BK442.out 3).trans rfl;have hcz9_4 : w7.cell? ⟨gb442,4,none⟩ = some (.int .i64 0):=(zCl BK442.out 4).trans rfl;have hcz9_5 : w7.cell? ⟨gb442,5,none⟩ = some (.string (⟨#[]⟩ : ByteArray)):=(zCl BK442.out 5).trans rfl;have hfz9_0:=zFr BK442.out 0;have hfz9_1:=zFr BK442.out 1;have hfz9_2:=zFr BK442.out 2;have hfz9_3:=zFr BK442.out 3;have hfz9_4:=zFr BK442.out 4;have hfz9_5:=zFr BK442.out 5));try go_wp2_with (first | ((with_reducible refine gate_dst (N:=4) rfl ?_);refine box_event ?hg (N:=4) ?hd (cs:=#[.int .i64 0,.int .i64 0,.slice none 0 0]) (t:=40) ?hr ?_;(case hd=>rfl);(case hg=>rfl);(case hr=>first | (go_simp;done) | (go_simp;rfl));intro gb434 hg w5 hbox hb;have n0_:=zMk (below_step (hs HB) hb);have n1_:=zMk (hbox);have n2_:=zMk ((by rw [hg];exact (below_size (hs HB)) : w.heap.size ≤ gb434));have n3_:=zMk ((by rw [hg];exact (below_size (hs HB)) : w.heap.size ≤ gb434));clear HB;have HB:=n0_;have BK434:=n1_;have GW434:=n2_;have GE434:=n3_;clear n0_ n1_ n2_ n3_;clear hb hbox hg) | (go_at_call 55;(with_reducible refine (impl_metaOf.calls k _ _ l0 a1 0 0 t435 t436 t437 t438 t439 t440 true _ ?side1 ?side2 A3.out).mono ?_);(case side1=>repeat (first | exact (Kd.C_below HR0.out HB.out) | (with_reducible refine Kd.C_alloc ?_ _) | (with_reducible refine Kd.C_drewN ?_ _) | (with_reducible refine Kd.C_drew ?_)));(case side2=>exact HC0.out);rintro e w6 ⟨rfl,hb⟩;have n0_:=zMk (blk_below (g:=gb434) (o:=.cells #[.int .i64 0,.int .i64 0,.slice none 0 0] 40 (0,0)) (bs BK434) hb);have n1_:=zMk (below_step (hs1 HB GE434) hb);clear BK434;clear HB;have BK434:=n0_;have HB:=n1_;clear n0_ n1_;(try clear hb);(try clear hb2);(try clear hk);(try clear hi)) | ((with_reducible refine gate_dst (N:=6) rfl ?_);refine box_event ?hg (N:=6) ?hd (cs:=#[.int .i64 0,.int .i64 0,.int .i64 0,.int .i64 0,.int .i64 0,.string (⟨#[]⟩ : ByteArray)]) (t:=33) ?hr ?_;(case hd=>rfl);(case hg=>rfl);(case hr=>first | (go_simp;done) | (go_simp;rfl));intro gb442 hg w7 hbox hb;have n0_:=zMk (blk_below (g:=gb434) (o:=.cells #[.int .i64 0,.int .i64 0,.slice none 0 0] 40 (0,0)) (bs BK434) hb);have n1_:=zMk (below_step (hs1 HB GE434) hb);have n2_:=zMk (hbox);have n3_:=zMk ((by rw [hg];exact (below_size (hs1 HB GE434)) : w.heap.size ≤ gb442));have n4_:=zMk ((by rw [hg];exact (below_size (hs1 HB GE434)) : w.heap.size ≤ gb442));have n5_:=zMk ((by rw [hg];exact Nat.ne_of_lt (blk_lt (g:=gb434) (o:=.cells #[.int .i64 0,.int .i64 0,.slice none 0 0] 40 (0,0)) (bs BK434)) : gb434 ≠ gb442));have n6_:=zMk ((by rw [hg];exact Nat.ne_of_gt (blk_lt (g:=gb434) (o:=.cells #[.int .i64 0,.int .i64 0,.slice none 0 0] 40 (0,0)) (bs BK434)) : gb442 ≠ gb434));clear BK434;clear HB;have BK434:=n0_;have HB:=n1_;have BK442:=n2_;have GW442:=n3_;have GE442:=n4_;have NB434_442:=n5_;have NB442_434:=n6_;clear n0_ n1_ n2_ n3_ n4_ n5_ n6_;clear hb hbox hg;have hnb8:=NB442_434.out;have hnc8:=NB434_442.out;have hcz9_0 : w7.cell? ⟨gb442,0,none⟩ = some (.int .i64 0):=(zCl BK442.out 0).trans rfl;have hcz9_1 : w7.cell? ⟨gb442,1,none⟩ = some (.int .i64 0):=(zCl BK442.out 1).trans rfl;have hcz9_2 : w7.cell? ⟨gb442,2,none⟩ = some (.int .i64 0):=(zCl BK442.out 2).trans rfl;have hcz9_3 : w7.cell? ⟨gb442,3,none⟩ = some (.int .i64 0):=(zCl BK442.out 3).trans rfl;have hcz9_4 : w7.cell? ⟨gb442,4,none⟩ = some (.int .i64 0):=(zCl BK442.out 4).trans rfl;have hcz9_5 : w7.cell? ⟨gb442,5,none⟩ = some (.string (⟨#[]⟩ : ByteArray)):=(zCl BK442.out 5).trans rfl;have hfz9_0:=zFr BK442.out 0;have hfz9_1:=zFr BK442.out 1;have hfz9_2:=zFr BK442.out 2;have hfz9_3:=zFr BK442.out 3;have hfz9_4:=zFr BK442.out 4;have hfz9_5:=zFr BK442.out 5)))
  go_loopg [8,9,10] k (fun kq v8 v9 v10 w'=>∃ (x8_1 : ByteArray) (x9_1 : Int) (x10_1 : Int) (x435000_1 : Int) (x435001_1 : Int),v8 = .string x8_1 ∧ v9 = .int .i64 x9_1 ∧ v10 = .int .i64 x10_1 ∧ Aside0 (impl_gathered.l0 kq l0 a1 x8_1 x9_1 x10_1 t435 t436 t437 t438 t439 t440 = some (r1,r2,r3,r4)) ∧ Aside0 (kq ≤ k) ∧ Aside0 (w'.heap[gb434]? = some (.cells #[.int .i64 x435000_1,.int .i64 x435001_1,(.slice none 0 0)] 40 (0,0))) ∧ Aside0 (w'.heap[gb442]? = some (.cells #[.int .i64 t435,.int .i64 t436,.int .i64 t437,.int .i64 t438,.int .i64 t439,.string t440] 33 (0,0))) ∧ Aside0 (Below w.heap.size w w'));case atStart=>exact ⟨(t440),(t436),(1),(0),(0),(by first | rfl | (simp;done) | (simp [*];done)),(by first | rfl | (simp;done) | (simp [*];done)),(by first | rfl | (simp;done) | (simp [*];done)),H',⟨Nat.le_refl _⟩,⟨by (with_reducible repeat (first | refine blk_drewN ?_ _ | refine blk_drew ?_ | refine blk_alloc ?_ _));refine blk_far ?_ NB434_442.out _;(with_reducible repeat (first | refine blk_drewN ?_ _ | refine blk_drew ?_ | refine blk_alloc ?_ _));refine blk_far ?_ NB434_442.out _;(with_reducible repeat (first | refine blk_drewN ?_ _ | refine blk_drew ?_ | refine blk_alloc ?_ _));refine blk_far ?_ NB434_442.out _;(with_reducible repeat (first | refine blk_drewN ?_ _ | refine blk_drew ?_ | refine blk_alloc ?_ _));refine blk_far ?_ NB434_442.out _;(with_reducible repeat (first | refine blk_drewN ?_ _ | refine blk_drew ?_ | refine blk_alloc ?_ _));refine blk_far ?_ NB434_442.out _;(with_reducible repeat (first | refine blk_drewN ?_ _ | refine blk_drew ?_ | refine blk_alloc ?_ _));refine blk_far ?_ NB434_442.out _;(with_reducible repeat (first | refine blk_drewN ?_ _ | refine blk_drew ?_ | refine blk_alloc ?_ _));exact BK434.out⟩,⟨by (with_reducible repeat (first | refine blk_drewN ?_ _ | refine blk_drew ?_ | refine blk_alloc ?_ _));refine blk_put (cs:=#[.int .i64 t435,.int .i64 t436,.int .i64 t437,.int .i64 t438,.int .i64 t439,.string (⟨#[]⟩ : ByteArray)]) ?_ 5 _ rfl;(with_reducible repeat (first | refine blk_drewN ?_ _ | refine blk_drew ?_ | refine blk_alloc ?_ _));refine blk_put (cs:=#[.int .i64 t435,.int .i64 t436,.int .i64 t437,.int .i64 t438,.int .i64 0,.string (⟨#[]⟩ : ByteArray)]) ?_ 4 _ rfl;(with_reducible repeat (first | refine blk_drewN ?_ _ | refine blk_drew ?_ | refine blk_alloc ?_ _));refine blk_put (cs:=#[.int .i64 t435,.int .i64 t436,.int .i64 t437,.int .i64 0,.int .i64 0,.string (⟨#[]⟩ : ByteArray)]) ?_ 3 _ rfl;(with_reducible repeat (first | refine blk_drewN ?_ _ | refine blk_drew ?_ | refine blk_alloc ?_ _));refine blk_put (cs:=#[.int .i64 t435,.int .i64 t436,.int .i64 0,.int .i64 0,.int .i64 0,.string (⟨#[]⟩ : ByteArray)]) ?_ 2 _ rfl;(with_reducible repeat (first | refine blk_drewN ?_ _ | refine blk_drew ?_ | refine blk_alloc ?_ _));refine blk_put (cs:=#[.int .i64 t435,.int .i64 0,.int .i64 0,.int .i64 0,.int .i64 0,.string (⟨#[]⟩ : ByteArray)]) ?_ 1 _ rfl;(with_reducible repeat (first | refine blk_drewN ?_ _ | refine blk_drew ?_ | refine blk_alloc ?_ _));refine blk_put (cs:=#[.int .i64 0,.int .i64 0,.int .i64 0,.int .i64 0,.int .i64 0,.string (⟨#[]⟩ : ByteArray)]) ?_ 0 _ rfl;(with_reducible repeat (first | refine blk_drewN ?_ _ | refine blk_drew ?_ | refine blk_alloc ?_ _));exact BK442.out⟩,⟨hs2 HB GE434 GE442⟩⟩
  case round =>
   clear H'
   try clear p2
   try clear c3
   try clear c4
   try clear c8
   try clear hcz9_0
   try clear hcz9_1
   try clear hcz9_2
   try clear hcz9_3
   try clear hcz9_4
   try clear hcz9_5
   try clear hfz9_0
   try clear hfz9_1
   try clear hfz9_2
   try clear hfz9_3
   try clear hfz9_4
   try clear hfz9_5
   obtain ⟨x8_1,x9_1,x10_1,x435000_1,x435001_1,rfl,rfl,rfl,HA,HK1,BK434,BK442,HB⟩:=hrel;cases gk with
   | zero=>exact absurd HA.out (by simp [impl_gathered.l0])
   | succ k1 =>
    have H:=HA.out;clear HA;simp only [impl_gathered.l0] at H
    by_cases c10 : x10_1 < t439
    ·rw [if_pos c10] at H;have c10b0 : decide (x10_1 < t439) = true:=decide_eq_true c10;clear c10;replace H:=Option.bind_eq_some_iff.mp H;obtain ⟨⟨t443,t444,t445,t446,t447,t448,t449⟩,A110,H⟩:=H;replace H : (if t449 = true then (if x8_1.size + t448.size ≤ 9223372036854775807 then (impl_gathered.l0 k1 l0 a1 (x8_1 ++ t448) (mn x9_1 t444) (wrap64 (x10_1 + 1)) t435 t436 t437 t438 t439 t440) else (none)) else (some (0,0,([] : List (S45)),false))) = some (r1,r2,r3,r4):=H;have A11:=zMk A110;clear A110
     by_cases c12 : t449 = true
     ·subst c12;have H1 : (if x8_1.size + t448.size ≤ 9223372036854775807 then (impl_gathered.l0 k1 l0 a1 (x8_1 ++ t448) (mn x9_1 t444) (wrap64 (x10_1 + 1)) t435 t436 t437 t438 t439 t440) else (none)) = some (r1,r2,r3,r4):=by rw [if_pos rfl] at H;exact H
      clear H;have H:=H1;clear H1
      by_cases c13 : x8_1.size + t448.size ≤ 9223372036854775807
      ·rw [if_pos c13] at H;have c13b0:=eq_true c13;have c13b1 : decide (x8_1.size + t448.size ≤ 9223372036854775807) = true:=decide_eq_true c13
       try have c13b2 : (9223372036854775807 < x8_1.size + t448.size) = False:=eq_false (Nat.not_lt.2 c13)
       obtain ⟨ji14,hji14⟩ : ∃ j_ : Int,(mn x9_1 t444) = j_:=⟨_,rfl⟩;replace H : (impl_gathered.l0 k1 l0 a1 (x8_1 ++ t448) ji14 (wrap64 (x10_1 + 1)) t435 t436 t437 t438 t439 t440) = some (r1,r2,r3,r4):=by first | (rw [hji14] at H;exact H) | (simp only [hji14] at H ⊢;exact H)
       (try rw [hji14] at A11)
       have hji14_ : (if t444 < x9_1 then t444 else x9_1) = ji14:=hji14;have H':=zMk H;clear H;have hnb15:=NB442_434.out;have hnc15:=NB434_442.out;have hcz16_0 : wr.cell? ⟨gb442,0,none⟩ = some (.int .i64 t435):=(zCl BK442.out 0).trans rfl;have hcz16_1 : wr.cell? ⟨gb442,1,none⟩ = some (.int .i64 t436):=(zCl BK442.out 1).trans rfl;have hcz16_2 : wr.cell? ⟨gb442,2,none⟩ = some (.int .i64 t437):=(zCl BK442.out 2).trans rfl;have hcz16_3 : wr.cell? ⟨gb442,3,none⟩ = some (.int .i64 t438):=(zCl BK442.out 3).trans rfl;have hcz16_4 : wr.cell? ⟨gb442,4,none⟩ = some (.int .i64 t439):=(zCl BK442.out 4).trans rfl;have hcz16_5 : wr.cell? ⟨gb442,5,none⟩ = some (.string t440):=(zCl BK442.out 5).trans rfl;have hfz16_0:=zFr BK442.out 0;have hfz16_1:=zFr BK442.out 1;have hfz16_2:=zFr BK442.out 2;have hfz16_3:=zFr BK442.out 3;have hfz16_4:=zFr BK442.out 4;have hfz16_5:=zFr BK442.out 5;go_wp2_with (first | (go_at_call 55;(with_reducible refine (impl_metaOf.calls k1 _ _ l0 a1 x10_1 t439 t443 t444 t445 t446 t447 t448 true _ ?side1 ?side2 A11.out).mono ?_);(case side1=>repeat (first | exact (Kd.C_below HR0.out HB.out) | (with_reducible refine Kd.C_alloc ?_ _) | (with_reducible refine Kd.C_drewN ?_ _) | (with_reducible refine Kd.C_drew ?_)));(case side2=>exact HC0.out);rintro e w17 ⟨rfl,hb⟩;have n0_:=zMk (blk_below (g:=gb434) (o:=.cells #[.int .i64 x435000_1,.int .i64 x435001_1,.slice none 0 0] 40 (0,0)) (bs BK434) hb);have n1_:=zMk (blk_below (g:=gb442) (o:=.cells #[.int .i64 t435,.int .i64 t436,.int .i64 t437,.int .i64 t438,.int .i64 t439,.string t440] 33 (0,0)) (bs BK442) hb);have n2_:=zMk (below_step (hs2 HB GE434 GE442) hb);clear BK434;clear BK442;clear HB;have BK434:=n0_;have BK442:=n1_;have HB:=n2_;clear n0_ n1_ n2_;(try clear hb);(try clear hb2);(try clear hk);(try clear hi)) | ((with_reducible refine gate_dst (N:=11) rfl ?_);refine box_event ?hg (N:=11) ?hd (cs:=#[.int .i64 0,.int .i64 0,.int .i64 0,.int .i64 0,.int .i64 0,.string (⟨#[]⟩ : ByteArray)]) (t:=33) ?hr ?_;(case hd=>rfl);(case hg=>rfl);(case hr=>first | (go_simp;done) | (go_simp;rfl));intro gb450 hg w18 hbox hb;have n0_:=zMk (blk_below (g:=gb434) (o:=.cells #[.int .i64 x435000_1,.int .i64 x435001_1,.slice none 0 0] 40 (0,0)) (bs BK434) hb);have n1_:=zMk (blk_below (g:=gb442) (o:=.cells #[.int .i64 t435,.int .i64 t436,.int .i64 t437,.int .i64 t438,.int .i64 t439,.string t440] 33 (0,0)) (bs BK442) hb);have n2_:=zMk (below_step (hs2 HB GE434 GE442) hb);have n3_:=zMk (hbox);have n4_:=zMk ((by rw [hg];exact (below_size (hs2 HB GE434 GE442)) : w.heap.size ≤ gb450));have n5_:=zMk ((by rw [hg];exact (below_size (hs2 HB GE434 GE442)) : w.heap.size ≤ gb450));have n6_:=zMk ((by rw [hg];exact Nat.ne_of_lt (blk_lt (g:=gb434) (o:=.cells #[.int .i64 x435000_1,.int .i64 x435001_1,.slice none 0 0] 40 (0,0)) (bs BK434)) : gb434 ≠ gb450));have n7_:=zMk ((by rw [hg];exact Nat.ne_of_gt (blk_lt (g:=gb434) (o:=.cells #[.int .i64 x435000_1,.int .i64 x435001_1,.slice none 0 0] 40 (0,0)) (bs BK434)) : gb450 ≠ gb434));have n8_:=zMk ((by rw [hg];exact Nat.ne_of_lt (blk_lt (g:=gb442) (o:=.cells #[.int .i64 t435,.int .i64 t436,.int .i64 t437,.int .i64 t438,.int .i64 t439,.string t440] 33 (0,0)) (bs BK442)) : gb442 ≠ gb450));have n9_:=zMk ((by rw [hg];exact Nat.ne_of_gt (blk_lt (g:=gb442) (o:=.cells #[.int .i64 t435,.int .i64 t436,.int .i64 t437,.int .i64 t438,.int .i64 t439,.string t440] 33 (0,0)) (bs BK442)) : gb450 ≠ gb442));clear BK434;clear BK442;clear HB;have BK434:=n0_;have BK442:=n1_;have HB:=n2_;have BK450:=n3_;have GW450:=n4_;have GE450:=n5_;have NB434_450:=n6_;have NB450_434:=n7_;have NB442_450:=n8_;have NB450_442:=n9_;clear n0_ n1_ n2_ n3_ n4_ n5_ n6_ n7_ n8_ n9_;clear hb hbox hg;have hnb19:=NB450_434.out;have hnc19:=NB434_450.out;have hnb20:=NB450_442.out;have hnc20:=NB442_450.out;have hcz21_0 : w18.cell? ⟨gb450,0,none⟩ = some (.int .i64 0):=(zCl BK450.out 0).trans rfl;have hcz21_1 : w18.cell? ⟨gb450,1,none⟩ = some (.int .i64 0):=(zCl BK450.out 1).trans rfl;have hcz21_2 : w18.cell? ⟨gb450,2,none⟩ = some (.int .i64 0):=(zCl BK450.out 2).trans rfl;have hcz21_3 : w18.cell? ⟨gb450,3,none⟩ = some (.int .i64 0):=(zCl BK450.out 3).trans rfl;have hcz21_4 : w18.cell? ⟨gb450,4,none⟩ = some (.int .i64 0):=(zCl BK450.out 4).trans rfl;have hcz21_5 : w18.cell? ⟨gb450,5,none⟩ = some (.string (⟨#[]⟩ : ByteArray)):=(zCl BK450.out 5).trans rfl;have hfz21_0:=zFr BK450.out 0;have hfz21_1:=zFr BK450.out 1;have hfz21_2:=zFr BK450.out 2;have hfz21_3:=zFr BK450.out 3;have hfz21_4:=zFr BK450.out 4;have hfz21_5:=zFr BK450.out 5))
       repeat (go_quiet (first | (go_at_call 55;(with_reducible refine (impl_metaOf.calls k1 _ _ l0 a1 x10_1 t439 t443 t444 t445 t446 t447 t448 true _ ?side1 ?side2 A11.out).mono ?_);(case side1=>repeat (first | exact (Kd.C_below HR0.out HB.out) | (with_reducible refine Kd.C_alloc ?_ _) | (with_reducible refine Kd.C_drewN ?_ _) | (with_reducible refine Kd.C_drew ?_)));(case side2=>exact HC0.out);rintro e w17 ⟨rfl,hb⟩;have n0_:=zMk (blk_below (g:=gb434) (o:=.cells #[.int .i64 x435000_1,.int .i64 x435001_1,.slice none 0 0] 40 (0,0)) (bs BK434) hb);have n1_:=zMk (blk_below (g:=gb442) (o:=.cells #[.int .i64 t435,.int .i64 t436,.int .i64 t437,.int .i64 t438,.int .i64 t439,.string t440] 33 (0,0)) (bs BK442) hb);have n2_:=zMk (below_step (hs2 HB GE434 GE442) hb);clear BK434;clear BK442;clear HB;have BK434:=n0_;have BK442:=n1_;have HB:=n2_;clear n0_ n1_ n2_;(try clear hb);(try clear hb2);(try clear hk);(try clear hi)) | ((with_reducible refine gate_dst (N:=11) rfl ?_);refine box_event ?hg (N:=11) ?hd (cs:=#[.int .i64 0,.int .i64 0,.int .i64 0,.int .i64 0,.int .i64 0,.string (⟨#[]⟩ : ByteArray)]) (t:=33) ?hr ?_;(case hd=>rfl);(case hg=>rfl);(case hr=>first | (go_simp;done) | (go_simp;rfl));intro gb450 hg w18 hbox hb;have n0_:=zMk (blk_below (g:=gb434) (o:=.cells #[.int .i64 x435000_1,.int .i64 x435001_1,.slice none 0 0] 40 (0,0)) (bs BK434) hb);have n1_:=zMk (blk_below (g:=gb442) (o:=.cells #[.int .i64 t435,.int .i64 t436,.int .i64 t437,.int .i64 t438,.int .i64 t439,.string t440] 33 (0,0)) (bs BK442) hb);have n2_:=zMk (below_step (hs2 HB GE434 GE442) hb);have n3_:=zMk (hbox);have n4_:=zMk ((by rw [hg];exact (below_size (hs2 HB GE434 GE442)) : w.heap.size ≤ gb450));have n5_:=zMk ((by rw [hg];exact (below_size (hs2 HB GE434 GE442)) : w.heap.size ≤ gb450));have n6_:=zMk ((by rw [hg];exact Nat.ne_of_lt (blk_lt (g:=gb434) (o:=.cells #[.int .i64 x435000_1,.int .i64 x435001_1,.slice none 0 0] 40 (0,0)) (bs BK434)) : gb434 ≠ gb450));have n7_:=zMk ((by rw [hg];exact Nat.ne_of_gt (blk_lt (g:=gb434) (o:=.cells #[.int .i64 x435000_1,.int .i64 x435001_1,.slice none 0 0] 40 (0,0)) (bs BK434)) : gb450 ≠ gb434));have n8_:=zMk ((by rw [hg];exact Nat.ne_of_lt (blk_lt (g:=gb442) (o:=.cells #[.int .i64 t435,.int .i64 t436,.int .i64 t437,.int .i64 t438,.int .i64 t439,.string t440] 33 (0,0)) (bs BK442)) : gb442 ≠ gb450));have n9_:=zMk ((by rw [hg];exact Nat.ne_of_gt (blk_lt (g:=gb442) (o:=.cells #[.int .i64 t435,.int .i64 t436,.int .i64 t437,.int .i64 t438,.int .i64 t439,.string t440] 33 (0,0)) (bs BK442)) : gb450 ≠ gb442));clear BK434;clear BK442;clear HB;have BK434:=n0_;have BK442:=n1_;have HB:=n2_;have BK450:=n3_;have GW450:=n4_;have GE450:=n5_;have NB434_450:=n6_;have NB450_434:=n7_;have NB442_450:=n8_;have NB450_442:=n9_;clear n0_ n1_ n2_ n3_ n4_ n5_ n6_ n7_ n8_ n9_;clear hb hbox hg;have hnb19:=NB450_434.out;have hnc19:=NB434_450.out;have hnb20:=NB450_442.out;have hnc20:=NB442_450.out;have hcz21_0 : w18.cell? ⟨gb450,0,none⟩ = some (.int .i64 0):=(zCl BK450.out 0).trans rfl;have hcz21_1 : w18.cell? ⟨gb450,1,none⟩ = some (.int .i64 0):=(zCl BK450.out 1).trans rfl;have hcz21_2 : w18.cell? ⟨gb450,2,none⟩ = some (.int .i64 0):=(zCl BK450.out 2).trans rfl;have hcz21_3 : w18.cell? ⟨gb450,3,none⟩ = some (.int .i64 0):=(zCl BK450.out 3).trans rfl;have hcz21_4 : w18.cell? ⟨gb450,4,none⟩ = some (.int .i64 0):=(zCl BK450.out 4).trans rfl;have hcz21_5 : w18.cell? ⟨gb450,5,none⟩ = some (.string (⟨#[]⟩ : ByteArray)):=(zCl BK450.out 5).trans rfl;have hfz21_0:=zFr BK450.out 0;have hfz21_1:=zFr BK450.out 1;have hfz21_2:=zFr BK450.out 2;have hfz21_3:=zFr BK450.out 3;have hfz21_4:=zFr BK450.out 4;have hfz21_5:=zFr BK450.out 5));try go_wp2_with (first | (go_at_call 55;(with_reducible refine (impl_metaOf.calls k1 _ _ l0 a1 x10_1 t439 t443 t444 t445 t446 t447 t448 true _ ?side1 ?side2 A11.out).mono ?_);(case side1=>repeat (first | exact (Kd.C_below HR0.out HB.out) | (with_reducible refine Kd.C_alloc ?_ _) | (with_reducible refine Kd.C_drewN ?_ _) | (with_reducible refine Kd.C_drew ?_)));(case side2=>exact HC0.out);rintro e w17 ⟨rfl,hb⟩;have n0_:=zMk (blk_below (g:=gb434) (o:=.cells #[.int .i64 x435000_1,.int .i64 x435001_1,.slice none 0 0] 40 (0,0)) (bs BK434) hb);have n1_:=zMk (blk_below (g:=gb442) (o:=.cells #[.int .i64 t435,.int .i64 t436,.int .i64 t437,.int .i64 t438,.int .i64 t439,.string t440] 33 (0,0)) (bs BK442) hb);have n2_:=zMk (below_step (hs2 HB GE434 GE442) hb);clear BK434;clear BK442;clear HB;have BK434:=n0_;have BK442:=n1_;have HB:=n2_;clear n0_ n1_ n2_;(try clear hb);(try clear hb2);(try clear hk);(try clear hi)) | ((with_reducible refine gate_dst (N:=11) rfl ?_);refine box_event ?hg (N:=11) ?hd (cs:=#[.int .i64 0,.int .i64 0,.int .i64 0,.int .i64 0,.int .i64 0,.string (⟨#[]⟩ : ByteArray)]) (t:=33) ?hr ?_;(case hd=>rfl);(case hg=>rfl);(case hr=>first | (go_simp;done) | (go_simp;rfl));intro gb450 hg w18 hbox hb;have n0_:=zMk (blk_below (g:=gb434) (o:=.cells #[.int .i64 x435000_1,.int .i64 x435001_1,.slice none 0 0] 40 (0,0)) (bs BK434) hb);have n1_:=zMk (blk_below (g:=gb442) (o:=.cells #[.int .i64 t435,.int .i64 t436,.int .i64 t437,.int .i64 t438,.int .i64 t439,.string t440] 33 (0,0)) (bs BK442) hb);have n2_:=zMk (below_step (hs2 HB GE434 GE442) hb);have n3_:=zMk (hbox);have n4_:=zMk ((by rw [hg];exact (below_size (hs2 HB GE434 GE442)) : w.heap.size ≤ gb450));have n5_:=zMk ((by rw [hg];exact (below_size (hs2 HB GE434 GE442)) : w.heap.size ≤ gb450));have n6_:=zMk ((by rw [hg];exact Nat.ne_of_lt (blk_lt (g:=gb434) (o:=.cells #[.int .i64 x435000_1,.int .i64 x435001_1,.slice none 0 0] 40 (0,0)) (bs BK434)) : gb434 ≠ gb450));have n7_:=zMk ((by rw [hg];exact Nat.ne_of_gt (blk_lt (g:=gb434) (o:=.cells #[.int .i64 x435000_1,.int .i64 x435001_1,.slice none 0 0] 40 (0,0)) (bs BK434)) : gb450 ≠ gb434));have n8_:=zMk ((by rw [hg];exact Nat.ne_of_lt (blk_lt (g:=gb442) (o:=.cells #[.int .i64 t435,.int .i64 t436,.int .i64 t437,.int .i64 t438,.int .i64 t439,.string t440] 33 (0,0)) (bs BK442)) : gb442 ≠ gb450));have n9_:=zMk ((by rw [hg];exact Nat.ne_of_gt (blk_lt (g:=gb442) (o:=.cells #[.int .i64 t435,.int .i64 t436,.int .i64 t437,.int .i64 t438,.int .i64 t439,.string t440] 33 (0,0)) (bs BK442)) : gb450 ≠ gb442));clear BK434;clear BK442;clear HB;have BK434:=n0_;have BK442:=n1_;have HB:=n2_;have BK450:=n3_;have GW450:=n4_;have GE450:=n5_;have NB434_450:=n6_;have NB450_434:=n7_;have NB442_450:=n8_;have NB450_442:=n9_;clear n0_ n1_ n2_ n3_ n4_ n5_ n6_ n7_ n8_ n9_;clear hb hbox hg;have hnb19:=NB450_434.out;have hnc19:=NB434_450.out;have hnb20:=NB450_442.out;have hnc20:=NB442_450.out;have hcz21_0 : w18.cell? ⟨gb450,0,none⟩ = some (.int .i64 0):=(zCl BK450.out 0).trans rfl;have hcz21_1 : w18.cell? ⟨gb450,1,none⟩ = some (.int .i64 0):=(zCl BK450.out 1).trans rfl;have hcz21_2 : w18.cell? ⟨gb450,2,none⟩ = some (.int .i64 0):=(zCl BK450.out 2).trans rfl;have hcz21_3 : w18.cell? ⟨gb450,3,none⟩ = some (.int .i64 0):=(zCl BK450.out 3).trans rfl;have hcz21_4 : w18.cell? ⟨gb450,4,none⟩ = some (.int .i64 0):=(zCl BK450.out 4).trans rfl;have hcz21_5 : w18.cell? ⟨gb450,5,none⟩ = some (.string (⟨#[]⟩ : ByteArray)):=(zCl BK450.out 5).trans rfl;have hfz21_0:=zFr BK450.out 0;have hfz21_1:=zFr BK450.out 1;have hfz21_2:=zFr BK450.out 2;have hfz21_3:=zFr BK450.out 3;have hfz21_4:=zFr BK450.out 4;have hfz21_5:=zFr BK450.out 5)))
       go_roundg k1;case measure=>have:=HK1.out;omega
       case rel=>exact ⟨(x8_1 ++ t448),(ji14),(wrap64 (x10_1 + 1)),(x435000_1),(x435001_1),(by first | rfl | (simp;done) | (simp [*];done)),(by first | rfl | (simp;done) | (simp only [← hji14] <;> (first | rfl | simp)) | (simp [*];done)),(by first | rfl | (simp;done) | (simp [*];done)),H',⟨by have:=HK1.out;omega⟩,⟨by (with_reducible repeat (first | refine blk_drewN ?_ _ | refine blk_drew ?_ | refine blk_alloc ?_ _));refine blk_far ?_ NB434_450.out _;(with_reducible repeat (first | refine blk_drewN ?_ _ | refine blk_drew ?_ | refine blk_alloc ?_ _));refine blk_far ?_ NB434_450.out _;(with_reducible repeat (first | refine blk_drewN ?_ _ | refine blk_drew ?_ | refine blk_alloc ?_ _));refine blk_far ?_ NB434_450.out _;(with_reducible repeat (first | refine blk_drewN ?_ _ | refine blk_drew ?_ | refine blk_alloc ?_ _));refine blk_far ?_ NB434_450.out _;(with_reducible repeat (first | refine blk_drewN ?_ _ | refine blk_drew ?_ | refine blk_alloc ?_ _));refine blk_far ?_ NB434_450.out _;(with_reducible repeat (first | refine blk_drewN ?_ _ | refine blk_drew ?_ | refine blk_alloc ?_ _));refine blk_far ?_ NB434_450.out _;(with_reducible repeat (first | refine blk_drewN ?_ _ | refine blk_drew ?_ | refine blk_alloc ?_ _));exact BK434.out⟩,⟨by (with_reducible repeat (first | refine blk_drewN ?_ _ | refine blk_drew ?_ | refine blk_alloc ?_ _));refine blk_far ?_ NB442_450.out _;(with_reducible repeat (first | refine blk_drewN ?_ _ | refine blk_drew ?_ | refine blk_alloc ?_ _));refine blk_far ?_ NB442_450.out _;(with_reducible repeat (first | refine blk_drewN ?_ _ | refine blk_drew ?_ | refine blk_alloc ?_ _));refine blk_far ?_ NB442_450.out _;(with_reducible repeat (first | refine blk_drewN ?_ _ | refine blk_drew ?_ | refine blk_alloc ?_ _));refine blk_far ?_ NB442_450.out _;(with_reducible repeat (first | refine blk_drewN ?_ _ | refine blk_drew ?_ | refine blk_alloc ?_ _));refine blk_far ?_ NB442_450.out _;(with_reducible repeat (first | refine blk_drewN ?_ _ | refine blk_drew ?_ | refine blk_alloc ?_ _));refine blk_far ?_ NB442_450.out _;(with_reducible repeat (first | refine blk_drewN ?_ _ | refine blk_drew ?_ | refine blk_alloc ?_ _));exact BK442.out⟩,⟨hs3 HB GE434 GE442 GE450⟩⟩
      rw [if_neg c13] at H;exact absurd H (by simp)
     replace c12:=Bool.eq_false_iff.mpr c12;subst c12;have H1 : (some (0,0,([] : List (S45)),false)) = some (r1,r2,r3,r4):=by rw [if_neg (show ¬ (false = true) by decide)] at H;exact H
     clear H;have H:=H1;clear H1;simp only [Option.some.injEq,Prod.mk.injEq] at H;obtain ⟨rfl,rfl,rfl,rfl⟩:=H;have hnb22:=NB442_434.out;have hnc22:=NB434_442.out;have hcz23_0 : wr.cell? ⟨gb442,0,none⟩ = some (.int .i64 t435):=(zCl BK442.out 0).trans rfl;have hcz23_1 : wr.cell? ⟨gb442,1,none⟩ = some (.int .i64 t436):=(zCl BK442.out 1).trans rfl;have hcz23_2 : wr.cell? ⟨gb442,2,none⟩ = some (.int .i64 t437):=(zCl BK442.out 2).trans rfl;have hcz23_3 : wr.cell? ⟨gb442,3,none⟩ = some (.int .i64 t438):=(zCl BK442.out 3).trans rfl;have hcz23_4 : wr.cell? ⟨gb442,4,none⟩ = some (.int .i64 t439):=(zCl BK442.out 4).trans rfl;have hcz23_5 : wr.cell? ⟨gb442,5,none⟩ = some (.string t440):=(zCl BK442.out 5).trans rfl;have hfz23_0:=zFr BK442.out 0;have hfz23_1:=zFr BK442.out 1;have hfz23_2:=zFr BK442.out 2;have hfz23_3:=zFr BK442.out 3;have hfz23_4:=zFr BK442.out 4;have hfz23_5:=zFr BK442.out 5;go_wp2_with (first | (go_at_call 55;(with_reducible refine (impl_metaOf.calls k1 _ _ l0 a1 x10_1 t439 t443 t444 t445 t446 t447 t448 false _ ?side1 ?side2 A11.out).mono ?_);(case side1=>repeat (first | exact (Kd.C_below HR0.out HB.out) | (with_reducible refine Kd.C_alloc ?_ _) | (with_reducible refine Kd.C_drewN ?_ _) | (with_reducible refine Kd.C_drew ?_)));(case side2=>exact HC0.out);rintro e w24 ⟨rfl,hb⟩;have n0_:=zMk (blk_below (g:=gb434) (o:=.cells #[.int .i64 x435000_1,.int .i64 x435001_1,.slice none 0 0] 40 (0,0)) (bs BK434) hb);have n1_:=zMk (blk_below (g:=gb442) (o:=.cells #[.int .i64 t435,.int .i64 t436,.int .i64 t437,.int .i64 t438,.int .i64 t439,.string t440] 33 (0,0)) (bs BK442) hb);have n2_:=zMk (below_step (hs2 HB GE434 GE442) hb);clear BK434;clear BK442;clear HB;have BK434:=n0_;have BK442:=n1_;have HB:=n2_;clear n0_ n1_ n2_;(try clear hb);(try clear hb2);(try clear hk);(try clear hi)) | ((with_reducible refine gate_dst (N:=11) rfl ?_);refine box_event ?hg (N:=11) ?hd (cs:=#[.int .i64 0,.int .i64 0,.int .i64 0,.int .i64 0,.int .i64 0,.string (⟨#[]⟩ : ByteArray)]) (t:=33) ?hr ?_;(case hd=>rfl);(case hg=>rfl);(case hr=>first | (go_simp;done) | (go_simp;rfl));intro gb450 hg w25 hbox hb;have n0_:=zMk (blk_below (g:=gb434) (o:=.cells #[.int .i64 x435000_1,.int .i64 x435001_1,.slice none 0 0] 40 (0,0)) (bs BK434) hb);have n1_:=zMk (blk_below (g:=gb442) (o:=.cells #[.int .i64 t435,.int .i64 t436,.int .i64 t437,.int .i64 t438,.int .i64 t439,.string t440] 33 (0,0)) (bs BK442) hb);have n2_:=zMk (below_step (hs2 HB GE434 GE442) hb);have n3_:=zMk (hbox);have n4_:=zMk ((by rw [hg];exact (below_size (hs2 HB GE434 GE442)) : w.heap.size ≤ gb450));have n5_:=zMk ((by rw [hg];exact (below_size (hs2 HB GE434 GE442)) : w.heap.size ≤ gb450));have n6_:=zMk ((by rw [hg];exact Nat.ne_of_lt (blk_lt (g:=gb434) (o:=.cells #[.int .i64 x435000_1,.int .i64 x435001_1,.slice none 0 0] 40 (0,0)) (bs BK434)) : gb434 ≠ gb450));have n7_:=zMk ((by rw [hg];exact Nat.ne_of_gt (blk_lt (g:=gb434) (o:=.cells #[.int .i64 x435000_1,.int .i64 x435001_1,.slice none 0 0] 40 (0,0)) (bs BK434)) : gb450 ≠ gb434));have n8_:=zMk ((by rw [hg];exact Nat.ne_of_lt (blk_lt (g:=gb442) (o:=.cells #[.int .i64 t435,.int .i64 t436,.int .i64 t437,.int .i64 t438,.int .i64 t439,.string t440] 33 (0,0)) (bs BK442)) : gb442 ≠ gb450));have n9_:=zMk ((by rw [hg];exact Nat.ne_of_gt (blk_lt (g:=gb442) (o:=.cells #[.int .i64 t435,.int .i64 t436,.int .i64 t437,.int .i64 t438,.int .i64 t439,.string t440] 33 (0,0)) (bs BK442)) : gb450 ≠ gb442));clear BK434;clear BK442;clear HB;have BK434:=n0_;have BK442:=n1_;have HB:=n2_;have BK450:=n3_;have GW450:=n4_;have GE450:=n5_;have NB434_450:=n6_;have NB450_434:=n7_;have NB442_450:=n8_;have NB450_442:=n9_;clear n0_ n1_ n2_ n3_ n4_ n5_ n6_ n7_ n8_ n9_;clear hb hbox hg;have hnb26:=NB450_434.out;have hnc26:=NB434_450.out;have hnb27:=NB450_442.out;have hnc27:=NB442_450.out;have hcz28_0 : w25.cell? ⟨gb450,0,none⟩ = some (.int .i64 0):=(zCl BK450.out 0).trans rfl;have hcz28_1 : w25.cell? ⟨gb450,1,none⟩ = some (.int .i64 0):=(zCl BK450.out 1).trans rfl;have hcz28_2 : w25.cell? ⟨gb450,2,none⟩ = some (.int .i64 0):=(zCl BK450.out 2).trans rfl;have hcz28_3 : w25.cell? ⟨gb450,3,none⟩ = some (.int .i64 0):=(zCl BK450.out 3).trans rfl;have hcz28_4 : w25.cell? ⟨gb450,4,none⟩ = some (.int .i64 0):=(zCl BK450.out 4).trans rfl;have hcz28_5 : w25.cell? ⟨gb450,5,none⟩ = some (.string (⟨#[]⟩ : ByteArray)):=(zCl BK450.out 5).trans rfl;have hfz28_0:=zFr BK450.out 0;have hfz28_1:=zFr BK450.out 1;have hfz28_2:=zFr BK450.out 2;have hfz28_3:=zFr BK450.out 3;have hfz28_4:=zFr BK450.out 4;have hfz28_5:=zFr BK450.out 5;have hcz29_0 : w25.cell? ⟨gb434,0,none⟩ = some (.int .i64 x435000_1):=(zCl BK434.out 0).trans rfl;have hcz29_1 : w25.cell? ⟨gb434,1,none⟩ = some (.int .i64 x435001_1):=(zCl BK434.out 1).trans rfl;have hcz29_2 : w25.cell? ⟨gb434,2,none⟩ = some (.slice none 0 0):=(zCl BK434.out 2).trans rfl;have hfz29_0:=zFr BK434.out 0;have hfz29_1:=zFr BK434.out 1;have hfz29_2:=zFr BK434.out 2))
     repeat (go_quiet (first | (go_at_call 55;(with_reducible refine (impl_metaOf.calls k1 _ _ l0 a1 x10_1 t439 t443 t444 t445 t446 t447 t448 false _ ?side1 ?side2 A11.out).mono ?_);(case side1=>repeat (first | exact (Kd.C_below HR0.out HB.out) | (with_reducible refine Kd.C_alloc ?_ _) | (with_reducible refine Kd.C_drewN ?_ _) | (with_reducible refine Kd.C_drew ?_)));(case side2=>exact HC0.out);rintro e w24 ⟨rfl,hb⟩;have n0_:=zMk (blk_below (g:=gb434) (o:=.cells #[.int .i64 x435000_1,.int .i64 x435001_1,.slice none 0 0] 40 (0,0)) (bs BK434) hb);have n1_:=zMk (blk_below (g:=gb442) (o:=.cells #[.int .i64 t435,.int .i64 t436,.int .i64 t437,.int .i64 t438,.int .i64 t439,.string t440] 33 (0,0)) (bs BK442) hb);have n2_:=zMk (below_step (hs2 HB GE434 GE442) hb);clear BK434;clear BK442;clear HB;have BK434:=n0_;have BK442:=n1_;have HB:=n2_;clear n0_ n1_ n2_;(try clear hb);(try clear hb2);(try clear hk);(try clear hi)) | ((with_reducible refine gate_dst (N:=11) rfl ?_);refine box_event ?hg (N:=11) ?hd (cs:=#[.int .i64 0,.int .i64 0,.int .i64 0,.int .i64 0,.int .i64 0,.string (⟨#[]⟩ : ByteArray)]) (t:=33) ?hr ?_;(case hd=>rfl);(case hg=>rfl);(case hr=>first | (go_simp;done) | (go_simp;rfl));intro gb450 hg w25 hbox hb;have n0_:=zMk (blk_below (g:=gb434) (o:=.cells #[.int .i64 x435000_1,.int .i64 x435001_1,.slice none 0 0] 40 (0,0)) (bs BK434) hb);have n1_:=zMk (blk_below (g:=gb442) (o:=.cells #[.int .i64 t435,.int .i64 t436,.int .i64 t437,.int .i64 t438,.int .i64 t439,.string t440] 33 (0,0)) (bs BK442) hb);have n2_:=zMk (below_step (hs2 HB GE434 GE442) hb);have n3_:=zMk (hbox);have n4_:=zMk ((by rw [hg];exact (below_size (hs2 HB GE434 GE442)) : w.heap.size ≤ gb450));have n5_:=zMk ((by rw [hg];exact (below_size (hs2 HB GE434 GE442)) : w.heap.size ≤ gb450));have n6_:=zMk ((by rw [hg];exact Nat.ne_of_lt (blk_lt (g:=gb434) (o:=.cells #[.int .i64 x435000_1,.int .i64 x435001_1,.slice none 0 0] 40 (0,0)) (bs BK434)) : gb434 ≠ gb450));have n7_:=zMk ((by rw [hg];exact Nat.ne_of_gt (blk_lt (g:=gb434) (o:=.cells #[.int .i64 x435000_1,.int .i64 x435001_1,.slice none 0 0] 40 (0,0)) (bs BK434)) : gb450 ≠ gb434));have n8_:=zMk ((by rw [hg];exact Nat.ne_of_lt (blk_lt (g:=gb442) (o:=.cells #[.int .i64 t435,.int .i64 t436,.int .i64 t437,.int .i64 t438,.int .i64 t439,.string t440] 33 (0,0)) (bs BK442)) : gb442 ≠ gb450));have n9_:=zMk ((by rw [hg];exact Nat.ne_of_gt (blk_lt (g:=gb442) (o:=.cells #[.int .i64 t435,.int .i64 t436,.int .i64 t437,.int .i64 t438,.int .i64 t439,.string t440] 33 (0,0)) (bs BK442)) : gb450 ≠ gb442));clear BK434;clear BK442;clear HB;have BK434:=n0_;have BK442:=n1_;have HB:=n2_;have BK450:=n3_;have GW450:=n4_;have GE450:=n5_;have NB434_450:=n6_;have NB450_434:=n7_;have NB442_450:=n8_;have NB450_442:=n9_;clear n0_ n1_ n2_ n3_ n4_ n5_ n6_ n7_ n8_ n9_;clear hb hbox hg;have hnb26:=NB450_434.out;have hnc26:=NB434_450.out;have hnb27:=NB450_442.out;have hnc27:=NB442_450.out;have hcz28_0 : w25.cell? ⟨gb450,0,none⟩ = some (.int .i64 0):=(zCl BK450.out 0).trans rfl;have hcz28_1 : w25.cell? ⟨gb450,1,none⟩ = some (.int .i64 0):=(zCl BK450.out 1).trans rfl;have hcz28_2 : w25.cell? ⟨gb450,2,none⟩ = some (.int .i64 0):=(zCl BK450.out 2).trans rfl;have hcz28_3 : w25.cell? ⟨gb450,3,none⟩ = some (.int .i64 0):=(zCl BK450.out 3).trans rfl;have hcz28_4 : w25.cell? ⟨gb450,4,none⟩ = some (.int .i64 0):=(zCl BK450.out 4).trans rfl;have hcz28_5 : w25.cell? ⟨gb450,5,none⟩ = some (.string (⟨#[]⟩ : ByteArray)):=(zCl BK450.out 5).trans rfl;have hfz28_0:=zFr BK450.out 0;have hfz28_1:=zFr BK450.out 1;have hfz28_2:=zFr BK450.out 2;have hfz28_3:=zFr BK450.out 3;have hfz28_4:=zFr BK450.out 4;have hfz28_5:=zFr BK450.out 5;have hcz29_0 : w25.cell? ⟨gb434,0,none⟩ = some (.int .i64 x435000_1):=(zCl BK434.out 0).trans rfl;have hcz29_1 : w25.cell? ⟨gb434,1,none⟩ = some (.int .i64 x435001_1):=(zCl BK434.out 1).trans rfl;have hcz29_2 : w25.cell? ⟨gb434,2,none⟩ = some (.slice none 0 0):=(zCl BK434.out 2).trans rfl;have hfz29_0:=zFr BK434.out 0;have hfz29_1:=zFr BK434.out 1;have hfz29_2:=zFr BK434.out 2));try go_wp2_with (first | (go_at_call 55;(with_reducible refine (impl_metaOf.calls k1 _ _ l0 a1 x10_1 t439 t443 t444 t445 t446 t447 t448 false _ ?side1 ?side2 A11.out).mono ?_);(case side1=>repeat (first | exact (Kd.C_below HR0.out HB.out) | (with_reducible refine Kd.C_alloc ?_ _) | (with_reducible refine Kd.C_drewN ?_ _) | (with_reducible refine Kd.C_drew ?_)));(case side2=>exact HC0.out);rintro e w24 ⟨rfl,hb⟩;have n0_:=zMk (blk_below (g:=gb434) (o:=.cells #[.int .i64 x435000_1,.int .i64 x435001_1,.slice none 0 0] 40 (0,0)) (bs BK434) hb);have n1_:=zMk (blk_below (g:=gb442) (o:=.cells #[.int .i64 t435,.int .i64 t436,.int .i64 t437,.int .i64 t438,.int .i64 t439,.string t440] 33 (0,0)) (bs BK442) hb);have n2_:=zMk (below_step (hs2 HB GE434 GE442) hb);clear BK434;clear BK442;clear HB;have BK434:=n0_;have BK442:=n1_;have HB:=n2_;clear n0_ n1_ n2_;(try clear hb);(try clear hb2);(try clear hk);(try clear hi)) | ((with_reducible refine gate_dst (N:=11) rfl ?_);refine box_event ?hg (N:=11) ?hd (cs:=#[.int .i64 0,.int .i64 0,.int .i64 0,.int .i64 0,.int .i64 0,.string (⟨#[]⟩ : ByteArray)]) (t:=33) ?hr ?_;(case hd=>rfl);(case hg=>rfl);(case hr=>first | (go_simp;done) | (go_simp;rfl));intro gb450 hg w25 hbox hb;have n0_:=zMk (blk_below (g:=gb434) (o:=.cells #[.int .i64 x435000_1,.int .i64 x435001_1,.slice none 0 0] 40 (0,0)) (bs BK434) hb);have n1_:=zMk (blk_below (g:=gb442) (o:=.cells #[.int .i64 t435,.int .i64 t436,.int .i64 t437,.int .i64 t438,.int .i64 t439,.string t440] 33 (0,0)) (bs BK442) hb);have n2_:=zMk (below_step (hs2 HB GE434 GE442) hb);have n3_:=zMk (hbox);have n4_:=zMk ((by rw [hg];exact (below_size (hs2 HB GE434 GE442)) : w.heap.size ≤ gb450));have n5_:=zMk ((by rw [hg];exact (below_size (hs2 HB GE434 GE442)) : w.heap.size ≤ gb450));have n6_:=zMk ((by rw [hg];exact Nat.ne_of_lt (blk_lt (g:=gb434) (o:=.cells #[.int .i64 x435000_1,.int .i64 x435001_1,.slice none 0 0] 40 (0,0)) (bs BK434)) : gb434 ≠ gb450));have n7_:=zMk ((by rw [hg];exact Nat.ne_of_gt (blk_lt (g:=gb434) (o:=.cells #[.int .i64 x435000_1,.int .i64 x435001_1,.slice none 0 0] 40 (0,0)) (bs BK434)) : gb450 ≠ gb434));have n8_:=zMk ((by rw [hg];exact Nat.ne_of_lt (blk_lt (g:=gb442) (o:=.cells #[.int .i64 t435,.int .i64 t436,.int .i64 t437,.int .i64 t438,.int .i64 t439,.string t440] 33 (0,0)) (bs BK442)) : gb442 ≠ gb450));have n9_:=zMk ((by rw [hg];exact Nat.ne_of_gt (blk_lt (g:=gb442) (o:=.cells #[.int .i64 t435,.int .i64 t436,.int .i64 t437,.int .i64 t438,.int .i64 t439,.string t440] 33 (0,0)) (bs BK442)) : gb450 ≠ gb442));clear BK434;clear BK442;clear HB;have BK434:=n0_;have BK442:=n1_;have HB:=n2_;have BK450:=n3_;have GW450:=n4_;have GE450:=n5_;have NB434_450:=n6_;have NB450_434:=n7_;have NB442_450:=n8_;have NB450_442:=n9_;clear n0_ n1_ n2_ n3_ n4_ n5_ n6_ n7_ n8_ n9_;clear hb hbox hg;have hnb26:=NB450_434.out;have hnc26:=NB434_450.out;have hnb27:=NB450_442.out;have hnc27:=NB442_450.out;have hcz28_0 : w25.cell? ⟨gb450,0,none⟩ = some (.int .i64 0):=(zCl BK450.out 0).trans rfl;have hcz28_1 : w25.cell? ⟨gb450,1,none⟩ = some (.int .i64 0):=(zCl BK450.out 1).trans rfl;have hcz28_2 : w25.cell? ⟨gb450,2,none⟩ = some (.int .i64 0):=(zCl BK450.out 2).trans rfl;have hcz28_3 : w25.cell? ⟨gb450,3,none⟩ = some (.int .i64 0):=(zCl BK450.out 3).trans rfl;have hcz28_4 : w25.cell? ⟨gb450,4,none⟩ = some (.int .i64 0):=(zCl BK450.out 4).trans rfl;have hcz28_5 : w25.cell? ⟨gb450,5,none⟩ = some (.string (⟨#[]⟩ : ByteArray)):=(zCl BK450.out 5).trans rfl;have hfz28_0:=zFr BK450.out 0;have hfz28_1:=zFr BK450.out 1;have hfz28_2:=zFr BK450.out 2;have hfz28_3:=zFr BK450.out 3;have hfz28_4:=zFr BK450.out 4;have hfz28_5:=zFr BK450.out 5;have hcz29_0 : w25.cell? ⟨gb434,0,none⟩ = some (.int .i64 x435000_1):=(zCl BK434.out 0).trans rfl;have hcz29_1 : w25.cell? ⟨gb434,1,none⟩ = some (.int .i64 x435001_1):=(zCl BK434.out 1).trans rfl;have hcz29_2 : w25.cell? ⟨gb434,2,none⟩ = some (.slice none 0 0):=(zCl BK434.out 2).trans rfl;have hfz29_0:=zFr BK434.out 0;have hfz29_1:=zFr BK434.out 1;have hfz29_2:=zFr BK434.out 2)))
     refine bodyPost_ret (results_ct rfl _ _ gb434 40 #[.int .i64 0,.int .i64 0,.slice none 0 0] (0,0) _ rfl (by (with_reducible repeat (first | refine blk_drewN ?_ _ | refine blk_drew ?_ | refine blk_alloc ?_ _));refine blk_put (cs:=#[.int .i64 0,.int .i64 0,.slice none 0 0]) ?_ 2 _ rfl;(with_reducible repeat (first | refine blk_drewN ?_ _ | refine blk_drew ?_ | refine blk_alloc ?_ _));refine blk_put (cs:=#[.int .i64 0,.int .i64 x435001_1,.slice none 0 0]) ?_ 1 _ rfl;(with_reducible repeat (first | refine blk_drewN ?_ _ | refine blk_drew ?_ | refine blk_alloc ?_ _));refine blk_put (cs:=#[.int .i64 x435000_1,.int .i64 x435001_1,.slice none 0 0]) ?_ 0 _ rfl;(with_reducible repeat (first | refine blk_drewN ?_ _ | refine blk_drew ?_ | refine blk_alloc ?_ _));refine blk_far ?_ NB434_450.out _;(with_reducible repeat (first | refine blk_drewN ?_ _ | refine blk_drew ?_ | refine blk_alloc ?_ _));refine blk_far ?_ NB434_450.out _;(with_reducible repeat (first | refine blk_drewN ?_ _ | refine blk_drew ?_ | refine blk_alloc ?_ _));refine blk_far ?_ NB434_450.out _;(with_reducible repeat (first | refine blk_drewN ?_ _ | refine blk_drew ?_ | refine blk_alloc ?_ _));refine blk_far ?_ NB434_450.out _;(with_reducible repeat (first | refine blk_drewN ?_ _ | refine blk_drew ?_ | refine blk_alloc ?_ _));refine blk_far ?_ NB434_450.out _;(with_reducible repeat (first | refine blk_drewN ?_ _ | refine blk_drew ?_ | refine blk_alloc ?_ _));refine blk_far ?_ NB434_450.out _;(with_reducible repeat (first | refine blk_drewN ?_ _ | refine blk_drew ?_ | refine blk_alloc ?_ _));exact BK434.out) Try.underlying40 rfl (by kernel_rfl)) rfl ?_;exact ⟨_,by first | rfl | (simp [errW_none,errW_some] <;> rfl) | (simp [*,errW_none,errW_some] <;> rfl),by first | exact Kd.R_nil _ _ _ _ _ | exact Kd.N_nil _ _ _ _ _ | exact Kd.V_nil _ _ _ _ _ | exact Kd.Q_nil _ _ _ _ _ | exact Kd.S_nil _ _ _ _ _,hs3 HB GE434 GE442 GE450⟩
    rw [if_neg c10] at H;have c10b0 : decide (x10_1 < t439) = false:=decide_eq_false c10;clear c10;replace H:=Option.bind_eq_some_iff.mp H;obtain ⟨⟨t451,t452⟩,A300,H⟩:=H;replace H : (some (a1,x9_1,t451,t452)) = some (r1,r2,r3,r4):=H;have A30:=zMk A300;clear A300;simp only [Option.some.injEq,Prod.mk.injEq] at H;obtain ⟨rfl,rfl,rfl,rfl⟩:=H;have hnb31:=NB442_434.out;have hnc31:=NB434_442.out;have hcz32_0 : wr.cell? ⟨gb442,0,none⟩ = some (.int .i64 t435):=(zCl BK442.out 0).trans rfl;have hcz32_1 : wr.cell? ⟨gb442,1,none⟩ = some (.int .i64 t436):=(zCl BK442.out 1).trans rfl;have hcz32_2 : wr.cell? ⟨gb442,2,none⟩ = some (.int .i64 t437):=(zCl BK442.out 2).trans rfl;have hcz32_3 : wr.cell? ⟨gb442,3,none⟩ = some (.int .i64 t438):=(zCl BK442.out 3).trans rfl;have hcz32_4 : wr.cell? ⟨gb442,4,none⟩ = some (.int .i64 t439):=(zCl BK442.out 4).trans rfl;have hcz32_5 : wr.cell? ⟨gb442,5,none⟩ = some (.string t440):=(zCl BK442.out 5).trans rfl;have hfz32_0:=zFr BK442.out 0;have hfz32_1:=zFr BK442.out 1;have hfz32_2:=zFr BK442.out 2;have hfz32_3:=zFr BK442.out 3;have hfz32_4:=zFr BK442.out 4;have hfz32_5:=zFr BK442.out 5;go_wp2_with (first | (go_at_call 56;(with_reducible refine (impl_ReadRecs.calls k1 x8_1 t451 t452 _ A30.out).mono ?_);rintro e w33 ⟨v453,rfl,ho0,hb⟩;have n0_:=zMk (Kd.R_lower ho0 (below_size (hs2 HB GE434 GE442)));have n1_:=zMk (blk_below (g:=gb434) (o:=.cells #[.int .i64 x435000_1,.int .i64 x435001_1,.slice none 0 0] 40 (0,0)) (bs BK434) hb);have n2_:=zMk (blk_below (g:=gb442) (o:=.cells #[.int .i64 t435,.int .i64 t436,.int .i64 t437,.int .i64 t438,.int .i64 t439,.string t440] 33 (0,0)) (bs BK442) hb);have n3_:=zMk (below_step (hs2 HB GE434 GE442) hb);clear BK434;clear BK442;clear HB;have HO454:=n0_;have BK434:=n1_;have BK442:=n2_;have HB:=n3_;clear n0_ n1_ n2_ n3_;(try clear hb);(try clear hb2);(try clear hk);(try clear hi);(try clear ho0);obtain ⟨Ao34,co34,eo34⟩:=Kd.R_slice HO454.out;subst eo34;have hcz35_0 : w33.cell? ⟨gb434,0,none⟩ = some (.int .i64 x435000_1):=(zCl BK434.out 0).trans rfl;have hcz35_1 : w33.cell? ⟨gb434,1,none⟩ = some (.int .i64 x435001_1):=(zCl BK434.out 1).trans rfl;have hcz35_2 : w33.cell? ⟨gb434,2,none⟩ = some (.slice none 0 0):=(zCl BK434.out 2).trans rfl;have hfz35_0:=zFr BK434.out 0;have hfz35_1:=zFr BK434.out 1;have hfz35_2:=zFr BK434.out 2))
    repeat (go_quiet (first | (go_at_call 56;(with_reducible refine (impl_ReadRecs.calls k1 x8_1 t451 t452 _ A30.out).mono ?_);rintro e w33 ⟨v453,rfl,ho0,hb⟩;have n0_:=zMk (Kd.R_lower ho0 (below_size (hs2 HB GE434 GE442)));have n1_:=zMk (blk_below (g:=gb434) (o:=.cells #[.int .i64 x435000_1,.int .i64 x435001_1,.slice none 0 0] 40 (0,0)) (bs BK434) hb);have n2_:=zMk (blk_below (g:=gb442) (o:=.cells #[.int .i64 t435,.int .i64 t436,.int .i64 t437,.int .i64 t438,.int .i64 t439,.string t440] 33 (0,0)) (bs BK442) hb);have n3_:=zMk (below_step (hs2 HB GE434 GE442) hb);clear BK434;clear BK442;clear HB;have HO454:=n0_;have BK434:=n1_;have BK442:=n2_;have HB:=n3_;clear n0_ n1_ n2_ n3_;(try clear hb);(try clear hb2);(try clear hk);(try clear hi);(try clear ho0);obtain ⟨Ao34,co34,eo34⟩:=Kd.R_slice HO454.out;subst eo34;have hcz35_0 : w33.cell? ⟨gb434,0,none⟩ = some (.int .i64 x435000_1):=(zCl BK434.out 0).trans rfl;have hcz35_1 : w33.cell? ⟨gb434,1,none⟩ = some (.int .i64 x435001_1):=(zCl BK434.out 1).trans rfl;have hcz35_2 : w33.cell? ⟨gb434,2,none⟩ = some (.slice none 0 0):=(zCl BK434.out 2).trans rfl;have hfz35_0:=zFr BK434.out 0;have hfz35_1:=zFr BK434.out 1;have hfz35_2:=zFr BK434.out 2));try go_wp2_with (first | (go_at_call 56;(with_reducible refine (impl_ReadRecs.calls k1 x8_1 t451 t452 _ A30.out).mono ?_);rintro e w33 ⟨v453,rfl,ho0,hb⟩;have n0_:=zMk (Kd.R_lower ho0 (below_size (hs2 HB GE434 GE442)));have n1_:=zMk (blk_below (g:=gb434) (o:=.cells #[.int .i64 x435000_1,.int .i64 x435001_1,.slice none 0 0] 40 (0,0)) (bs BK434) hb);have n2_:=zMk (blk_below (g:=gb442) (o:=.cells #[.int .i64 t435,.int .i64 t436,.int .i64 t437,.int .i64 t438,.int .i64 t439,.string t440] 33 (0,0)) (bs BK442) hb);have n3_:=zMk (below_step (hs2 HB GE434 GE442) hb);clear BK434;clear BK442;clear HB;have HO454:=n0_;have BK434:=n1_;have BK442:=n2_;have HB:=n3_;clear n0_ n1_ n2_ n3_;(try clear hb);(try clear hb2);(try clear hk);(try clear hi);(try clear ho0);obtain ⟨Ao34,co34,eo34⟩:=Kd.R_slice HO454.out;subst eo34;have hcz35_0 : w33.cell? ⟨gb434,0,none⟩ = some (.int .i64 x435000_1):=(zCl BK434.out 0).trans rfl;have hcz35_1 : w33.cell? ⟨gb434,1,none⟩ = some (.int .i64 x435001_1):=(zCl BK434.out 1).trans rfl;have hcz35_2 : w33.cell? ⟨gb434,2,none⟩ = some (.slice none 0 0):=(zCl BK434.out 2).trans rfl;have hfz35_0:=zFr BK434.out 0;have hfz35_1:=zFr BK434.out 1;have hfz35_2:=zFr BK434.out 2)))
    refine bodyPost_ret (results_ct rfl _ _ gb434 40 #[.int .i64 a1,.int .i64 x9_1,.slice Ao34 t451.length co34] (0,0) _ rfl (by (with_reducible repeat (first | refine blk_drewN ?_ _ | refine blk_drew ?_ | refine blk_alloc ?_ _));refine blk_put (cs:=#[.int .i64 a1,.int .i64 x9_1,.slice none 0 0]) ?_ 2 _ rfl;(with_reducible repeat (first | refine blk_drewN ?_ _ | refine blk_drew ?_ | refine blk_alloc ?_ _));refine blk_put (cs:=#[.int .i64 a1,.int .i64 x435001_1,.slice none 0 0]) ?_ 1 _ rfl;(with_reducible repeat (first | refine blk_drewN ?_ _ | refine blk_drew ?_ | refine blk_alloc ?_ _));refine blk_put (cs:=#[.int .i64 x435000_1,.int .i64 x435001_1,.slice none 0 0]) ?_ 0 _ rfl;(with_reducible repeat (first | refine blk_drewN ?_ _ | refine blk_drew ?_ | refine blk_alloc ?_ _));exact BK434.out) Try.underlying40 rfl (by kernel_rfl)) rfl ?_;exact ⟨_,by first | rfl | (simp [errW_none,errW_some] <;> rfl) | (simp [*,errW_none,errW_some] <;> rfl),by (with_reducible repeat (first | apply Kd.R_alloc | apply Kd.R_drewN | apply Kd.R_drew));exact Kd.R_mono (Kd.R_far (p:=⟨gb434,2,none⟩) (Kd.R_far (p:=⟨gb434,1,none⟩) (Kd.R_far (p:=⟨gb434,0,none⟩) (Kd.R_types HO454.out BK434.out (by decide)) (fun _ hk=>hk.2) (.int .i64 a1)) (fun _ hk=>hk.2) (.int .i64 x9_1)) (fun _ hk=>hk.2) (.slice Ao34 t451.length co34)) (fun _ hk=>trivial),hs2 HB GE434 GE442⟩
 replace c4:=Bool.eq_false_iff.mpr c4;subst c4;have H1 : (some (0,0,([] : List (S45)),false)) = some (r1,r2,r3,r4):=by rw [if_neg (show ¬ (false = true) by decide)] at H;exact H
 clear H;have H:=H1;clear H1;simp only [Option.some.injEq,Prod.mk.injEq] at H;obtain ⟨rfl,rfl,rfl,rfl⟩:=H
 go_enter Try.func37,Try.ntmps37
 go_wp2_with (first | ((with_reducible refine gate_dst (N:=4) rfl ?_);refine box_event ?hg (N:=4) ?hd (cs:=#[.int .i64 0,.int .i64 0,.slice none 0 0]) (t:=40) ?hr ?_;(case hd=>rfl);(case hg=>rfl);(case hr=>first | (go_simp;done) | (go_simp;rfl));intro gb434 hg w36 hbox hb;have n0_:=zMk (below_step (hs HB) hb);have n1_:=zMk (hbox);have n2_:=zMk ((by rw [hg];exact (below_size (hs HB)) : w.heap.size ≤ gb434));have n3_:=zMk ((by rw [hg];exact (below_size (hs HB)) : w.heap.size ≤ gb434));clear HB;have HB:=n0_;have BK434:=n1_;have GW434:=n2_;have GE434:=n3_;clear n0_ n1_ n2_ n3_;clear hb hbox hg) | (go_at_call 55;(with_reducible refine (impl_metaOf.calls k _ _ l0 a1 0 0 t435 t436 t437 t438 t439 t440 false _ ?side1 ?side2 A3.out).mono ?_);(case side1=>repeat (first | exact (Kd.C_below HR0.out HB.out) | (with_reducible refine Kd.C_alloc ?_ _) | (with_reducible refine Kd.C_drewN ?_ _) | (with_reducible refine Kd.C_drew ?_)));(case side2=>exact HC0.out);rintro e w37 ⟨rfl,hb⟩;have n0_:=zMk (blk_below (g:=gb434) (o:=.cells #[.int .i64 0,.int .i64 0,.slice none 0 0] 40 (0,0)) (bs BK434) hb);have n1_:=zMk (below_step (hs1 HB GE434) hb);clear BK434;clear HB;have BK434:=n0_;have HB:=n1_;clear n0_ n1_;(try clear hb);(try clear hb2);(try clear hk);(try clear hi)) | ((with_reducible refine gate_dst (N:=6) rfl ?_);refine box_event ?hg (N:=6) ?hd (cs:=#[.int .i64 0,.int .i64 0,.int .i64 0,.int .i64 0,.int .i64 0,.string (⟨#[]⟩ : ByteArray)]) (t:=33) ?hr ?_;(case hd=>rfl);(case hg=>rfl);(case hr=>first | (go_simp;done) | (go_simp;rfl));intro gb442 hg w38 hbox hb;have n0_:=zMk (blk_below (g:=gb434) (o:=.cells #[.int .i64 0,.int .i64 0,.slice none 0 0] 40 (0,0)) (bs BK434) hb);have n1_:=zMk (below_step (hs1 HB GE434) hb);have n2_:=zMk (hbox);have n3_:=zMk ((by rw [hg];exact (below_size (hs1 HB GE434)) : w.heap.size ≤ gb442));have n4_:=zMk ((by rw [hg];exact (below_size (hs1 HB GE434)) : w.heap.size ≤ gb442));have n5_:=zMk ((by rw [hg];exact Nat.ne_of_lt (blk_lt (g:=gb434) (o:=.cells #[.int .i64 0,.int .i64 0,.slice none 0 0] 40 (0,0)) (bs BK434)) : gb434 ≠ gb442));have n6_:=zMk ((by rw [hg];exact Nat.ne_of_gt (blk_lt (g:=gb434) (o:=.cells #[.int .i64 0,.int .i64 0,.slice none 0 0] 40 (0,0)) (bs BK434)) : gb442 ≠ gb434));clear BK434;clear HB;have BK434:=n0_;have HB:=n1_;have BK442:=n2_;have GW442:=n3_;have GE442:=n4_;have NB434_442:=n5_;have NB442_434:=n6_;clear n0_ n1_ n2_ n3_ n4_ n5_ n6_;clear hb hbox hg;have hnb39:=NB442_434.out;have hnc39:=NB434_442.out;have hcz40_0 : w38.cell? ⟨gb442,0,none⟩ = some (.int .i64 0):=(zCl BK442.out 0).trans rfl;have hcz40_1 : w38.cell? ⟨gb442,1,none⟩ = some (.int .i64 0):=(zCl BK442.out 1).trans rfl;have hcz40_2 : w38.cell? ⟨gb442,2,none⟩ = some (.int .i64 0):=(zCl BK442.out 2).trans rfl;have hcz40_3 : w38.cell? ⟨gb442,3,none⟩ = some (.int .i64 0):=(zCl BK442.out 3).trans rfl;have hcz40_4 : w38.cell? ⟨gb442,4,none⟩ = some (.int .i64 0):=(zCl BK442.out 4).trans rfl;have hcz40_5 : w38.cell? ⟨gb442,5,none⟩ = some (.string (⟨#[]⟩ : ByteArray)):=(zCl BK442.out 5).trans rfl;have hfz40_0:=zFr BK442.out 0;have hfz40_1:=zFr BK442.out 1;have hfz40_2:=zFr BK442.out 2;have hfz40_3:=zFr BK442.out 3;have hfz40_4:=zFr BK442.out 4;have hfz40_5:=zFr BK442.out 5;have hcz41_0 : w38.cell? ⟨gb434,0,none⟩ = some (.int .i64 0):=(zCl BK434.out 0).trans rfl;have hcz41_1 : w38.cell? ⟨gb434,1,none⟩ = some (.int .i64 0):=(zCl BK434.out 1).trans rfl;have hcz41_2 : w38.cell? ⟨gb434,2,none⟩ = some (.slice none 0 0):=(zCl BK434.out 2).trans rfl;have hfz41_0:=zFr BK434.out 0;have hfz41_1:=zFr BK434.out 1;have hfz41_2:=zFr BK434.out 2))
 repeat (go_quiet (first | ((with_reducible refine gate_dst (N:=4) rfl ?_);refine box_event ?hg (N:=4) ?hd (cs:=#[.int .i64 0,.int .i64 0,.slice none 0 0]) (t:=40) ?hr ?_;(case hd=>rfl);(case hg=>rfl);(case hr=>first | (go_simp;done) | (go_simp;rfl));intro gb434 hg w36 hbox hb;have n0_:=zMk (below_step (hs HB) hb);have n1_:=zMk (hbox);have n2_:=zMk ((by rw [hg];exact (below_size (hs HB)) : w.heap.size ≤ gb434));have n3_:=zMk ((by rw [hg];exact (below_size (hs HB)) : w.heap.size ≤ gb434));clear HB;have HB:=n0_;have BK434:=n1_;have GW434:=n2_;have GE434:=n3_;clear n0_ n1_ n2_ n3_;clear hb hbox hg) | (go_at_call 55;(with_reducible refine (impl_metaOf.calls k _ _ l0 a1 0 0 t435 t436 t437 t438 t439 t440 false _ ?side1 ?side2 A3.out).mono ?_);(case side1=>repeat (first | exact (Kd.C_below HR0.out HB.out) | (with_reducible refine Kd.C_alloc ?_ _) | (with_reducible refine Kd.C_drewN ?_ _) | (with_reducible refine Kd.C_drew ?_)));(case side2=>exact HC0.out);rintro e w37 ⟨rfl,hb⟩;have n0_:=zMk (blk_below (g:=gb434) (o:=.cells #[.int .i64 0,.int .i64 0,.slice none 0 0] 40 (0,0)) (bs BK434) hb);have n1_:=zMk (below_step (hs1 HB GE434) hb);clear BK434;clear HB;have BK434:=n0_;have HB:=n1_;clear n0_ n1_;(try clear hb);(try clear hb2);(try clear hk);(try clear hi)) | ((with_reducible refine gate_dst (N:=6) rfl ?_);refine box_event ?hg (N:=6) ?hd (cs:=#[.int .i64 0,.int .i64 0,.int .i64 0,.int .i64 0,.int .i64 0,.string (⟨#[]⟩ : ByteArray)]) (t:=33) ?hr ?_;(case hd=>rfl);(case hg=>rfl);(case hr=>first | (go_simp;done) | (go_simp;rfl));intro gb442 hg w38 hbox hb;have n0_:=zMk (blk_below (g:=gb434) (o:=.cells #[.int .i64 0,.int .i64 0,.slice none 0 0] 40 (0,0)) (bs BK434) hb);have n1_:=zMk (below_step (hs1 HB GE434) hb);have n2_:=zMk (hbox);have n3_:=zMk ((by rw [hg];exact (below_size (hs1 HB GE434)) : w.heap.size ≤ gb442));have n4_:=zMk ((by rw [hg];exact (below_size (hs1 HB GE434)) : w.heap.size ≤ gb442));have n5_:=zMk ((by rw [hg];exact Nat.ne_of_lt (blk_lt (g:=gb434) (o:=.cells #[.int .i64 0,.int .i64 0,.slice none 0 0] 40 (0,0)) (bs BK434)) : gb434 ≠ gb442));have n6_:=zMk ((by rw [hg];exact Nat.ne_of_gt (blk_lt (g:=gb434) (o:=.cells #[.int .i64 0,.int .i64 0,.slice none 0 0] 40 (0,0)) (bs BK434)) : gb442 ≠ gb434));clear BK434;clear HB;have BK434:=n0_;have HB:=n1_;have BK442:=n2_;have GW442:=n3_;have GE442:=n4_;have NB434_442:=n5_;have NB442_434:=n6_;clear n0_ n1_ n2_ n3_ n4_ n5_ n6_;clear hb hbox hg;have hnb39:=NB442_434.out;have hnc39:=NB434_442.out;have hcz40_0 : w38.cell? ⟨gb442,0,none⟩ = some (.int .i64 0):=(zCl BK442.out 0).trans rfl;have hcz40_1 : w38.cell? ⟨gb442,1,none⟩ = some (.int .i64 0):=(zCl BK442.out 1).trans rfl;have hcz40_2 : w38.cell? ⟨gb442,2,none⟩ = some (.int .i64 0):=(zCl BK442.out 2).trans rfl;have hcz40_3 : w38.cell? ⟨gb442,3,none⟩ = some (.int .i64 0):=(zCl BK442.out 3).trans rfl;have hcz40_4 : w38.cell? ⟨gb442,4,none⟩ = some (.int .i64 0):=(zCl BK442.out 4).trans rfl;have hcz40_5 : w38.cell? ⟨gb442,5,none⟩ = some (.string (⟨#[]⟩ : ByteArray)):=(zCl BK442.out 5).trans rfl;have hfz40_0:=zFr BK442.out 0;have hfz40_1:=zFr BK442.out 1;have hfz40_2:=zFr BK442.out 2;have hfz40_3:=zFr BK442.out 3;have hfz40_4:=zFr BK442.out 4;have hfz40_5:=zFr BK442.out 5;have hcz41_0 : w38.cell? ⟨gb434,0,none⟩ = some (.int .i64 0):=(zCl BK434.out 0).trans rfl;have hcz41_1 : w38.cell? ⟨gb434,1,none⟩ = some (.int .i64 0):=(zCl BK434.out 1).trans rfl;have hcz41_2 : w38.cell? ⟨gb434,2,none⟩ = some (.slice none 0 0):=(zCl BK434.out 2).trans rfl;have hfz41_0:=zFr BK434.out 0;have hfz41_1:=zFr BK434.out 1;have hfz41_2:=zFr BK434.out 2));try go_wp2_with (first | ((with_reducible refine gate_dst (N:=4) rfl ?_);refine box_event ?hg (N:=4) ?hd (cs:=#[.int .i64 0,.int .i64 0,.slice none 0 0]) (t:=40) ?hr ?_;(case hd=>rfl);(case hg=>rfl);(case hr=>first | (go_simp;done) | (go_simp;rfl));intro gb434 hg w36 hbox hb;have n0_:=zMk (below_step (hs HB) hb);have n1_:=zMk (hbox);have n2_:=zMk ((by rw [hg];exact (below_size (hs HB)) : w.heap.size ≤ gb434));have n3_:=zMk ((by rw [hg];exact (below_size (hs HB)) : w.heap.size ≤ gb434));clear HB;have HB:=n0_;have BK434:=n1_;have GW434:=n2_;have GE434:=n3_;clear n0_ n1_ n2_ n3_;clear hb hbox hg) | (go_at_call 55;(with_reducible refine (impl_metaOf.calls k _ _ l0 a1 0 0 t435 t436 t437 t438 t439 t440 false _ ?side1 ?side2 A3.out).mono ?_);(case side1=>repeat (first | exact (Kd.C_below HR0.out HB.out) | (with_reducible refine Kd.C_alloc ?_ _) | (with_reducible refine Kd.C_drewN ?_ _) | (with_reducible refine Kd.C_drew ?_)));(case side2=>exact HC0.out);rintro e w37 ⟨rfl,hb⟩;have n0_:=zMk (blk_below (g:=gb434) (o:=.cells #[.int .i64 0,.int .i64 0,.slice none 0 0] 40 (0,0)) (bs BK434) hb);have n1_:=zMk (below_step (hs1 HB GE434) hb);clear BK434;clear HB;have BK434:=n0_;have HB:=n1_;clear n0_ n1_;(try clear hb);(try clear hb2);(try clear hk);(try clear hi)) | ((with_reducible refine gate_dst (N:=6) rfl ?_);refine box_event ?hg (N:=6) ?hd (cs:=#[.int .i64 0,.int .i64 0,.int .i64 0,.int .i64 0,.int .i64 0,.string (⟨#[]⟩ : ByteArray)]) (t:=33) ?hr ?_;(case hd=>rfl);(case hg=>rfl);(case hr=>first | (go_simp;done) | (go_simp;rfl));intro gb442 hg w38 hbox hb;have n0_:=zMk (blk_below (g:=gb434) (o:=.cells #[.int .i64 0,.int .i64 0,.slice none 0 0] 40 (0,0)) (bs BK434) hb);have n1_:=zMk (below_step (hs1 HB GE434) hb);have n2_:=zMk (hbox);have n3_:=zMk ((by rw [hg];exact (below_size (hs1 HB GE434)) : w.heap.size ≤ gb442));have n4_:=zMk ((by rw [hg];exact (below_size (hs1 HB GE434)) : w.heap.size ≤ gb442));have n5_:=zMk ((by rw [hg];exact Nat.ne_of_lt (blk_lt (g:=gb434) (o:=.cells #[.int .i64 0,.int .i64 0,.slice none 0 0] 40 (0,0)) (bs BK434)) : gb434 ≠ gb442));have n6_:=zMk ((by rw [hg];exact Nat.ne_of_gt (blk_lt (g:=gb434) (o:=.cells #[.int .i64 0,.int .i64 0,.slice none 0 0] 40 (0,0)) (bs BK434)) : gb442 ≠ gb434));clear BK434;clear HB;have BK434:=n0_;have HB:=n1_;have BK442:=n2_;have GW442:=n3_;have GE442:=n4_;have NB434_442:=n5_;have NB442_434:=n6_;clear n0_ n1_ n2_ n3_ n4_ n5_ n6_;clear hb hbox hg;have hnb39:=NB442_434.out;have hnc39:=NB434_442.out;have hcz40_0 : w38.cell? ⟨gb442,0,none⟩ = some (.int .i64 0):=(zCl BK442.out 0).trans rfl;have hcz40_1 : w38.cell? ⟨gb442,1,none⟩ = some (.int .i64 0):=(zCl BK442.out 1).trans rfl;have hcz40_2 : w38.cell? ⟨gb442,2,none⟩ = some (.int .i64 0):=(zCl BK442.out 2).trans rfl;have hcz40_3 : w38.cell? ⟨gb442,3,none⟩ = some (.int .i64 0):=(zCl BK442.out 3).trans rfl;have hcz40_4 : w38.cell? ⟨gb442,4,none⟩ = some (.int .i64 0):=(zCl BK442.out 4).trans rfl;have hcz40_5 : w38.cell? ⟨gb442,5,none⟩ = some (.string (⟨#[]⟩ : ByteArray)):=(zCl BK442.out 5).trans rfl;have hfz40_0:=zFr BK442.out 0;have hfz40_1:=zFr BK442.out 1;have hfz40_2:=zFr BK442.out 2;have hfz40_3:=zFr BK442.out 3;have hfz40_4:=zFr BK442.out 4;have hfz40_5:=zFr BK442.out 5;have hcz41_0 : w38.cell? ⟨gb434,0,none⟩ = some (.int .i64 0):=(zCl BK434.out 0).trans rfl;have hcz41_1 : w38.cell? ⟨gb434,1,none⟩ = some (.int .i64 0):=(zCl BK434.out 1).trans rfl;have hcz41_2 : w38.cell? ⟨gb434,2,none⟩ = some (.slice none 0 0):=(zCl BK434.out 2).trans rfl;have hfz41_0:=zFr BK434.out 0;have hfz41_1:=zFr BK434.out 1;have hfz41_2:=zFr BK434.out 2)))
 refine bodyPost_ret (results_ct rfl _ _ gb434 40 #[.int .i64 0,.int .i64 0,.slice none 0 0] (0,0) _ rfl (by (with_reducible repeat (first | refine blk_drewN ?_ _ | refine blk_drew ?_ | refine blk_alloc ?_ _));refine blk_put (cs:=#[.int .i64 0,.int .i64 0,.slice none 0 0]) ?_ 2 _ rfl;(with_reducible repeat (first | refine blk_drewN ?_ _ | refine blk_drew ?_ | refine blk_alloc ?_ _));refine blk_put (cs:=#[.int .i64 0,.int .i64 0,.slice none 0 0]) ?_ 1 _ rfl;(with_reducible repeat (first | refine blk_drewN ?_ _ | refine blk_drew ?_ | refine blk_alloc ?_ _));refine blk_put (cs:=#[.int .i64 0,.int .i64 0,.slice none 0 0]) ?_ 0 _ rfl;(with_reducible repeat (first | refine blk_drewN ?_ _ | refine blk_drew ?_ | refine blk_alloc ?_ _));refine blk_far ?_ NB434_442.out _;(with_reducible repeat (first | refine blk_drewN ?_ _ | refine blk_drew ?_ | refine blk_alloc ?_ _));refine blk_far ?_ NB434_442.out _;(with_reducible repeat (first | refine blk_drewN ?_ _ | refine blk_drew ?_ | refine blk_alloc ?_ _));refine blk_far ?_ NB434_442.out _;(with_reducible repeat (first | refine blk_drewN ?_ _ | refine blk_drew ?_ | refine blk_alloc ?_ _));refine blk_far ?_ NB434_442.out _;(with_reducible repeat (first | refine blk_drewN ?_ _ | refine blk_drew ?_ | refine blk_alloc ?_ _));refine blk_far ?_ NB434_442.out _;(with_reducible repeat (first | refine blk_drewN ?_ _ | refine blk_drew ?_ | refine blk_alloc ?_ _));refine blk_far ?_ NB434_442.out _;(with_reducible repeat (first | refine blk_drewN ?_ _ | refine blk_drew ?_ | refine blk_alloc ?_ _));exact BK434.out) Try.underlying40 rfl (by kernel_rfl)) rfl ?_;exact ⟨_,by first | rfl | (simp [errW_none,errW_some] <;> rfl) | (simp [*,errW_none,errW_some] <;> rfl),by first | exact Kd.R_nil _ _ _ _ _ | exact Kd.N_nil _ _ _ _ _ | exact Kd.V_nil _ _ _ _ _ | exact Kd.Q_nil _ _ _ _ _ | exact Kd.S_nil _ _ _ _ _,hs2 HB GE434 GE442⟩
end Go.Proofs.Ytodokejcmbjpbaa.PK

/- Rows whose elements' inner rows lie apart: a field of an element stored, and an element's own row written by a call. -/
namespace Go.Proofs.YtodokejcmbjpbaaW.PrintWords
open Go.RowKit
namespace Kd
section
variable {α : Type} {d : Kd α} {e g n cap : Nat} {w W w' : World} {base : Nat} {ok oki : Nat → Prop} {v : Value} {xs : List α} {i : Int} {c : List Value}
/-- One field of element i is stored. -/
theorem S_field (h : S d e W base ok (.slice (some ⟨g, 0, none⟩) n cap) xs) (z : α) (i : Int) (h0 : 0 ≤ i) (h1 : i < n) (j : Nat) (u : Value) (hj : j + [u].length ≤ d.sz) {x' : α}
    (hM : ∀ (okp : Nat → Prop) (c : List Value), d.M W base okp (xs.getD i.toNat z) c → d.M W base okp x' (c.take j ++ [u] ++ c.drop (j + [u].length))) :
    S d e (W.setCell ⟨g, i.toNat * d.sz + j, none⟩ u) base ok (.slice (some ⟨g, 0, none⟩) n cap) (xs.set i.toNat x') ∧ W.grownBy (W.setCell ⟨g, i.toNat * d.sz + j, none⟩ u) (some g) := by
  have hS : S d e W base (fun k => ok k ∧ ¬ (fun _ => False) k) (.slice (some ⟨g, 0, none⟩) n cap) xs := S_mono h (fun k hk => ⟨hk, fun h => h⟩)
  obtain ⟨oki, c, _, hMc, _, _, _, hH⟩ := S_elem hS z i h0 h1
  have r := S_seg (seg := [u]) (j := j) hH h0 h1 hj (hM oki c hMc) (fun _ hk => .inl hk) (fun _ hk => hk.elim)
  exact r
/-- What element i leads to was written by a call that keeps all else. -/
theorem S_called (hH : H d e W base ok v xs i oki c) (hk : Kept W w' oki) {x' : α} (hM : d.M w' base (fun k => oki k ∨ W.heap.size ≤ k) x' c) (hok : ∀ k, W.heap.size ≤ k → ok k) : S d e w' base ok v (xs.set i.toNat x') :=
  H_back (H_kept (H_widen hH) hk (fun _ _ hn hS => hn (.inl hS))) hM (fun k hk => hk.imp id (fun h => ⟨hok k h, h⟩))
/-- Cells of element i are stored; what they lead to is new to the row. -/
theorem S_put (h : S d e W base ok (.slice (some ⟨g, 0, none⟩) n cap) xs) (z : α) (i : Int) (h0 : 0 ≤ i) (h1 : i < n) (j : Nat) (seg : List Value) (hj : j + seg.length ≤ d.sz) {okv : Nat → Prop} (hap : ∀ k, ok k → okv k → False) (hg : ∀ k, okv k → k ≠ g) {x' : α}
    (hM : ∀ (okp : Nat → Prop) (c : List Value), d.M W base okp (xs.getD i.toNat z) c → d.M W base (fun k => okp k ∨ okv k) x' (c.take j ++ seg ++ c.drop (j + seg.length))) :
    S d e (W.setCells g (i.toNat * d.sz + j) seg) base (fun k => ok k ∨ okv k) (.slice (some ⟨g, 0, none⟩) n cap) (xs.set i.toNat x') ∧ W.grownBy (W.setCells g (i.toNat * d.sz + j) seg) (some g) := by
  have hS : S d e W base (fun k => (ok k ∨ okv k) ∧ ¬ okv k) (.slice (some ⟨g, 0, none⟩) n cap) xs := S_mono h (fun k hk => ⟨.inl hk, fun h2 => hap k hk h2⟩)
  obtain ⟨oki, c, _, hMc, _, _, _, hH⟩ := S_elem hS z i h0 h1
  exact S_seg (okg := okv) hH h0 h1 hj (hM oki c hMc) (fun _ hk => hk) (fun k hk => ⟨.inr hk, hg k hk⟩)
/-- Two rows that came at once, of types apart: their blocks are apart. -/
theorem two_apart {β : Type} {d' : Kd β} {e' : Nat} {base' : Nat} {ok' : Nat → Prop} {v' : Value} {ys : List β} (h : d.R e w base ok v xs) (h' : S d' e' w base' ok' v' ys) (ht : ∀ q, q ∈ e :: d.E → ∀ q', q' ∈ e' :: d'.E → q ≠ q') :
    ∃ TA TB : Nat → Prop, (∀ k, TA k → TB k → False) ∧ d.R e w base (fun k => (base ≤ k ∧ k < w.heap.size) ∧ TA k) v xs ∧ S d' e' w base' (fun k => (base' ≤ k ∧ k < w.heap.size) ∧ TB k) v' ys := by
  refine ⟨fun k => ∃ q, q ∈ e :: d.E ∧ ∃ cells, w.heap[k]? = some (.cells cells q (0, 0)), fun k => ∃ q, q ∈ e' :: d'.E ∧ ∃ cells, w.heap[k]? = some (.cells cells q (0, 0)), ?_, R_mono (R_bound h) (fun k hk => ⟨⟨hk.2.1, hk.2.2.1⟩, hk.2.2.2⟩), S_mono (S_bound h') (fun k hk => ⟨⟨hk.2.1, hk.2.2.1⟩, hk.2.2.2⟩)⟩
  rintro k ⟨q, hq, c, hc⟩ ⟨q', hq', c', hc'⟩
  rw [hc] at hc'
  injection hc' with hc'
  injection hc' with h1 h2 h3
  exact ht q hq q' hq' h2
/-- Two rows that came at once, the second one's block none of the first one's. -/
theorem two_told {β : Type} {d' : Kd β} {e' : Nat} {base' : Nat} {ok' : Nat → Prop} {v' : Value} {ys : List β} (h : S d e w base (fun k => some k ≠ v'.ownBlock) v xs) (h' : d'.R e' w base' ok' v' ys) (hE : d'.E = []) :
    ∃ TA TB : Nat → Prop, (∀ k, TA k → TB k → False) ∧ S d e w base (fun k => (base ≤ k ∧ k < w.heap.size) ∧ TA k) v xs ∧ d'.R e' w base' (fun k => (base' ≤ k ∧ k < w.heap.size) ∧ TB k) v' ys :=
  ⟨fun k => some k ≠ v'.ownBlock, fun k => some k = v'.ownBlock, fun k h1 h2 => h1 h2, S_mono (S_bound h) (fun k hk => ⟨⟨hk.2.1, hk.2.2.1⟩, hk.1⟩), R_mono (R_bound (R_tight hE h')) (fun k hk => ⟨⟨hk.2.1, hk.2.2.1⟩, hk.1⟩)⟩
end
section
variable {P : Program} {ops : Array Oper} {rest : List Oper} {o : Oper} {a : Act} {Q : Exit → Act → World → Prop} {α : Type}
/-- A literal of two elements that lead to rows apart. -/
theorem S_lit2 (d : Kd α) {w0 W : World} (base e : Nat) (hgd : o.guard = none) {N : Tmp} (hd : o.dst = some N) {x y : α} {cx cy : List Value} {okx oky : Nat → Prop}
    (hrun : (execOp a.eval o).run P W = .ok (.value (.slice (some ⟨W.heap.size, 0, none⟩) 2 2)) (W.alloc (.cells (cx ++ cy).toArray e)))
    (hx : d.M W base okx x cx) (hy : d.M W base oky y cy) (hap : ∀ k, okx k → oky k → False) (HB : Below base w0 W) (hbase : base ≤ W.heap.size)
    (h : ∀ v1 w1, S d e w1 base (fun k => (okx k ∨ oky k) ∨ W.heap.size ≤ k) v1 [x, y] → Below base w0 w1 → Below W.heap.size W w1 → wpList P ops Q rest (a.put o.dst v1) w1) : wpList P ops Q (o :: rest) a W := by
  have lx : cx.length = d.sz := d.K_len (d.K_of_M hx)
  have ly : cy.length = d.sz := d.K_len (d.K_of_M hy)
  refine S_lits d base e hgd hd (xs := [x, y]) (inner := cx ++ cy) (ok := fun k => (okx k ∨ oky k) ∨ W.heap.size ≤ k) (fun j k => (j = 0 ∧ okx k) ∨ (j = 1 ∧ oky k)) hrun (by rw [List.length_append, lx, ly]; simp; omega) ?_ ?_ ?_ (.inr (Nat.le_refl _)) HB hbase (by simp) (fun v1 w1 hS hb hg _ => h v1 w1 hS hb ⟨hg.os, hg.tape, hg.output, hg.size, fun i hi => hg.block i hi (by simp)⟩)
  · intro j z hz
    rcases j with _ | _ | j
    · obtain rfl : x = z := Option.some.inj hz
      rw [Nat.zero_mul, List.drop_zero, ← lx, List.take_left]
      exact d.M_mono (fun k hk => .inl ⟨rfl, hk⟩) hx
    · obtain rfl : y = z := Option.some.inj hz
      rw [Nat.zero_add, Nat.one_mul, ← lx, List.drop_left, lx, ← ly, List.take_length]
      exact d.M_mono (fun k hk => .inr ⟨rfl, hk⟩) hy
    · simp at hz
  · rintro i j k (⟨rfl, h1⟩ | ⟨rfl, h1⟩) (⟨rfl, h2⟩ | ⟨rfl, h2⟩)
    · rfl
    · exact (hap k h1 h2).elim
    · exact (hap k h2 h1).elim
    · rfl
  · rintro j k (⟨_, h1⟩ | ⟨_, h1⟩)
    · exact .inl (.inl h1)
    · exact .inl (.inr h1)
open Classical in
/-- append(v, x...), behind 'at_builtin': x's elements lead to rows that lie apart, none of them v's. -/
theorem S_append_rows (d : Kd α) {w0 W : World} (base : Nat) (hgd : o.guard = none) (s x : Operand) (t e : TypeId) (z : Value) (bytes : Nat)
    (ho : o.op = .call { callee := .builtin .append, args := #[s, x], argTypes := #[t, t] })
    (ht : P.underlying t = some (.slice e)) (hinfo : (P.info? e).map (fun i => (i.zero, i.size, i.bytes)) = some (some z, d.sz, bytes)) (hz : z.cells.size = d.sz) (hs0 : 0 < d.sz) (hb0 : 0 < bytes)
    (v : Value) (xs ys : List α) (A : Option Addr) (m c : Nat) (ok okv oku : Nat → Prop) (hs : a.eval s = v) (hx : a.eval x = .slice A m c)
    (HO : S d e W base okv v xs) (H2 : S d e W base oku (.slice A m c) ys) (hap : ∀ k, okv k → oku k → False) (h1 : ∀ k, okv k → ok k) (h2 : ∀ k, oku k → ok k) (hfresh : ∀ k, W.heap.size ≤ k → ok k)
    (HB : Below base w0 W) (hbase : base ≤ W.heap.size) (hl : (xs.length + m) * bytes ≤ 140737488355328)
    (h : ∀ v1 w1, S d e w1 base ok v1 (xs ++ ys) → Below base w0 w1 → W.grownBy w1 v.ownBlock → (v1.ownBlock = v.ownBlock ∨ ∃ b, v1.ownBlock = some b ∧ W.heap.size ≤ b) → wpList P ops Q rest (a.put o.dst v1) w1) :
    wpList P ops Q (o :: rest) a W := by
  obtain ⟨f1, R1⟩ := HO
  obtain ⟨f2, R2⟩ := H2
  have R1' : (tag (fun k => if oku k then f2 k + xs.length else f1 k) d).R e W base okv v xs.zipIdx := R_tag R1 (fun k hk _ => if_neg (fun h => hap k hk h))
  have hm := (R_reads' R2).1
  rw [List.length_zipIdx] at hm
  obtain ⟨_, inner, ho2, hr2⟩ := R2
  obtain ⟨A', c', he, hR2⟩ := own_reads_row ho2 hr2 rfl
  injection he with ea en ec
  subst ea
  have HR : ReadsRow (fun p cs => (tag (fun k => if oku k then f2 k + xs.length else f1 k) d).M W base oku p cs) (tag (fun k => if oku k then f2 k + xs.length else f1 k) d).sz W A m (ys.zipIdx xs.length) := by
    refine ⟨by rw [List.length_zipIdx]; exact hm.symm, by have := hR2.2.1; omega, fun hn => ?_⟩
    obtain ⟨ad, e2, hc⟩ := hR2.2.2 (by omega)
    refine ⟨ad, e2, fun j p hj => ?_⟩
    rw [List.getElem?_zipIdx] at hj
    obtain ⟨y, hy, rfl⟩ := Option.map_eq_some_iff.1 hj
    obtain ⟨cs, hl2, hM, hcell⟩ := hc j (y, j) (zip_at hy)
    refine ⟨cs, hl2, ?_, hcell⟩
    refine d.M_mono (fun k hk => ⟨hk.1.1, ?_⟩) hM
    show (if oku k then f2 k + xs.length else f1 k) = xs.length + j
    have h3 : f2 k = j := hk.2
    rw [if_pos hk.1.1, h3, Nat.add_comm]
  refine R_append_rows (tag (fun k => if oku k then f2 k + xs.length else f1 k) d) base hgd s x t e z bytes ho ht hinfo hz hs0 hb0 v xs.zipIdx (ys.zipIdx xs.length) A m c ok oku hs hx (R_mono R1' h1) HR (fun _ _ h => h) (fun k hk => ⟨h2 k hk, fun he => hap k (R1.1 k he.symm) hk⟩) hfresh HB hbase (by rw [List.length_zipIdx]; exact hl) ?_
  intro v1 w1 hr
  rw [show xs.zipIdx ++ ys.zipIdx xs.length = (xs ++ ys).zipIdx from by rw [List.zipIdx_append]; simp] at hr
  exact h v1 w1 ⟨_, hr⟩
end
end Kd
end Go.Proofs.YtodokejcmbjpbaaW.PrintWords

namespace Go.Proofs.Ytodokejcmbjpbaa.PK
open Go.Shelf Go.RowKit Go.Proofs.YtodokejcmbjpbaaW.PrintWords
def lays191_ren : Go.Shelf.Ren:=⟨fun | 191=>36 | 189=>54 | 125=>65 | 257=>64 | 128=>78 | 129=>79 | 294=>69 | 295=>70 | 296=>71 | 297=>72 | 298=>73 | 299=>74 | 216=>75 | 300=>76 | 301=>77 | 328=>81 | 329=>82 | 330=>83 | 331=>84 | 332=>85 | 215=>86 | 343=>87 | n=>n,fun | 28=>26 | 0=>0 | 3=>3 | 46=>82 | 51=>112 | 53=>114 | 4=>4 | 183=>104 | 182=>103 | 131=>109 | 5=>5 | 9=>9 | 218=>115 | 222=>119 | 228=>122 | 229=>123 | n=>n,fun n=>n⟩
theorem lays191 : Lays.n191 Try.prog lays191_ren where
 mixed:=by kernel_rfl
 f125:=Try.func65.trans (congrArg some (by kernel_rfl))
 f128:=Try.func78.trans (congrArg some (by kernel_rfl))
 f129:=Try.func79.trans (congrArg some (by kernel_rfl))
 f189:=Try.func54.trans (congrArg some (by kernel_rfl))
 f191:=Try.func36.trans (congrArg some (by kernel_rfl))
 f215:=Try.func86.trans (congrArg some (by kernel_rfl))
 f216:=Try.func75.trans (congrArg some (by kernel_rfl))
 f257:=Try.func64.trans (congrArg some (by kernel_rfl))
 f294:=Try.func69.trans (congrArg some (by kernel_rfl))
 f295:=Try.func70.trans (congrArg some (by kernel_rfl))
 f296:=Try.func71.trans (congrArg some (by kernel_rfl))
 f297:=Try.func72.trans (congrArg some (by kernel_rfl))
 f298:=Try.func73.trans (congrArg some (by kernel_rfl))
 f299:=Try.func74.trans (congrArg some (by kernel_rfl))
 f300:=Try.func76.trans (congrArg some (by kernel_rfl))
 f301:=Try.func77.trans (congrArg some (by kernel_rfl))
 f328:=Try.func81.trans (congrArg some (by kernel_rfl))
 f329:=Try.func82.trans (congrArg some (by kernel_rfl))
 f330:=Try.func83.trans (congrArg some (by kernel_rfl))
 f331:=Try.func84.trans (congrArg some (by kernel_rfl))
 f332:=Try.func85.trans (congrArg some (by kernel_rfl))
 f343:=Try.func87.trans (congrArg some (by kernel_rfl))
 t0:=Try.underlying0
 a0:=Try.isAgg0
 z0:=Try.sizeOf0
 v0:=Try.zeroValue0
 t3:=Try.underlying3
 a3:=Try.isAgg3
 z3:=Try.sizeOf3
 v3:=Try.zeroValue3
 t4:=Try.underlying4
 a4:=Try.isAgg4
 z4:=Try.sizeOf4
 v4:=Try.zeroValue4
 t5:=Try.underlying5
 a5:=Try.isAgg5
 z5:=Try.sizeOf5
 v5:=Try.zeroValue5
 t9:=Try.underlying9
 a9:=Try.isAgg9
 z9:=Try.sizeOf9
 v9:=Try.zeroValue9
 t28:=Try.underlying26
 a28:=Try.isAgg26
 z28:=Try.sizeOf26
 v28:=Try.zeroValue26
 t46:=Try.underlying82
 a46:=Try.isAgg82
 z46:=Try.sizeOf82
 v46:=Try.zeroValue82
 t51:=Try.underlying112
 a51:=Try.isAgg112
 z51:=Try.sizeOf112
 v51:=Try.zeroValue112
 t53:=Try.underlying114
 a53:=Try.isAgg114
 z53:=Try.sizeOf114
 v53:=Try.zeroValue114
 t131:=Try.underlying109
 a131:=Try.isAgg109
 z131:=Try.sizeOf109
 v131:=Try.zeroValue109
 t182:=Try.underlying103
 a182:=Try.isAgg103
 z182:=Try.sizeOf103
 v182:=Try.zeroValue103
 t183:=Try.underlying104
 a183:=Try.isAgg104
 z183:=Try.sizeOf104
 v183:=Try.zeroValue104
 t218:=Try.underlying115
 a218:=Try.isAgg115
 z218:=Try.sizeOf115
 v218:=Try.zeroValue115
 t222:=Try.underlying119
 a222:=Try.isAgg119
 z222:=Try.sizeOf119
 v222:=Try.zeroValue119
 t228:=Try.underlying122
 a228:=Try.isAgg122
 z228:=Try.sizeOf122
 v228:=Try.zeroValue122
 t229:=Try.underlying123
 a229:=Try.isAgg123
 z229:=Try.sizeOf123
 v229:=Try.zeroValue123
def sort_Ints.f (_ : Nat) (l0 : List Int) : Option (List Int):=if l0.length < 4611686018427387904 then some (l0.mergeSort fun x y=>decide (x ≤ y)) else none
theorem sort_Ints.mono : ∀ a0 k,LeO (sort_Ints.f k a0) (sort_Ints.f (k + 1) a0):=fun _ _=>LeO.refl _
theorem reps_ints : ∀ {l : List Int} {cs : List Value},Reps (fun x c=>c = [Value.int .i64 x]) 1 l cs → cs = l.map (Value.int .i64):=by
 intro l cs h;obtain ⟨h1,h2⟩:=h;apply List.ext_getElem
 ·simp;omega
 intro j g1 g2;have g3 : j < l.length:=by simpa using g2
 have h3:=h2 j l[j] (List.getElem?_eq_getElem g3);rw [Nat.mul_one,List.take_one,List.head?_drop,List.getElem?_eq_getElem g1] at h3;have h4 : [cs[j]] = [Value.int .i64 l[j]]:=h3;rw [List.getElem_map];exact List.head_eq_of_cons_eq h4
theorem ints_reps (l : List Int) : Reps (fun x c=>c = [Value.int .i64 x]) 1 l (l.map (Value.int .i64)):=by
 refine ⟨by simp,fun j p hp=>?_⟩;rw [Nat.mul_one,List.take_one,List.head?_drop,List.getElem?_map,hp];rfl
theorem sort_Ints.calls (k : Nat) (P0_ : Nat → Prop) (u0_ : Value) (l0 : List Int) (r1 : List Int) (w0 w : World) (hB : Below w0.heap.size w0 w) (ho0 : Kd.R (Kd.int .i64) 3 w w0.heap.size P0_ u0_ l0) (h : sort_Ints.f k l0 = some r1) :
  Calls Try.prog 36 #[u0_] w fun e w'=>e = .returned (.tuple #[]) ∧ Kd.R (Kd.int .i64) 3 w' w0.heap.size (fun k_=>(P0_ k_ ∨ w.heap.size ≤ k_)) u0_ r1 ∧ Below w0.heap.size w0 w' ∧ Kept w w' (fun k_=>P0_ k_):=by
 unfold sort_Ints.f at h
 by_cases hlt : l0.length < 4611686018427387904
 case neg=>rw [if_neg hlt] at h;cases h
 rw [if_pos hlt] at h;obtain rfl:=Option.some.inj h;obtain ⟨hP,inner,ho,hr⟩:=ho0;obtain rfl:=reps_ints hr;rcases ho.2 with ⟨rfl,hl⟩ | ⟨g,cap,cur,rfl,hg,hb,h1,h2,h3,ht⟩
 ·obtain rfl : l0 = []:=List.length_eq_zero_iff.1 hl;refine (Any.sort_Ints_none lays191 none 0 w).mono fun e w' ⟨he,hw⟩=>?_;subst hw;exact ⟨he,by rw [show ([] : List Int).mergeSort (fun x y=>decide (x ≤ y)) = [] by simp];exact Kd.R_nil _ _ _ _ _,hB,Kept.refl _ _⟩
 have hH : Go.Sort.Holds (Value.int .i64) w g 0 l0.toArray:=holds_of_blockI hb (by have ht' : cur.toList.take (l0.length * 1) = l0.map (Value.int .i64):=ht;rw [Nat.mul_one] at ht';exact ht');have hlen : (l0.mergeSort fun x y=>decide (x ≤ y)).length = l0.length:=List.length_mergeSort l0;refine (Any.sort_Ints lays191 g 0 cap l0 w hH (blk_lt hb) hlt).mono fun e w' ⟨he,n,os,hw⟩=>?_;subst hw;have hgr:=grownBy_sortedI (w:=w) (g:=g) (n:=n) (os:=os) (l0.mergeSort fun x y=>decide (x ≤ y)).toArray;refine ⟨he,⟨fun k hk=>.inl (hP k hk),(l0.mergeSort fun x y=>decide (x ≤ y)).map (Value.int .i64),?_,ints_reps _⟩,?_,?_⟩
 ·have:=ownsRow_sortedI (n:=n) (os:=os) hlen hg hb h1 h2 h3;rw [hlen];exact this
 ·exact ⟨hgr.1.trans hB.os,hgr.2.trans hB.tape,hgr.3.trans hB.output,Nat.le_trans hB.size hgr.size,fun k hk=>(hgr.block k (Nat.lt_of_lt_of_le hk hB.size) (by intro e2;injection e2 with e2;omega)).trans (hB.block k hk)⟩
 exact Kept.of_grown hgr (Kept.refl _ _) fun k hk=>.inl (hP k hk)
end Go.Proofs.Ytodokejcmbjpbaa.PK

namespace Go.Proofs.Ytodokejcmbjpbaa.PK
open Go.RowKit Go.Proofs.YtodokejcmbjpbaaW.PrintWords Go.Proofs.YtodokejcmbjpbaaW.PrintLast Go.Proofs.YtodokejcmbjpbaaW.PrintMore
attribute [local go_sem] max2_int min2_int max_two min_two max_three min_three max_four min_four
mutual
def impl_Gather.l0 : Nat → List (S36) → List Int → List (S36) → Int → Int → Option ((List (S40)))
 | 0,_,_,_,_,_=>none
 | k + 1,x0,x3,x11,x12,x13=>if x13 < x12 then (if 0 ≤ x13 then (if x13 < (x11.length : Int) then (if ((rd_T36 x11 x13).f2.f0) = 2 then ((impl_hasInt.f k x3 ((rd_T36 x11 x13).f2.f2)).bind fun t457=>(if t457 = true then (impl_Gather.l0 k x0 x3 x11 x12 (wrap64 (x13 + 1))) else (if x3.length < 17592186044416 then (impl_Gather.l0 k x0 (x3 ++ [(rd_T36 x11 x13).f2.f2]) x11 x12 (wrap64 (x13 + 1))) else (none)))) else (impl_Gather.l0 k x0 x3 x11 x12 (wrap64 (x13 + 1)))) else (none)) else (none)) else ((sort_Ints.f k x3).bind fun t461=>(impl_Gather.l1 k x0 ([] : List (S40)) t461 (x3.length : Int) 0))
def impl_Gather.l1 : Nat → List (S36) → List (S40) → List Int → Int → Int → Option ((List (S40)))
 | 0,_,_,_,_,_=>none
 | k + 1,x0,x6,x38,x39,x40=>if x40 < x39 then (if 0 ≤ x40 then (if x40 < (x38.length : Int) then ((impl_gathered.f k x0 (rd x38 x40)).bind fun bt463=>(if bt463.2.2.2 = true then (if x6.length < 3518437208883 then (impl_Gather.l1 k x0 (x6 ++ [(⟨bt463.1,bt463.2.1,bt463.2.2.1⟩ : S40)]) x38 x39 (wrap64 (x40 + 1))) else (none)) else (impl_Gather.l1 k x0 x6 x38 x39 (wrap64 (x40 + 1))))) else (none)) else (none)) else (some x6)
end
def impl_Gather.f (k : Nat) (l0 : List (S36)) : Option ((List (S40))):=impl_Gather.l0 k l0 ([] : List Int) l0 (l0.length : Int) 0
theorem impl_Gather.mono_l : ∀ k,(∀ y0 y1 y2 y3 y4,LeO (impl_Gather.l0 k y0 y1 y2 y3 y4) (impl_Gather.l0 (k + 1) y0 y1 y2 y3 y4)) ∧ (∀ y0 y1 y2 y3 y4,LeO (impl_Gather.l1 k y0 y1 y2 y3 y4) (impl_Gather.l1 (k + 1) y0 y1 y2 y3 y4))
 | 0=>⟨fun _ _ _ _ _ r h=>by simp [impl_Gather.l0] at h,fun _ _ _ _ _ r h=>by simp [impl_Gather.l1] at h⟩
 | k + 1=>by
  obtain ⟨ih0,ih1⟩:=impl_Gather.mono_l k;refine ⟨?_,?_⟩
  ·intro y0 y1 y2 y3 y4;unfold impl_Gather.l0
   repeat' first
   | (with_reducible exact ih0 _ _ _ _ _)
   | (with_reducible exact ih1 _ _ _ _ _)
   | (with_reducible exact impl_gathered.mono _ _ _)
   | (with_reducible exact impl_hasInt.mono _ _ _)
   | (with_reducible exact sort_Ints.mono _ _)
   | (with_reducible exact LeO.refl _)
   | (with_reducible exact LeO.none _)
   | (with_reducible refine LeO.ite ?_ ?_)
   | (with_reducible refine LeO.bind ?_ (fun _=>?_))
   | exact ih0 _ _ _ _ _
   | exact ih1 _ _ _ _ _
   | exact impl_gathered.mono _ _ _
   | exact impl_hasInt.mono _ _ _
   | exact sort_Ints.mono _ _
   | exact LeO.none _
   | refine LeO.ite ?_ ?_
   | refine LeO.bind ?_ (fun _=>?_)
  intro y0 y1 y2 y3 y4;unfold impl_Gather.l1
  repeat' first
  | (with_reducible exact ih0 _ _ _ _ _)
  | (with_reducible exact ih1 _ _ _ _ _)
  | (with_reducible exact impl_gathered.mono _ _ _)
  | (with_reducible exact impl_hasInt.mono _ _ _)
  | (with_reducible exact sort_Ints.mono _ _)
  | (with_reducible exact LeO.refl _)
  | (with_reducible exact LeO.none _)
  | (with_reducible refine LeO.ite ?_ ?_)
  | (with_reducible refine LeO.bind ?_ (fun _=>?_))
  | exact ih0 _ _ _ _ _
  | exact ih1 _ _ _ _ _
  | exact impl_gathered.mono _ _ _
  | exact impl_hasInt.mono _ _ _
  | exact sort_Ints.mono _ _
  | exact LeO.none _
  | refine LeO.ite ?_ ?_
  | refine LeO.bind ?_ (fun _=>?_)
theorem impl_Gather.mono : ∀ a0 k,LeO (impl_Gather.f k a0) (impl_Gather.f (k + 1) a0):=by
 intro a0 k;obtain ⟨ih0,ih1⟩:=impl_Gather.mono_l k;unfold impl_Gather.f
 repeat' first
   | (with_reducible exact ih0 _ _ _ _ _)
   | (with_reducible exact ih1 _ _ _ _ _)
   | (with_reducible exact impl_gathered.mono _ _ _)
   | (with_reducible exact impl_hasInt.mono _ _ _)
   | (with_reducible exact sort_Ints.mono _ _)
   | (with_reducible exact LeO.refl _)
   | (with_reducible exact LeO.none _)
   | (with_reducible refine LeO.ite ?_ ?_)
   | (with_reducible refine LeO.bind ?_ (fun _=>?_))
   | exact ih0 _ _ _ _ _
   | exact ih1 _ _ _ _ _
   | exact impl_gathered.mono _ _ _
   | exact impl_hasInt.mono _ _ _
   | exact sort_Ints.mono _ _
   | exact LeO.none _
   | refine LeO.ite ?_ ?_
   | refine LeO.bind ?_ (fun _=>?_)
set_option maxHeartbeats 8000000 in
set_option maxRecDepth 100000 in
theorem impl_Gather.calls (k : Nat) (A0 : Option Addr) (c0 : Nat) (l0 : List (S36)) (r : List (S40)) (w : World) (hr0 : Kd.C k36 w A0 l0.length l0) (hc0 : l0.length ≤ c0) (h : impl_Gather.f k l0 = some r) :
  Calls Try.prog 13 #[.slice A0 l0.length c0] w fun e w'=>∃ v0_ : Value,e = .returned (v0_) ∧ Kd.S k40 40 w' w.heap.size (fun _=>True) v0_ r ∧ Below w.heap.size w w':=by
 have hu36:=Try.underlying36;have hu40:=Try.underlying40;have HR0:=zMk hr0;have HC0:=zMk hc0;clear hr0 hc0;have HB:=zMk (Below.refl w.heap.size w);have H : (impl_Gather.l0 k l0 ([] : List Int) l0 (l0.length : Int) 0) = some r:=h;clear h;have H':=zMk H;clear H
 go_enter Try.func13,Try.ntmps13
 go_wp2
 go_loopg [3,13] k (fun kq v3 v13 w'=>∃ (x3_1 : List Int) (x13_1 : Int),v13 = .int .i64 x13_1 ∧ Aside0 (impl_Gather.l0 kq l0 x3_1 l0 (l0.length : Int) x13_1 = some r) ∧ Aside0 (kq ≤ k) ∧ Aside0 (Kd.R (Kd.int .i64) 3 w' w.heap.size (fun _=>True) v3 x3_1) ∧ Aside0 (Below w.heap.size w w'));case atStart=>exact ⟨(([] : List Int)),(0),(by first | rfl | (simp;done) | (simp [*];done)),H',⟨Nat.le_refl _⟩,⟨by first | exact Kd.R_nil _ _ _ _ _ | exact Kd.N_nil _ _ _ _ _ | exact Kd.V_nil _ _ _ _ _ | exact Kd.Q_nil _ _ _ _ _ | exact Kd.S_nil _ _ _ _ _⟩,⟨hs HB⟩⟩
 case round =>
  clear H'
  try clear c1
  obtain ⟨x3_1,x13_1,rfl,HA,HK1,HO_3,HB⟩:=hrel;cases gk with
  | zero=>exact absurd HA.out (by simp [impl_Gather.l0])
  | succ k1 =>
   have H:=HA.out;clear HA;simp only [impl_Gather.l0] at H
   by_cases c2 : x13_1 < (l0.length : Int)
   ·rw [if_pos c2] at H;have c2b0 : decide (x13_1 < (l0.length : Int)) = true:=decide_eq_true c2;clear c2
    by_cases c3 : 0 ≤ x13_1
    ·rw [if_pos c3] at H;have c3b0 : decide (0 ≤ x13_1) = true:=decide_eq_true c3;clear c3
     by_cases c4 : x13_1 < (l0.length : Int)
     ·rw [if_pos c4] at H;have c4b0 : decide (x13_1 < (l0.length : Int)) = true:=decide_eq_true c4;clear c4
      by_cases c5 : ((rd_T36 l0 x13_1).f2.f0) = 2
      ·rw [if_pos c5] at H;have c5b0 : (((rd_T36 l0 x13_1).f2.f0) == 2) = true:=beq_iff_eq.mpr c5;have c5b1 : (((rd_T36 l0 x13_1).f2.f0) != 2) = false:=bne_eq_false_iff_eq.mpr c5;clear c5;replace H:=Option.bind_eq_some_iff.mp H;obtain ⟨t457,A60,H⟩:=H;replace H : (if t457 = true then (impl_Gather.l0 k1 l0 x3_1 l0 (l0.length : Int) (wrap64 (x13_1 + 1))) else (if x3_1.length < 17592186044416 then (impl_Gather.l0 k1 l0 (x3_1 ++ [(rd_T36 l0 x13_1).f2.f2]) l0 (l0.length : Int) (wrap64 (x13_1 + 1))) else (none))) = some r:=H;have A6:=zMk A60;clear A60
       by_cases c7 : t457 = true
       ·subst c7;have H1 : (impl_Gather.l0 k1 l0 x3_1 l0 (l0.length : Int) (wrap64 (x13_1 + 1))) = some r:=by rw [if_pos rfl] at H;exact H
        clear H;have H:=H1;clear H1;have H':=zMk H;clear H;have p455 : 0 ≤ (x13_1 : Int):=zDe (by first | (with_reducible assumption) | assumption);have q455 : x13_1 < (l0.length : Int):=zDe (by first | (with_reducible assumption) | assumption);obtain ⟨ad455,e455,hx455_0,hx455_1,hx455_2,hx455_3,hx455_4,hx455_5,hx455_6,hx455_7⟩:=at_T36 HR0.out x13_1 p455 q455;cases e455;replace hx455_0:=(HB.out.cell (zBl w _ hx455_0)).trans hx455_0;replace hx455_1:=(HB.out.cell (zBl w _ hx455_1)).trans hx455_1;replace hx455_2:=(HB.out.cell (zBl w _ hx455_2)).trans hx455_2;replace hx455_3:=(HB.out.cell (zBl w _ hx455_3)).trans hx455_3;replace hx455_4:=(HB.out.cell (zBl w _ hx455_4)).trans hx455_4;replace hx455_5:=(HB.out.cell (zBl w _ hx455_5)).trans hx455_5;replace hx455_6:=(HB.out.cell (zBl w _ hx455_6)).trans hx455_6;replace hx455_7:=(HB.out.cell (zBl w _ hx455_7)).trans hx455_7;replace p455:=eq_true p455;replace q455:=eq_true q455;go_wp2_with (first | ((with_reducible refine gate_dst (N:=5) rfl ?_);refine box_event ?hg (N:=5) ?hd (cs:=#[.int .i64 0,.int .i64 0,.int .i64 0,.int .i64 0,.int .i64 0,.int .i64 0,.int .i64 0,.string (⟨#[]⟩ : ByteArray)]) (t:=36) ?hr ?_;(case hd=>rfl);(case hg=>rfl);(case hr=>first | (go_simp;done) | (go_simp;rfl));intro gb456 hg w8 hbox hb;have n0_:=zMk (Kd.R_below (rs HO_3) hb);have n1_:=zMk (below_step (hs HB) hb);have n2_:=zMk (hbox);have n3_:=zMk ((by rw [hg];exact (below_size (hs HB)) : w.heap.size ≤ gb456));have n4_:=zMk ((by rw [hg];exact (below_size (hs HB)) : w.heap.size ≤ gb456));clear HO_3;clear HB;have HO_3:=n0_;have HB:=n1_;have BK456:=n2_;have GW456:=n3_;have GE456:=n4_;clear n0_ n1_ n2_ n3_ n4_;clear hb hbox hg;have hcz9_0 : w8.cell? ⟨gb456,0,none⟩ = some (.int .i64 0):=(zCl BK456.out 0).trans rfl;have hcz9_1 : w8.cell? ⟨gb456,1,none⟩ = some (.int .i64 0):=(zCl BK456.out 1).trans rfl;have hcz9_2 : w8.cell? ⟨gb456,2,none⟩ = some (.int .i64 0):=(zCl BK456.out 2).trans rfl;have hcz9_3 : w8.cell? ⟨gb456,3,none⟩ = some (.int .i64 0):=(zCl BK456.out 3).trans rfl;have hcz9_4 : w8.cell? ⟨gb456,4,none⟩ = some (.int .i64 0):=(zCl BK456.out 4).trans rfl;have hcz9_5 : w8.cell? ⟨gb456,5,none⟩ = some (.int .i64 0):=(zCl BK456.out 5).trans rfl;have hcz9_6 : w8.cell? ⟨gb456,6,none⟩ = some (.int .i64 0):=(zCl BK456.out 6).trans rfl;have hcz9_7 : w8.cell? ⟨gb456,7,none⟩ = some (.string (⟨#[]⟩ : ByteArray)):=(zCl BK456.out 7).trans rfl;have hfz9_0:=zFr BK456.out 0;have hfz9_1:=zFr BK456.out 1;have hfz9_2:=zFr BK456.out 2;have hfz9_3:=zFr BK456.out 3;have hfz9_4:=zFr BK456.out 4;have hfz9_5:=zFr BK456.out 5;have hfz9_6:=zFr BK456.out 6;have hfz9_7:=zFr BK456.out 7;obtain ⟨Ao10,co10,eo10⟩:=Kd.R_slice HO_3.out;subst eo10) | (go_at_call 35;(with_reducible refine (impl_hasInt.calls k1 _ _ x3_1 ((rd_T36 l0 x13_1).f2.f2) true _ ?side1 ?side2 A6.out).mono ?_);(case side1=>refine (Kd.R_reads' (e:=3) (base:=w.heap.size) (ok:=fun k_=>True) (n:=x3_1.length) (c:=co10) ?_).2.2;exact (by (with_reducible repeat (first | apply Kd.R_alloc | apply Kd.R_drewN | apply Kd.R_drew));exact (Kd.R_mono (Kd.R_far (p:=⟨gb456,7,none⟩) (Kd.R_far (p:=⟨gb456,6,none⟩) (Kd.R_far (p:=⟨gb456,5,none⟩) (Kd.R_far (p:=⟨gb456,4,none⟩) (Kd.R_far (p:=⟨gb456,3,none⟩) (Kd.R_far (p:=⟨gb456,2,none⟩) (Kd.R_far (p:=⟨gb456,1,none⟩) (Kd.R_far (p:=⟨gb456,0,none⟩) (Kd.R_types HO_3.out BK456.out (by decide)) (fun _ hk=>hk.2) (.int .i64 ((rd_T36 l0 x13_1).f0))) (fun _ hk=>hk.2) (.int .i64 ((rd_T36 l0 x13_1).f1))) (fun _ hk=>hk.2) (.int .i64 ((rd_T36 l0 x13_1).f2.f0))) (fun _ hk=>hk.2) (.int .i64 ((rd_T36 l0 x13_1).f2.f1))) (fun _ hk=>hk.2) (.int .i64 ((rd_T36 l0 x13_1).f2.f2))) (fun _ hk=>hk.2) (.int .i64 ((rd_T36 l0 x13_1).f2.f3))) (fun _ hk=>hk.2) (.int .i64 ((rd_T36 l0 x13_1).f2.f4))) (fun _ hk=>hk.2) (.string ((rd_T36 l0 x13_1).f2.f5))) (fun _ h_=>h_.1))));(case side2=>exact (Kd.R_reads' HO_3.out).2.1);rintro e w' ⟨rfl,⟨nd,rfl⟩⟩));go_roundg k1;case measure=>have:=HK1.out;omega
        case rel=>exact ⟨(x3_1),(wrap64 (x13_1 + 1)),(by first | rfl | (simp;done) | (simp [*];done)),H',⟨by have:=HK1.out;omega⟩,⟨by (with_reducible repeat (first | apply Kd.R_alloc | apply Kd.R_drewN | apply Kd.R_drew));exact Kd.R_mono (Kd.R_far (p:=⟨gb456,7,none⟩) (Kd.R_far (p:=⟨gb456,6,none⟩) (Kd.R_far (p:=⟨gb456,5,none⟩) (Kd.R_far (p:=⟨gb456,4,none⟩) (Kd.R_far (p:=⟨gb456,3,none⟩) (Kd.R_far (p:=⟨gb456,2,none⟩) (Kd.R_far (p:=⟨gb456,1,none⟩) (Kd.R_far (p:=⟨gb456,0,none⟩) (Kd.R_types HO_3.out BK456.out (by decide)) (fun _ hk=>hk.2) (.int .i64 ((rd_T36 l0 x13_1).f0))) (fun _ hk=>hk.2) (.int .i64 ((rd_T36 l0 x13_1).f1))) (fun _ hk=>hk.2) (.int .i64 ((rd_T36 l0 x13_1).f2.f0))) (fun _ hk=>hk.2) (.int .i64 ((rd_T36 l0 x13_1).f2.f1))) (fun _ hk=>hk.2) (.int .i64 ((rd_T36 l0 x13_1).f2.f2))) (fun _ hk=>hk.2) (.int .i64 ((rd_T36 l0 x13_1).f2.f3))) (fun _ hk=>hk.2) (.int .i64 ((rd_T36 l0 x13_1).f2.f4))) (fun _ hk=>hk.2) (.string ((rd_T36 l0 x13_1).f2.f5))) (fun _ hk=>trivial)⟩,⟨hs1 HB GE456⟩⟩
       replace c7:=Bool.eq_false_iff.mpr c7;subst c7;have H1 : (if x3_1.length < 17592186044416 then (impl_Gather.l0 k1 l0 (x3_1 ++ [(rd_T36 l0 x13_1).f2.f2]) l0 (l0.length : Int) (wrap64 (x13_1 + 1))) else (none)) = some r:=by rw [if_neg (show ¬ (false = true) by decide)] at H;exact H
       clear H;have H:=H1;clear H1
       by_cases c11 : x3_1.length < 17592186044416
       ·rw [if_pos c11] at H;have LMc11:=zMk c11;clear c11;obtain ⟨y458,hy458⟩ : ∃ y_ : List Int,y_ = (x3_1 ++ [(rd_T36 l0 x13_1).f2.f2]):=⟨_,rfl⟩;replace H : (impl_Gather.l0 k1 l0 y458 l0 (l0.length : Int) (wrap64 (x13_1 + 1))) = some r:=by first | (rw [hy458];with_reducible exact H) | (have H2_:=(Option.bind_some _ _).symm.trans H;rw [hy458];with_reducible exact H2_) | (have H2_:=(Option.bind_some _ _).symm.trans H;with_reducible exact H2_) | with_reducible exact H | (rw [hy458];exact H) | exact H
        have Ny458:=zMk hy458;clear hy458;have H':=zMk H;clear H;have p455 : 0 ≤ (x13_1 : Int):=zDe (by first | (with_reducible assumption) | assumption);have q455 : x13_1 < (l0.length : Int):=zDe (by first | (with_reducible assumption) | assumption);obtain ⟨ad455,e455,hx455_0,hx455_1,hx455_2,hx455_3,hx455_4,hx455_5,hx455_6,hx455_7⟩:=at_T36 HR0.out x13_1 p455 q455;cases e455;replace hx455_0:=(HB.out.cell (zBl w _ hx455_0)).trans hx455_0;replace hx455_1:=(HB.out.cell (zBl w _ hx455_1)).trans hx455_1;replace hx455_2:=(HB.out.cell (zBl w _ hx455_2)).trans hx455_2;replace hx455_3:=(HB.out.cell (zBl w _ hx455_3)).trans hx455_3;replace hx455_4:=(HB.out.cell (zBl w _ hx455_4)).trans hx455_4;replace hx455_5:=(HB.out.cell (zBl w _ hx455_5)).trans hx455_5;replace hx455_6:=(HB.out.cell (zBl w _ hx455_6)).trans hx455_6;replace hx455_7:=(HB.out.cell (zBl w _ hx455_7)).trans hx455_7;replace p455:=eq_true p455;replace q455:=eq_true q455;go_wp2_with (first | ((with_reducible refine gate_dst (N:=5) rfl ?_);refine box_event ?hg (N:=5) ?hd (cs:=#[.int .i64 0,.int .i64 0,.int .i64 0,.int .i64 0,.int .i64 0,.int .i64 0,.int .i64 0,.string (⟨#[]⟩ : ByteArray)]) (t:=36) ?hr ?_;(case hd=>rfl);(case hg=>rfl);(case hr=>first | (go_simp;done) | (go_simp;rfl));intro gb456 hg w12 hbox hb;have n0_:=zMk (Kd.R_below (rs HO_3) hb);have n1_:=zMk (below_step (hs HB) hb);have n2_:=zMk (hbox);have n3_:=zMk ((by rw [hg];exact (below_size (hs HB)) : w.heap.size ≤ gb456));have n4_:=zMk ((by rw [hg];exact (below_size (hs HB)) : w.heap.size ≤ gb456));clear HO_3;clear HB;have HO_3:=n0_;have HB:=n1_;have BK456:=n2_;have GW456:=n3_;have GE456:=n4_;clear n0_ n1_ n2_ n3_ n4_;clear hb hbox hg;have hcz13_0 : w12.cell? ⟨gb456,0,none⟩ = some (.int .i64 0):=(zCl BK456.out 0).trans rfl;have hcz13_1 : w12.cell? ⟨gb456,1,none⟩ = some (.int .i64 0):=(zCl BK456.out 1).trans rfl;have hcz13_2 : w12.cell? ⟨gb456,2,none⟩ = some (.int .i64 0):=(zCl BK456.out 2).trans rfl;have hcz13_3 : w12.cell? ⟨gb456,3,none⟩ = some (.int .i64 0):=(zCl BK456.out 3).trans rfl;have hcz13_4 : w12.cell? ⟨gb456,4,none⟩ = some (.int .i64 0):=(zCl BK456.out 4).trans rfl;have hcz13_5 : w12.cell? ⟨gb456,5,none⟩ = some (.int .i64 0):=(zCl BK456.out 5).trans rfl;have hcz13_6 : w12.cell? ⟨gb456,6,none⟩ = some (.int .i64 0):=(zCl BK456.out 6).trans rfl;have hcz13_7 : w12.cell? ⟨gb456,7,none⟩ = some (.string (⟨#[]⟩ : ByteArray)):=(zCl BK456.out 7).trans rfl;have hfz13_0:=zFr BK456.out 0;have hfz13_1:=zFr BK456.out 1;have hfz13_2:=zFr BK456.out 2;have hfz13_3:=zFr BK456.out 3;have hfz13_4:=zFr BK456.out 4;have hfz13_5:=zFr BK456.out 5;have hfz13_6:=zFr BK456.out 6;have hfz13_7:=zFr BK456.out 7;obtain ⟨Ao14,co14,eo14⟩:=Kd.R_slice HO_3.out;subst eo14) | (go_at_call 35;(with_reducible refine (impl_hasInt.calls k1 _ _ x3_1 ((rd_T36 l0 x13_1).f2.f2) false _ ?side1 ?side2 A6.out).mono ?_);(case side1=>refine (Kd.R_reads' (e:=3) (base:=w.heap.size) (ok:=fun k_=>True) (n:=x3_1.length) (c:=co14) ?_).2.2;exact (by (with_reducible repeat (first | apply Kd.R_alloc | apply Kd.R_drewN | apply Kd.R_drew));exact (Kd.R_mono (Kd.R_far (p:=⟨gb456,7,none⟩) (Kd.R_far (p:=⟨gb456,6,none⟩) (Kd.R_far (p:=⟨gb456,5,none⟩) (Kd.R_far (p:=⟨gb456,4,none⟩) (Kd.R_far (p:=⟨gb456,3,none⟩) (Kd.R_far (p:=⟨gb456,2,none⟩) (Kd.R_far (p:=⟨gb456,1,none⟩) (Kd.R_far (p:=⟨gb456,0,none⟩) (Kd.R_types HO_3.out BK456.out (by decide)) (fun _ hk=>hk.2) (.int .i64 ((rd_T36 l0 x13_1).f0))) (fun _ hk=>hk.2) (.int .i64 ((rd_T36 l0 x13_1).f1))) (fun _ hk=>hk.2) (.int .i64 ((rd_T36 l0 x13_1).f2.f0))) (fun _ hk=>hk.2) (.int .i64 ((rd_T36 l0 x13_1).f2.f1))) (fun _ hk=>hk.2) (.int .i64 ((rd_T36 l0 x13_1).f2.f2))) (fun _ hk=>hk.2) (.int .i64 ((rd_T36 l0 x13_1).f2.f3))) (fun _ hk=>hk.2) (.int .i64 ((rd_T36 l0 x13_1).f2.f4))) (fun _ hk=>hk.2) (.string ((rd_T36 l0 x13_1).f2.f5))) (fun _ h_=>h_.1))));(case side2=>exact (Kd.R_reads' HO_3.out).2.1);rintro e w' ⟨rfl,⟨nd,rfl⟩⟩) | ((with_reducible refine gate_builtin (b:=.append) (xs:=#[.tmp 29,.tmp 33]) rfl ?_);at_builtin;refine Kd.R_append (Kd.int .i64) (w0:=w) w.heap.size rfl (.tmp 29) (.tmp 33) 26 3 (.int .i64 0) 8 rfl Try.underlying26 info3 rfl (by decide) (by omega) (.slice Ao14 x3_1.length co14) x3_1 ((rd_T36 l0 x13_1).f2.f2) [.int .i64 ((rd_T36 l0 x13_1).f2.f2)] (fun _=>True) (fun _=>False) rfl (by first | (go_simp;done) | (go_simp;rfl)) ?aP (fun _ hk=>hk.elim) ?aF ?aO ?aB ?aS ?aL ?_;(case aP=>exact rfl);(case aB=>exact (hs1 HB GE456));(case aF=>exact (fun _ _=>trivial));(case aO=>exact (by (with_reducible repeat (first | apply Kd.R_alloc | apply Kd.R_drewN | apply Kd.R_drew));exact Kd.R_mono (Kd.R_far (p:=⟨gb456,7,none⟩) (Kd.R_far (p:=⟨gb456,6,none⟩) (Kd.R_far (p:=⟨gb456,5,none⟩) (Kd.R_far (p:=⟨gb456,4,none⟩) (Kd.R_far (p:=⟨gb456,3,none⟩) (Kd.R_far (p:=⟨gb456,2,none⟩) (Kd.R_far (p:=⟨gb456,1,none⟩) (Kd.R_far (p:=⟨gb456,0,none⟩) (Kd.R_types HO_3.out BK456.out (by decide)) (fun _ hk=>hk.2) (.int .i64 ((rd_T36 l0 x13_1).f0))) (fun _ hk=>hk.2) (.int .i64 ((rd_T36 l0 x13_1).f1))) (fun _ hk=>hk.2) (.int .i64 ((rd_T36 l0 x13_1).f2.f0))) (fun _ hk=>hk.2) (.int .i64 ((rd_T36 l0 x13_1).f2.f1))) (fun _ hk=>hk.2) (.int .i64 ((rd_T36 l0 x13_1).f2.f2))) (fun _ hk=>hk.2) (.int .i64 ((rd_T36 l0 x13_1).f2.f3))) (fun _ hk=>hk.2) (.int .i64 ((rd_T36 l0 x13_1).f2.f4))) (fun _ hk=>hk.2) (.string ((rd_T36 l0 x13_1).f2.f5))) (fun _ hk=>trivial)));(case aS=>exact (below_size (hs1 HB GE456)));(case aL=>have:=LMc11.out;omega);intro v459 w15 ho hb hg hat;rw [← Ny458.out] at ho;have n0_:=zMk (blk_grown (g:=gb456) (o:=.cells #[.int .i64 ((rd_T36 l0 x13_1).f0),.int .i64 ((rd_T36 l0 x13_1).f1),.int .i64 ((rd_T36 l0 x13_1).f2.f0),.int .i64 ((rd_T36 l0 x13_1).f2.f1),.int .i64 ((rd_T36 l0 x13_1).f2.f2),.int .i64 ((rd_T36 l0 x13_1).f2.f3),.int .i64 ((rd_T36 l0 x13_1).f2.f4),.string ((rd_T36 l0 x13_1).f2.f5)] 36 (0,0)) (by (with_reducible repeat (first | refine blk_drewN ?_ _ | refine blk_drew ?_ | refine blk_alloc ?_ _));refine blk_put (cs:=#[.int .i64 ((rd_T36 l0 x13_1).f0),.int .i64 ((rd_T36 l0 x13_1).f1),.int .i64 ((rd_T36 l0 x13_1).f2.f0),.int .i64 ((rd_T36 l0 x13_1).f2.f1),.int .i64 ((rd_T36 l0 x13_1).f2.f2),.int .i64 ((rd_T36 l0 x13_1).f2.f3),.int .i64 ((rd_T36 l0 x13_1).f2.f4),.string (⟨#[]⟩ : ByteArray)]) ?_ 7 _ rfl;(with_reducible repeat (first | refine blk_drewN ?_ _ | refine blk_drew ?_ | refine blk_alloc ?_ _));refine blk_put (cs:=#[.int .i64 ((rd_T36 l0 x13_1).f0),.int .i64 ((rd_T36 l0 x13_1).f1),.int .i64 ((rd_T36 l0 x13_1).f2.f0),.int .i64 ((rd_T36 l0 x13_1).f2.f1),.int .i64 ((rd_T36 l0 x13_1).f2.f2),.int .i64 ((rd_T36 l0 x13_1).f2.f3),.int .i64 0,.string (⟨#[]⟩ : ByteArray)]) ?_ 6 _ rfl;(with_reducible repeat (first | refine blk_drewN ?_ _ | refine blk_drew ?_ | refine blk_alloc ?_ _));refine blk_put (cs:=#[.int .i64 ((rd_T36 l0 x13_1).f0),.int .i64 ((rd_T36 l0 x13_1).f1),.int .i64 ((rd_T36 l0 x13_1).f2.f0),.int .i64 ((rd_T36 l0 x13_1).f2.f1),.int .i64 ((rd_T36 l0 x13_1).f2.f2),.int .i64 0,.int .i64 0,.string (⟨#[]⟩ : ByteArray)]) ?_ 5 _ rfl;(with_reducible repeat (first | refine blk_drewN ?_ _ | refine blk_drew ?_ | refine blk_alloc ?_ _));refine blk_put (cs:=#[.int .i64 ((rd_T36 l0 x13_1).f0),.int .i64 ((rd_T36 l0 x13_1).f1),.int .i64 ((rd_T36 l0 x13_1).f2.f0),.int .i64 ((rd_T36 l0 x13_1).f2.f1),.int .i64 0,.int .i64 0,.int .i64 0,.string (⟨#[]⟩ : ByteArray)]) ?_ 4 _ rfl;(with_reducible repeat (first | refine blk_drewN ?_ _ | refine blk_drew ?_ | refine blk_alloc ?_ _));refine blk_put (cs:=#[.int .i64 ((rd_T36 l0 x13_1).f0),.int .i64 ((rd_T36 l0 x13_1).f1),.int .i64 ((rd_T36 l0 x13_1).f2.f0),.int .i64 0,.int .i64 0,.int .i64 0,.int .i64 0,.string (⟨#[]⟩ : ByteArray)]) ?_ 3 _ rfl;(with_reducible repeat (first | refine blk_drewN ?_ _ | refine blk_drew ?_ | refine blk_alloc ?_ _));refine blk_put (cs:=#[.int .i64 ((rd_T36 l0 x13_1).f0),.int .i64 ((rd_T36 l0 x13_1).f1),.int .i64 0,.int .i64 0,.int .i64 0,.int .i64 0,.int .i64 0,.string (⟨#[]⟩ : ByteArray)]) ?_ 2 _ rfl;(with_reducible repeat (first | refine blk_drewN ?_ _ | refine blk_drew ?_ | refine blk_alloc ?_ _));refine blk_put (cs:=#[.int .i64 ((rd_T36 l0 x13_1).f0),.int .i64 0,.int .i64 0,.int .i64 0,.int .i64 0,.int .i64 0,.int .i64 0,.string (⟨#[]⟩ : ByteArray)]) ?_ 1 _ rfl;(with_reducible repeat (first | refine blk_drewN ?_ _ | refine blk_drew ?_ | refine blk_alloc ?_ _));refine blk_put (cs:=#[.int .i64 0,.int .i64 0,.int .i64 0,.int .i64 0,.int .i64 0,.int .i64 0,.int .i64 0,.string (⟨#[]⟩ : ByteArray)]) ?_ 0 _ rfl;(with_reducible repeat (first | refine blk_drewN ?_ _ | refine blk_drew ?_ | refine blk_alloc ?_ _));exact BK456.out) hg (Kd.R_ne HO_3.out BK456.out (by decide)));have n1_:=zMk (hb);have n2_:=zMk (ho);clear BK456;clear HB;clear HO_3;have BK456:=n0_;have HB:=n1_;have HO460:=n2_;clear n0_ n1_ n2_;clear ho hb hg hat));go_roundg k1;case measure=>have:=HK1.out;omega
        case rel=>exact ⟨(y458),(wrap64 (x13_1 + 1)),(by first | rfl | (simp;done) | (simp [*];done)),H',⟨by have:=HK1.out;omega⟩,⟨rs HO460⟩,⟨hs1 HB GE456⟩⟩
       rw [if_neg c11] at H;exact absurd H (by simp)
      rw [if_neg c5] at H;have c5b0 : (((rd_T36 l0 x13_1).f2.f0) == 2) = false:=beq_eq_false_iff_ne.mpr c5;have c5b1 : (((rd_T36 l0 x13_1).f2.f0) != 2) = true:=bne_iff_ne.mpr c5;have H':=zMk H;clear H;have p455 : 0 ≤ (x13_1 : Int):=zDe (by first | (with_reducible assumption) | assumption);have q455 : x13_1 < (l0.length : Int):=zDe (by first | (with_reducible assumption) | assumption);obtain ⟨ad455,e455,hx455_0,hx455_1,hx455_2,hx455_3,hx455_4,hx455_5,hx455_6,hx455_7⟩:=at_T36 HR0.out x13_1 p455 q455;cases e455;replace hx455_0:=(HB.out.cell (zBl w _ hx455_0)).trans hx455_0;replace hx455_1:=(HB.out.cell (zBl w _ hx455_1)).trans hx455_1;replace hx455_2:=(HB.out.cell (zBl w _ hx455_2)).trans hx455_2;replace hx455_3:=(HB.out.cell (zBl w _ hx455_3)).trans hx455_3;replace hx455_4:=(HB.out.cell (zBl w _ hx455_4)).trans hx455_4;replace hx455_5:=(HB.out.cell (zBl w _ hx455_5)).trans hx455_5;replace hx455_6:=(HB.out.cell (zBl w _ hx455_6)).trans hx455_6;replace hx455_7:=(HB.out.cell (zBl w _ hx455_7)).trans hx455_7;replace p455:=eq_true p455;replace q455:=eq_true q455;go_wp2_with (first | ((with_reducible refine gate_dst (N:=5) rfl ?_);refine box_event ?hg (N:=5) ?hd (cs:=#[.int .i64 0,.int .i64 0,.int .i64 0,.int .i64 0,.int .i64 0,.int .i64 0,.int .i64 0,.string (⟨#[]⟩ : ByteArray)]) (t:=36) ?hr ?_;(case hd=>rfl);(case hg=>rfl);(case hr=>first | (go_simp;done) | (go_simp;rfl));intro gb456 hg w16 hbox hb;have n0_:=zMk (Kd.R_below (rs HO_3) hb);have n1_:=zMk (below_step (hs HB) hb);have n2_:=zMk (hbox);have n3_:=zMk ((by rw [hg];exact (below_size (hs HB)) : w.heap.size ≤ gb456));have n4_:=zMk ((by rw [hg];exact (below_size (hs HB)) : w.heap.size ≤ gb456));clear HO_3;clear HB;have HO_3:=n0_;have HB:=n1_;have BK456:=n2_;have GW456:=n3_;have GE456:=n4_;clear n0_ n1_ n2_ n3_ n4_;clear hb hbox hg;have hcz17_0 : w16.cell? ⟨gb456,0,none⟩ = some (.int .i64 0):=(zCl BK456.out 0).trans rfl;have hcz17_1 : w16.cell? ⟨gb456,1,none⟩ = some (.int .i64 0):=(zCl BK456.out 1).trans rfl;have hcz17_2 : w16.cell? ⟨gb456,2,none⟩ = some (.int .i64 0):=(zCl BK456.out 2).trans rfl;have hcz17_3 : w16.cell? ⟨gb456,3,none⟩ = some (.int .i64 0):=(zCl BK456.out 3).trans rfl;have hcz17_4 : w16.cell? ⟨gb456,4,none⟩ = some (.int .i64 0):=(zCl BK456.out 4).trans rfl;have hcz17_5 : w16.cell? ⟨gb456,5,none⟩ = some (.int .i64 0):=(zCl BK456.out 5).trans rfl;have hcz17_6 : w16.cell? ⟨gb456,6,none⟩ = some (.int .i64 0):=(zCl BK456.out 6).trans rfl;have hcz17_7 : w16.cell? ⟨gb456,7,none⟩ = some (.string (⟨#[]⟩ : ByteArray)):=(zCl BK456.out 7).trans rfl;have hfz17_0:=zFr BK456.out 0;have hfz17_1:=zFr BK456.out 1;have hfz17_2:=zFr BK456.out 2;have hfz17_3:=zFr BK456.out 3;have hfz17_4:=zFr BK456.out 4;have hfz17_5:=zFr BK456.out 5;have hfz17_6:=zFr BK456.out 6;have hfz17_7:=zFr BK456.out 7));go_roundg k1;case measure=>have:=HK1.out;omega
      case rel=>exact ⟨(x3_1),(wrap64 (x13_1 + 1)),(by first | rfl | (simp;done) | (simp [*];done)),H',⟨by have:=HK1.out;omega⟩,⟨by (with_reducible repeat (first | apply Kd.R_alloc | apply Kd.R_drewN | apply Kd.R_drew));exact Kd.R_mono (Kd.R_far (p:=⟨gb456,7,none⟩) (Kd.R_far (p:=⟨gb456,6,none⟩) (Kd.R_far (p:=⟨gb456,5,none⟩) (Kd.R_far (p:=⟨gb456,4,none⟩) (Kd.R_far (p:=⟨gb456,3,none⟩) (Kd.R_far (p:=⟨gb456,2,none⟩) (Kd.R_far (p:=⟨gb456,1,none⟩) (Kd.R_far (p:=⟨gb456,0,none⟩) (Kd.R_types HO_3.out BK456.out (by decide)) (fun _ hk=>hk.2) (.int .i64 ((rd_T36 l0 x13_1).f0))) (fun _ hk=>hk.2) (.int .i64 ((rd_T36 l0 x13_1).f1))) (fun _ hk=>hk.2) (.int .i64 ((rd_T36 l0 x13_1).f2.f0))) (fun _ hk=>hk.2) (.int .i64 ((rd_T36 l0 x13_1).f2.f1))) (fun _ hk=>hk.2) (.int .i64 ((rd_T36 l0 x13_1).f2.f2))) (fun _ hk=>hk.2) (.int .i64 ((rd_T36 l0 x13_1).f2.f3))) (fun _ hk=>hk.2) (.int .i64 ((rd_T36 l0 x13_1).f2.f4))) (fun _ hk=>hk.2) (.string ((rd_T36 l0 x13_1).f2.f5))) (fun _ hk=>trivial)⟩,⟨hs1 HB GE456⟩⟩
     rw [if_neg c4] at H;exact absurd H (by simp)
    rw [if_neg c3] at H;exact absurd H (by simp)
   rw [if_neg c2] at H;have c2b0 : decide (x13_1 < (l0.length : Int)) = false:=decide_eq_false c2;clear c2;replace H:=Option.bind_eq_some_iff.mp H;obtain ⟨t461,A180,H⟩:=H;replace H : (impl_Gather.l1 k1 l0 ([] : List (S40)) t461 (x3_1.length : Int) 0) = some r:=H;have A18:=zMk A180;clear A180;have H':=zMk H;clear H;obtain ⟨Ao19,co19,eo19⟩:=Kd.R_slice HO_3.out;subst eo19;go_wp2_with (first | ((with_reducible refine gate_callee (f:=36) rfl ?_);refine goesL_ (some 37) rfl rfl Try.func36 (by kernel_rfl) rfl #[.slice Ao19 x3_1.length co19] rfl (by (try simp only [List.map_toArray,List.map_cons,List.map_nil]);first | done | rfl | (simp only [List.length_drop,List.length_take];rfl)) ?_;(with_reducible refine (sort_Ints.calls k1 (fun k_=>some k_ = (.slice Ao19 x3_1.length co19 : Value).ownBlock) (.slice Ao19 x3_1.length co19) x3_1 t461 w _ ?side1 ?side2 A18.out).mono ?_);(case side1=>repeat (first | (with_reducible first | exact HB.out | apply below_alloc | apply pw_below_drewN | apply below_drew1) | exact HB.out));(case side2=>exact Kd.R_tight rfl HO_3.out);rintro e w20 ⟨rfl,hy0,hb,hkp⟩;refine ⟨_,rfl,?_⟩;have n0_:=zMk (Kd.R_reok rfl hy0 (fun k_ e_=>HO_3.out.1 k_ e_));have n1_:=zMk (hb);clear HO_3;clear HB;have HO_3:=n0_;have HB:=n1_;clear n0_ n1_;(try clear hb);(try clear hkp);(try clear hy0)));go_loopg [6,40] k1 (fun kq v6 v40 w'=>∃ (x6_2 : List (S40)) (x40_2 : Int),v40 = .int .i64 x40_2 ∧ Aside0 (impl_Gather.l1 kq l0 x6_2 t461 (x3_1.length : Int) x40_2 = some r) ∧ Aside0 (kq ≤ k1) ∧ Aside0 (Kd.S k40 40 w' w.heap.size (fun _=>True) v6 x6_2) ∧ Aside0 (Kd.R (Kd.int .i64) 3 w' w.heap.size (fun _=>True) (.slice Ao19 x3_1.length co19) t461) ∧ Aside0 (Below w.heap.size w w'));case atStart=>exact ⟨(([] : List (S40))),(0),(by first | rfl | (simp;done) | (simp [*];done)),H',⟨Nat.le_refl _⟩,⟨by first | exact Kd.S_nil _ _ _ _ _ | exact Kd.N_nil _ _ _ _ _ | exact Kd.V_nil _ _ _ _ _ | exact Kd.Q_nil _ _ _ _ _ | exact Kd.R_nil _ _ _ _ _⟩,⟨rs HO_3⟩,⟨hs HB⟩⟩
   case round =>
    clear H'
    try clear c1
    try clear c2
    try clear c2b0
    try clear p2
    try clear c3
    try clear c3b0
    try clear c4
    try clear c4b0
    try clear p4
    try clear q4
    try clear hx4
    try clear c5
    try clear c5b0
    try clear c5b1
    try clear p6
    try clear c7
    try clear c11
    try clear c13
    try clear hcz13_0
    try clear hcz13_1
    try clear hcz13_2
    try clear hcz13_3
    try clear hcz13_4
    try clear hcz13_5
    try clear hcz13_6
    try clear hcz13_7
    try clear hcz17_0
    try clear hcz17_1
    try clear hcz17_2
    try clear hcz17_3
    try clear hcz17_4
    try clear hcz17_5
    try clear hcz17_6
    try clear hcz17_7
    try clear hcz9_0
    try clear hcz9_1
    try clear hcz9_2
    try clear hcz9_3
    try clear hcz9_4
    try clear hcz9_5
    try clear hcz9_6
    try clear hcz9_7
    try clear hfz13_0
    try clear hfz13_1
    try clear hfz13_2
    try clear hfz13_3
    try clear hfz13_4
    try clear hfz13_5
    try clear hfz13_6
    try clear hfz13_7
    try clear hfz17_0
    try clear hfz17_1
    try clear hfz17_2
    try clear hfz17_3
    try clear hfz17_4
    try clear hfz17_5
    try clear hfz17_6
    try clear hfz17_7
    try clear hfz9_0
    try clear hfz9_1
    try clear hfz9_2
    try clear hfz9_3
    try clear hfz9_4
    try clear hfz9_5
    try clear hfz9_6
    try clear hfz9_7
    try clear hx455_0
    try clear hx455_1
    try clear hx455_2
    try clear hx455_3
    try clear hx455_4
    try clear hx455_5
    try clear hx455_6
    try clear hx455_7
    try clear p455
    try clear q455
    obtain ⟨x6_2,x40_2,rfl,HA,HK2,HO_6,HO_38,HB⟩:=hrel;have hl38_2:=(Kd.R_reads' HO_38.out).1;rw [hl38_2] at HO_38
    (try simp only [hl38_2])
    (try simp only [hl38_2] at HO_6)
    cases gk with
    | zero=>exact absurd HA.out (by simp [impl_Gather.l1])
    | succ k2 =>
     have H:=HA.out;clear HA;simp only [impl_Gather.l1] at H
     by_cases c21 : x40_2 < (x3_1.length : Int)
     ·rw [if_pos c21] at H;have c21b0 : decide (x40_2 < (x3_1.length : Int)) = true:=decide_eq_true c21;clear c21
      by_cases c22 : 0 ≤ x40_2
      ·rw [if_pos c22] at H;have c22b0 : decide (0 ≤ x40_2) = true:=decide_eq_true c22;clear c22
       by_cases c23 : x40_2 < (t461.length : Int)
       ·rw [if_pos c23] at H;have c23b0 : decide (x40_2 < (t461.length : Int)) = true:=decide_eq_true c23;clear c23;replace H:=Option.bind_eq_some_iff.mp H;obtain ⟨⟨t463,t464,t465,t468⟩,A240,H⟩:=H;replace H : (if t468 = true then (if x6_2.length < 3518437208883 then (impl_Gather.l1 k2 l0 (x6_2 ++ [(⟨t463,t464,t465⟩ : S40)]) t461 (x3_1.length : Int) (wrap64 (x40_2 + 1))) else (none)) else (impl_Gather.l1 k2 l0 x6_2 t461 (x3_1.length : Int) (wrap64 (x40_2 + 1)))) = some r:=H;have A24:=zMk A240;clear A240
        by_cases c25 : t468 = true
        ·subst c25;have H1 : (if x6_2.length < 3518437208883 then (impl_Gather.l1 k2 l0 (x6_2 ++ [(⟨t463,t464,t465⟩ : S40)]) t461 (x3_1.length : Int) (wrap64 (x40_2 + 1))) else (none)) = some r:=by rw [if_pos rfl] at H;exact H
         clear H;have H:=H1;clear H1
         by_cases c26 : x6_2.length < 3518437208883
         ·rw [if_pos c26] at H;have LMc26:=zMk c26;clear c26;obtain ⟨y470,hy470⟩ : ∃ y_ : List (S40),y_ = (x6_2 ++ [(⟨t463,t464,t465⟩ : S40)]):=⟨_,rfl⟩;replace H : (impl_Gather.l1 k2 l0 y470 t461 (x3_1.length : Int) (wrap64 (x40_2 + 1))) = some r:=by first | (rw [hy470];with_reducible exact H) | (have H2_:=(Option.bind_some _ _).symm.trans H;rw [hy470];with_reducible exact H2_) | (have H2_:=(Option.bind_some _ _).symm.trans H;with_reducible exact H2_) | with_reducible exact H | (rw [hy470];exact H) | exact H
          have Ny470:=zMk hy470;clear hy470;have H':=zMk H;clear H;have p462 : 0 ≤ (x40_2 : Int):=zDe (by first | (with_reducible assumption) | assumption);have q462 : x40_2 < (t461.length : Int):=zDe (by first | (with_reducible assumption) | assumption);obtain ⟨ad462,e462,hx462_0⟩:=Kd.at_int (Kd.R_reads' HO_38.out).2.2 x40_2 p462 q462;cases e462;replace p462:=eq_true p462;replace q462:=eq_true q462;go_wp2_with (first | ((with_reducible refine gate_callee (f:=37) rfl ?_);refine goesL_ (some 47) rfl rfl Try.func37 (by kernel_rfl) rfl #[.slice A0 l0.length c0,.int .i64 (rd t461 x40_2)] rfl (by (try simp only [List.map_toArray,List.map_cons,List.map_nil]);first | done | rfl | (simp only [List.length_drop,List.length_take];rfl)) ?_;(with_reducible refine (impl_gathered.calls k2 _ _ l0 (rd t461 x40_2) t463 t464 t465 true _ ?side1 ?side2 A24.out).mono ?_);(case side1=>repeat (first | exact (Kd.C_below HR0.out HB.out) | (with_reducible refine Kd.C_alloc ?_ _) | (with_reducible refine Kd.C_drewN ?_ _) | (with_reducible refine Kd.C_drew ?_)));(case side2=>exact HC0.out);rintro e w27 ⟨v466,rfl,ho0,hb⟩;refine ⟨_,rfl,?_⟩;have n0_:=zMk (Kd.S_elder' (ss HO_6) (Kd.R_base ho0) hb);have n1_:=zMk (Kd.R_below (rs HO_38) hb);have n2_:=zMk (Kd.R_lower ho0 (below_size (hs HB)));have n3_:=zMk (below_step (hs HB) hb);clear HO_6;clear HO_38;clear HB;have HO_6:=n0_;have HO_38:=n1_;have HO467:=n2_;have HB:=n3_;clear n0_ n1_ n2_ n3_;(try clear hb);(try clear hb2);(try clear hk);(try clear hi);(try clear ho0)) | ((with_reducible refine gate_dst (N:=9) rfl ?_);refine box_event ?hg (N:=9) ?hd (cs:=#[.int .i64 0,.int .i64 0,.slice none 0 0]) (t:=40) ?hr ?_;(case hd=>rfl);(case hg=>rfl);(case hr=>first | (go_simp;done) | (go_simp;rfl));intro gb469 hg w28 hbox hb;have n0_:=zMk (Kd.S_below (Kd.S_elderB (ss HO_6) gb469 (Nat.le_of_eq hg.symm)) hb);have n1_:=zMk (Kd.R_below (rs HO_38) hb);have n2_:=zMk (Kd.R_below (rs HO467) hb);have n3_:=zMk (below_step (hs HB) hb);have n4_:=zMk (hbox);have n5_:=zMk ((by rw [hg];exact (below_size (hs HB)) : w.heap.size ≤ gb469));have n6_:=zMk ((by rw [hg];exact (below_size (hs HB)) : w.heap.size ≤ gb469));clear HO_6;clear HO_38;clear HO467;clear HB;have HO_6:=n0_;have HO_38:=n1_;have HO467:=n2_;have HB:=n3_;have BK469:=n4_;have GW469:=n5_;have GE469:=n6_;clear n0_ n1_ n2_ n3_ n4_ n5_ n6_;clear hb hbox hg;have hcz29_0 : w28.cell? ⟨gb469,0,none⟩ = some (.int .i64 0):=(zCl BK469.out 0).trans rfl;have hcz29_1 : w28.cell? ⟨gb469,1,none⟩ = some (.int .i64 0):=(zCl BK469.out 1).trans rfl;have hcz29_2 : w28.cell? ⟨gb469,2,none⟩ = some (.slice none 0 0):=(zCl BK469.out 2).trans rfl;have hfz29_0:=zFr BK469.out 0;have hfz29_1:=zFr BK469.out 1;have hfz29_2:=zFr BK469.out 2;obtain ⟨Ao30,co30,eo30⟩:=Kd.R_slice HO467.out;subst eo30) | ((with_reducible refine gate_store (t:=40) (p:=9) rfl ?_);refine store_event (t:=40) (p:=9) (v:=?vo_w31) (w1:=(((w28.setCell ⟨gb469,0,none⟩ (.int .i64 t463)).setCell ⟨gb469,1,none⟩ (.int .i64 t464)).setCell ⟨gb469,2,none⟩ (.slice Ao30 t465.length co30))) ?hg ?ho ?hn ?hr ?_;(case ho=>rfl);(case hg=>rfl);(case hn=>rfl);(case hr=>first | (go_simp;done) | (go_simp;rfl));intro w31 hw;have n0_ : Aside0 (Kd.S k40 40 w31 w.heap.size (fun k_=>some k_ ≠ (.slice Ao30 t465.length co30 : Value).ownBlock ∧ k_ ≠ gb469) u6 x6_2):=⟨(by rw [hw];exact (by (with_reducible repeat (first | apply Kd.S_alloc | apply Kd.S_drewN | apply Kd.S_drew));exact Kd.S_mono (Kd.S_far (p:=⟨gb469,2,none⟩) (Kd.S_far (p:=⟨gb469,1,none⟩) (Kd.S_far (p:=⟨gb469,0,none⟩) (Kd.S_mono HO_6.out (fun k_ hk=>(⟨hk,hk.2⟩ : _ ∧ k_ ≠ gb469))) (fun _ hk=>hk.2) (.int .i64 t463)) (fun _ hk=>hk.2) (.int .i64 t464)) (fun _ hk=>hk.2) (.slice Ao30 t465.length co30)) (fun _ hk=>⟨hk.1.1.2,hk.1.2⟩)))⟩;have n1_ : Aside0 (Kd.R (Kd.int .i64) 3 w31 w.heap.size (fun _=>True) (.slice (some ad462) t461.length co19) t461):=⟨(by rw [hw];exact (by (with_reducible repeat (first | apply Kd.R_alloc | apply Kd.R_drewN | apply Kd.R_drew));exact Kd.R_mono (Kd.R_far (p:=⟨gb469,2,none⟩) (Kd.R_far (p:=⟨gb469,1,none⟩) (Kd.R_far (p:=⟨gb469,0,none⟩) (Kd.R_types HO_38.out BK469.out (by decide)) (fun _ hk=>hk.2) (.int .i64 t463)) (fun _ hk=>hk.2) (.int .i64 t464)) (fun _ hk=>hk.2) (.slice Ao30 t465.length co30)) (fun _ hk=>trivial)))⟩;have n2_ : Aside0 (Kd.R k45 45 w31 w.heap.size (fun _=>True) (.slice Ao30 t465.length co30) t465):=⟨(by rw [hw];exact (by (with_reducible repeat (first | apply Kd.R_alloc | apply Kd.R_drewN | apply Kd.R_drew));exact Kd.R_mono (Kd.R_far (p:=⟨gb469,2,none⟩) (Kd.R_far (p:=⟨gb469,1,none⟩) (Kd.R_far (p:=⟨gb469,0,none⟩) (Kd.R_types HO467.out BK469.out (by decide)) (fun _ hk=>hk.2) (.int .i64 t463)) (fun _ hk=>hk.2) (.int .i64 t464)) (fun _ hk=>hk.2) (.slice Ao30 t465.length co30)) (fun _ hk=>trivial)))⟩;have n3_ : Aside0 (w31.heap[gb469]? = some (.cells #[.int .i64 t463,.int .i64 t464,.slice Ao30 t465.length co30] 40 (0,0))):=⟨(by rw [hw];exact (by (with_reducible repeat (first | refine blk_drewN ?_ _ | refine blk_drew ?_ | refine blk_alloc ?_ _));refine blk_put (cs:=#[.int .i64 t463,.int .i64 t464,.slice none 0 0]) ?_ 2 _ rfl;(with_reducible repeat (first | refine blk_drewN ?_ _ | refine blk_drew ?_ | refine blk_alloc ?_ _));refine blk_put (cs:=#[.int .i64 t463,.int .i64 0,.slice none 0 0]) ?_ 1 _ rfl;(with_reducible repeat (first | refine blk_drewN ?_ _ | refine blk_drew ?_ | refine blk_alloc ?_ _));refine blk_put (cs:=#[.int .i64 0,.int .i64 0,.slice none 0 0]) ?_ 0 _ rfl;(with_reducible repeat (first | refine blk_drewN ?_ _ | refine blk_drew ?_ | refine blk_alloc ?_ _));exact BK469.out))⟩;have n4_ : Aside0 (Below w.heap.size w w31):=⟨(by rw [hw];exact (hs1 HB GE469))⟩;clear hw;clear HO_6;clear HO_38;clear HO467;clear BK469;clear HB;have HO_6:=n0_;have HO_38:=n1_;have HO467:=n2_;have BK469:=n3_;have HB:=n4_;clear n0_ n1_ n2_ n3_ n4_;have hcz32_0 : w31.cell? ⟨gb469,0,none⟩ = some (.int .i64 t463):=(zCl BK469.out 0).trans rfl;have hcz32_1 : w31.cell? ⟨gb469,1,none⟩ = some (.int .i64 t464):=(zCl BK469.out 1).trans rfl;have hcz32_2 : w31.cell? ⟨gb469,2,none⟩ = some (.slice Ao30 t465.length co30):=(zCl BK469.out 2).trans rfl;have hfz32_0:=zFr BK469.out 0;have hfz32_1:=zFr BK469.out 1;have hfz32_2:=zFr BK469.out 2) | ((with_reducible refine gate_builtin (b:=.append) (xs:=#[.tmp 51,.tmp 53]) rfl ?_);at_builtin;refine Kd.S_append k40 (w0:=w) w.heap.size rfl (.tmp 51) (.tmp 53) 37 40 (.agg #[(.int .i64 0),(.int .i64 0),(.slice none 0 0)]) 40 rfl Try.underlying37 info40 rfl (by decide) (by omega) u6 x6_2 (⟨t463,t464,t465⟩ : S40) [.int .i64 t463,.int .i64 t464,.slice Ao30 t465.length co30] (fun k_=>k_ ≠ gb469) (fun k_=>some k_ = (.slice Ao30 t465.length co30 : Value).ownBlock) rfl rfl ?aP (fun k_ hk_=>((Kd.R_mono (ok':=fun k_=>((fun k_=>k_ ≠ gb469)) k_ ∧ some k_ ≠ (u6 : Value).ownBlock) (Kd.R_types (Kd.R_apart' (HO467.out) (Kd.S_typed HO_6.out) (by decide)) BK469.out (by decide)) (fun k_ hk=>⟨hk.2,hk.1.2⟩))).1 k_ hk_.symm) ?aF ?aO ?aB ?aS ?aL ?_;(case aP=>exact k40_mkM _ _ _ (⟨t463,t464,t465⟩ : S40) (Kd.R_mono (Kd.R_tight rfl (Kd.R_mono (ok':=fun k_=>((fun k_=>k_ ≠ gb469)) k_ ∧ some k_ ≠ (u6 : Value).ownBlock) (Kd.R_types (Kd.R_apart' (HO467.out) (Kd.S_typed HO_6.out) (by decide)) BK469.out (by decide)) (fun k_ hk=>⟨hk.2,hk.1.2⟩))) (fun _ h_=>h_)));(case aB=>exact (hs1 HB GE469));(case aF=>exact (fun k_ hk=>Kd.freshB (g:=gb469) (o:=.cells #[.int .i64 t463,.int .i64 t464,.slice Ao30 t465.length co30] 40 (0,0)) (bs BK469) k_ hk));(case aO=>exact (by (with_reducible repeat (first | apply Kd.S_alloc | apply Kd.S_drewN | apply Kd.S_drew));exact Kd.S_mono HO_6.out (fun k_ hk=>⟨hk.2,fun e_=>hk.1 e_⟩)));(case aS=>exact (below_size (hs1 HB GE469)));(case aL=>have:=LMc26.out;omega);intro v471 w33 ho hb hg hat;rw [← Ny470.out] at ho;have n0_:=zMk (Kd.R_over' (rs HO_38) (Kd.S_typed (ss HO_6)) (by decide) hg);have n1_:=zMk (blk_grown (g:=gb469) (o:=.cells #[.int .i64 t463,.int .i64 t464,.slice Ao30 t465.length co30] 40 (0,0)) (bs BK469) hg (Kd.S_away HO_6.out (fun _ hk=>hk.2)));have n2_:=zMk (hb);have n3_:=zMk (ho);clear HO_38;clear BK469;clear HB;clear HO_6;clear HO467;have HO_38:=n0_;have BK469:=n1_;have HB:=n2_;have HO472:=n3_;clear n0_ n1_ n2_ n3_;clear ho hb hg hat))
          (try simp only [← hl38_2])
          go_roundg k2;case measure=>have:=HK1.out;have:=HK2.out;omega
          case rel=>exact ⟨(y470),(wrap64 (x40_2 + 1)),(by first | rfl | (simp;done) | (simp [*];done)),H',⟨by have:=HK1.out;have:=HK2.out;omega⟩,⟨by (try simp only [hl38_2]);(with_reducible repeat (first | apply Kd.S_alloc | apply Kd.S_drewN | apply Kd.S_drew));exact Kd.S_mono HO472.out (fun _ hk=>trivial)⟩,⟨by (try simp only [hl38_2]);(with_reducible repeat (first | apply Kd.R_alloc | apply Kd.R_drewN | apply Kd.R_drew));exact HO_38.out⟩,⟨hs1 HB GE469⟩⟩
         rw [if_neg c26] at H;exact absurd H (by simp)
        replace c25:=Bool.eq_false_iff.mpr c25;subst c25;have H1 : (impl_Gather.l1 k2 l0 x6_2 t461 (x3_1.length : Int) (wrap64 (x40_2 + 1))) = some r:=by rw [if_neg (show ¬ (false = true) by decide)] at H;exact H
        clear H;have H:=H1;clear H1;have H':=zMk H;clear H;have p462 : 0 ≤ (x40_2 : Int):=zDe (by first | (with_reducible assumption) | assumption);have q462 : x40_2 < (t461.length : Int):=zDe (by first | (with_reducible assumption) | assumption);obtain ⟨ad462,e462,hx462_0⟩:=Kd.at_int (Kd.R_reads' HO_38.out).2.2 x40_2 p462 q462;cases e462;replace p462:=eq_true p462;replace q462:=eq_true q462;go_wp2_with (first | ((with_reducible refine gate_callee (f:=37) rfl ?_);refine goesL_ (some 47) rfl rfl Try.func37 (by kernel_rfl) rfl #[.slice A0 l0.length c0,.int .i64 (rd t461 x40_2)] rfl (by (try simp only [List.map_toArray,List.map_cons,List.map_nil]);first | done | rfl | (simp only [List.length_drop,List.length_take];rfl)) ?_;(with_reducible refine (impl_gathered.calls k2 _ _ l0 (rd t461 x40_2) t463 t464 t465 false _ ?side1 ?side2 A24.out).mono ?_);(case side1=>repeat (first | exact (Kd.C_below HR0.out HB.out) | (with_reducible refine Kd.C_alloc ?_ _) | (with_reducible refine Kd.C_drewN ?_ _) | (with_reducible refine Kd.C_drew ?_)));(case side2=>exact HC0.out);rintro e w34 ⟨v466,rfl,ho0,hb⟩;refine ⟨_,rfl,?_⟩;have n0_:=zMk (Kd.S_elder' (ss HO_6) (Kd.R_base ho0) hb);have n1_:=zMk (Kd.R_below (rs HO_38) hb);have n2_:=zMk (Kd.R_lower ho0 (below_size (hs HB)));have n3_:=zMk (below_step (hs HB) hb);clear HO_6;clear HO_38;clear HB;have HO_6:=n0_;have HO_38:=n1_;have HO467:=n2_;have HB:=n3_;clear n0_ n1_ n2_ n3_;(try clear hb);(try clear hb2);(try clear hk);(try clear hi);(try clear ho0)) | ((with_reducible refine gate_dst (N:=9) rfl ?_);refine box_event ?hg (N:=9) ?hd (cs:=#[.int .i64 0,.int .i64 0,.slice none 0 0]) (t:=40) ?hr ?_;(case hd=>rfl);(case hg=>rfl);(case hr=>first | (go_simp;done) | (go_simp;rfl));intro gb469 hg w35 hbox hb;have n0_:=zMk (Kd.S_below (Kd.S_elderB (ss HO_6) gb469 (Nat.le_of_eq hg.symm)) hb);have n1_:=zMk (Kd.R_below (rs HO_38) hb);have n2_:=zMk (Kd.R_below (rs HO467) hb);have n3_:=zMk (below_step (hs HB) hb);have n4_:=zMk (hbox);have n5_:=zMk ((by rw [hg];exact (below_size (hs HB)) : w.heap.size ≤ gb469));have n6_:=zMk ((by rw [hg];exact (below_size (hs HB)) : w.heap.size ≤ gb469));clear HO_6;clear HO_38;clear HO467;clear HB;have HO_6:=n0_;have HO_38:=n1_;have HO467:=n2_;have HB:=n3_;have BK469:=n4_;have GW469:=n5_;have GE469:=n6_;clear n0_ n1_ n2_ n3_ n4_ n5_ n6_;clear hb hbox hg;have hcz36_0 : w35.cell? ⟨gb469,0,none⟩ = some (.int .i64 0):=(zCl BK469.out 0).trans rfl;have hcz36_1 : w35.cell? ⟨gb469,1,none⟩ = some (.int .i64 0):=(zCl BK469.out 1).trans rfl;have hcz36_2 : w35.cell? ⟨gb469,2,none⟩ = some (.slice none 0 0):=(zCl BK469.out 2).trans rfl;have hfz36_0:=zFr BK469.out 0;have hfz36_1:=zFr BK469.out 1;have hfz36_2:=zFr BK469.out 2;obtain ⟨Ao37,co37,eo37⟩:=Kd.R_slice HO467.out;subst eo37))
        (try simp only [← hl38_2])
        go_roundg k2;case measure=>have:=HK1.out;have:=HK2.out;omega
        case rel=>exact ⟨(x6_2),(wrap64 (x40_2 + 1)),(by first | rfl | (simp;done) | (simp [*];done)),H',⟨by have:=HK1.out;have:=HK2.out;omega⟩,⟨by (try simp only [hl38_2]);(with_reducible repeat (first | apply Kd.S_alloc | apply Kd.S_drewN | apply Kd.S_drew));exact Kd.S_mono (Kd.S_far (p:=⟨gb469,2,none⟩) (Kd.S_far (p:=⟨gb469,1,none⟩) (Kd.S_far (p:=⟨gb469,0,none⟩) (Kd.S_mono HO_6.out (fun k_ hk=>(⟨hk,hk.2⟩ : _ ∧ k_ ≠ gb469))) (fun _ hk=>hk.2) (.int .i64 t463)) (fun _ hk=>hk.2) (.int .i64 t464)) (fun _ hk=>hk.2) (.slice Ao37 t465.length co37)) (fun _ hk=>trivial)⟩,⟨by (try simp only [hl38_2]);(with_reducible repeat (first | apply Kd.R_alloc | apply Kd.R_drewN | apply Kd.R_drew));exact Kd.R_mono (Kd.R_far (p:=⟨gb469,2,none⟩) (Kd.R_far (p:=⟨gb469,1,none⟩) (Kd.R_far (p:=⟨gb469,0,none⟩) (Kd.R_types HO_38.out BK469.out (by decide)) (fun _ hk=>hk.2) (.int .i64 t463)) (fun _ hk=>hk.2) (.int .i64 t464)) (fun _ hk=>hk.2) (.slice Ao37 t465.length co37)) (fun _ hk=>trivial)⟩,⟨hs1 HB GE469⟩⟩
       rw [if_neg c23] at H;exact absurd H (by simp)
      rw [if_neg c22] at H;exact absurd H (by simp)
     rw [if_neg c21] at H;have c21b0 : decide (x40_2 < (x3_1.length : Int)) = false:=decide_eq_false c21
     (try rw [hl38_2] at c21b0)
     clear c21;obtain rfl:=Option.some.inj H
     go_wp2
     go_ret
     exact ⟨_,by first | rfl | (simp [errW_none,errW_some] <;> rfl) | (simp [*,errW_none,errW_some] <;> rfl),ss HO_6,hs HB⟩
theorem eqA45 (d : Nat) (w : World) (x0 y0 : Int) (x1 y1 : Int) (x2 y2 : Int) (x3 y3 : Int) :
  (Op.equalIn (d + 2) 45 (.agg #[.int .i64 x0,.int .i64 x1,.int .i64 x2,.int .i64 x3]) (.agg #[.int .i64 y0,.int .i64 y1,.int .i64 y2,.int .i64 y3])).run Try.prog w = .ok (x0 == y0 && (x1 == y1 && (x2 == y2 && (x3 == y3)))) w:=by
 refine eqA_of Try.underlying45 (by kernel_rfl) ?_;refine eqf_cons (by rfl) (by go_simp;rfl) (by go_simp;rfl) (by go_simp) ?_;refine eqf_cons (by rfl) (by go_simp;rfl) (by go_simp;rfl) (by go_simp) ?_;refine eqf_cons (by rfl) (by go_simp;rfl) (by go_simp;rfl) (by go_simp) ?_;exact eqf_last (by rfl) (by go_simp;rfl) (by go_simp;rfl) (by go_simp)
attribute [local go_sem high] eqA45
def laws_sameRecs.l0 : Nat → List (S45) → List (S45) → Int → Option (Bool)
 | 0,_,_,_=>none
 | k + 1,x0,x1,x5=>if x5 < (x0.length : Int) then (if 0 ≤ x5 then (if x5 < (x1.length : Int) then (if (!(((rd_T45 x0 x5).f0) == ((rd_T45 x1 x5).f0)) || (!(((rd_T45 x0 x5).f1) == ((rd_T45 x1 x5).f1)) || (!(((rd_T45 x0 x5).f2) == ((rd_T45 x1 x5).f2)) || (!(((rd_T45 x0 x5).f3) == ((rd_T45 x1 x5).f3)))))) = true then (some false) else (laws_sameRecs.l0 k x0 x1 (wrap64 (x5 + 1)))) else (none)) else (none)) else (some true)
def laws_sameRecs.f (k : Nat) (l0 : List (S45)) (l1 : List (S45)) : Option (Bool):=if (l0.length : Int) = (l1.length : Int) then (laws_sameRecs.l0 k l0 l1 0) else (some false)
theorem laws_sameRecs.mono_l : ∀ k,(∀ y0 y1 y2,LeO (laws_sameRecs.l0 k y0 y1 y2) (laws_sameRecs.l0 (k + 1) y0 y1 y2))
 | 0=>fun _ _ _ r h=>by simp [laws_sameRecs.l0] at h
 | k + 1=>by
  have ih0:=laws_sameRecs.mono_l k;intro y0 y1 y2;unfold laws_sameRecs.l0
  repeat' first
  | (with_reducible exact ih0 _ _ _)
  | (with_reducible exact LeO.refl _)
  | (with_reducible exact LeO.none _)
  | (with_reducible refine LeO.ite ?_ ?_)
  | (with_reducible refine LeO.bind ?_ (fun _=>?_))
  | exact ih0 _ _ _
  | exact LeO.none _
  | refine LeO.ite ?_ ?_
  | refine LeO.bind ?_ (fun _=>?_)
theorem laws_sameRecs.mono : ∀ a0 a1 k,LeO (laws_sameRecs.f k a0 a1) (laws_sameRecs.f (k + 1) a0 a1):=by
 intro a0 a1 k;have ih0:=laws_sameRecs.mono_l k;unfold laws_sameRecs.f
 repeat' first
   | (with_reducible exact ih0 _ _ _)
   | (with_reducible exact LeO.refl _)
   | (with_reducible exact LeO.none _)
   | (with_reducible refine LeO.ite ?_ ?_)
   | (with_reducible refine LeO.bind ?_ (fun _=>?_))
   | exact ih0 _ _ _
   | exact LeO.none _
   | refine LeO.ite ?_ ?_
   | refine LeO.bind ?_ (fun _=>?_)
set_option maxHeartbeats 8000000 in
set_option maxRecDepth 100000 in
theorem laws_sameRecs.calls (k : Nat) (A0 : Option Addr) (c0 : Nat) (l0 : List (S45)) (A1 : Option Addr) (c1 : Nat) (l1 : List (S45)) (r : Bool) (w : World) (hr0 : Kd.C k45 w A0 l0.length l0) (hc0 : l0.length ≤ c0) (hr1 : Kd.C k45 w A1 l1.length l1) (hc1 : l1.length ≤ c1) (h : laws_sameRecs.f k l0 l1 = some r) :
  Calls Try.prog 14 #[.slice A0 l0.length c0,.slice A1 l1.length c1] w fun e w'=>e = .returned (.bool r) ∧ Drawn0 w w':=by
 have hu45:=Try.underlying45;have HR0:=zMk hr0;have HC0:=zMk hc0;clear hr0 hc0;have HR1:=zMk hr1;have HC1:=zMk hc1;clear hr1 hc1;have H : (if (l0.length : Int) = (l1.length : Int) then (laws_sameRecs.l0 k l0 l1 0) else (some false)) = some r:=h;clear h
 by_cases c3 : (l0.length : Int) = (l1.length : Int)
 ·rw [if_pos c3] at H;have c3b0 : ((l0.length : Int) == (l1.length : Int)) = true:=beq_iff_eq.mpr c3;have c3b1 : ((l0.length : Int) != (l1.length : Int)) = false:=bne_eq_false_iff_eq.mpr c3;have c3b2 : (l0.length == l1.length) = true:=by first | simpa using c3 | (simp at c3 ⊢;omega)
  clear c3;have H':=zMk H;clear H
  go_enter Try.func14,Try.ntmps14
  go_wp2
  repeat (go_quiet (fail);try go_wp2)
  go_loopg [5] k (fun kq v5 w'=>∃ (x5_1 : Int),v5 = .int .i64 x5_1 ∧ Aside0 (laws_sameRecs.l0 kq l0 l1 x5_1 = some r) ∧ Aside0 (kq ≤ k) ∧ Drawn0 w w');case atStart=>exact ⟨(0),(by first | rfl | (simp;done) | (simp [*];done)),H',⟨Nat.le_refl _⟩,by repeat (first | exact Drawn0.refl _ | apply Drawn0.step)⟩
  case round =>
   clear H'
   try clear c1
   try clear p2
   try clear c3
   try clear c3b0
   try clear c3b1
   try clear c3b2
   obtain ⟨x5_1,rfl,HA,HK1,⟨m1,rfl⟩⟩:=hrel;cases gk with
   | zero=>exact absurd HA.out (by simp [laws_sameRecs.l0])
   | succ k1 =>
    have H:=HA.out;clear HA;simp only [laws_sameRecs.l0] at H
    by_cases c4 : x5_1 < (l0.length : Int)
    ·rw [if_pos c4] at H;have c4b0 : decide (x5_1 < (l0.length : Int)) = true:=decide_eq_true c4;clear c4
     by_cases c5 : 0 ≤ x5_1
     ·rw [if_pos c5] at H;have c5b0 : decide (0 ≤ x5_1) = true:=decide_eq_true c5;clear c5
      by_cases c6 : x5_1 < (l1.length : Int)
      ·rw [if_pos c6] at H;have c6b0 : decide (x5_1 < (l1.length : Int)) = true:=decide_eq_true c6;clear c6
       by_cases c7 : (!(((rd_T45 l0 x5_1).f0) == ((rd_T45 l1 x5_1).f0)) || (!(((rd_T45 l0 x5_1).f1) == ((rd_T45 l1 x5_1).f1)) || (!(((rd_T45 l0 x5_1).f2) == ((rd_T45 l1 x5_1).f2)) || (!(((rd_T45 l0 x5_1).f3) == ((rd_T45 l1 x5_1).f3)))))) = true
       ·rw [if_pos c7] at H;have c7b0 : (!(((rd_T45 l0 x5_1).f0) == ((rd_T45 l1 x5_1).f0)) || (!(((rd_T45 l0 x5_1).f1) == ((rd_T45 l1 x5_1).f1)) || (!(((rd_T45 l0 x5_1).f2) == ((rd_T45 l1 x5_1).f2)) || (!(((rd_T45 l0 x5_1).f3) == ((rd_T45 l1 x5_1).f3)))))) = true:=c7;clear c7;obtain rfl:=Option.some.inj H;have p473 : 0 ≤ (x5_1 : Int):=zDe (by first | (with_reducible assumption) | assumption);have q473 : x5_1 < (l0.length : Int):=zDe (by first | (with_reducible assumption) | assumption);obtain ⟨ad473,e473,hx473_0,hx473_1,hx473_2,hx473_3⟩:=at_T45 HR0.out x5_1 p473 q473;cases e473;replace p473:=eq_true p473;replace q473:=eq_true q473;have p474 : 0 ≤ (x5_1 : Int):=zDe (by first | (with_reducible assumption) | assumption);have q474 : x5_1 < (l1.length : Int):=zDe (by first | (with_reducible assumption) | assumption);obtain ⟨ad474,e474,hx474_0,hx474_1,hx474_2,hx474_3⟩:=at_T45 HR1.out x5_1 p474 q474;cases e474;replace p474:=eq_true p474;replace q474:=eq_true q474
        go_wp2
        repeat (go_quiet (fail);try go_wp2)
        go_ret
        exact ⟨by first | rfl | (simp;done) | (simp [*];done),by repeat (first | exact Drawn0.refl _ | apply Drawn0.step)⟩
       rw [if_neg c7] at H;have c7b0 : (!(((rd_T45 l0 x5_1).f0) == ((rd_T45 l1 x5_1).f0)) || (!(((rd_T45 l0 x5_1).f1) == ((rd_T45 l1 x5_1).f1)) || (!(((rd_T45 l0 x5_1).f2) == ((rd_T45 l1 x5_1).f2)) || (!(((rd_T45 l0 x5_1).f3) == ((rd_T45 l1 x5_1).f3)))))) = false:=by simpa using c7
       clear c7;have H':=zMk H;clear H;have p473 : 0 ≤ (x5_1 : Int):=zDe (by first | (with_reducible assumption) | assumption);have q473 : x5_1 < (l0.length : Int):=zDe (by first | (with_reducible assumption) | assumption);obtain ⟨ad473,e473,hx473_0,hx473_1,hx473_2,hx473_3⟩:=at_T45 HR0.out x5_1 p473 q473;cases e473;replace p473:=eq_true p473;replace q473:=eq_true q473;have p474 : 0 ≤ (x5_1 : Int):=zDe (by first | (with_reducible assumption) | assumption);have q474 : x5_1 < (l1.length : Int):=zDe (by first | (with_reducible assumption) | assumption);obtain ⟨ad474,e474,hx474_0,hx474_1,hx474_2,hx474_3⟩:=at_T45 HR1.out x5_1 p474 q474;cases e474;replace p474:=eq_true p474;replace q474:=eq_true q474
       go_wp2
       repeat (go_quiet (fail);try go_wp2)
       go_roundg k1;case measure=>have:=HK1.out;omega
       case rel=>exact ⟨(wrap64 (x5_1 + 1)),(by first | rfl | (simp;done) | (simp [*];done)),H',⟨by have:=HK1.out;omega⟩,by repeat (first | exact Drawn0.refl _ | apply Drawn0.step)⟩
      rw [if_neg c6] at H;exact absurd H (by simp)
     rw [if_neg c5] at H;exact absurd H (by simp)
    rw [if_neg c4] at H;have c4b0 : decide (x5_1 < (l0.length : Int)) = false:=decide_eq_false c4;clear c4;obtain rfl:=Option.some.inj H
    go_wp2
    repeat (go_quiet (fail);try go_wp2)
    go_ret
    exact ⟨by first | rfl | (simp;done) | (simp [*];done),by repeat (first | exact Drawn0.refl _ | apply Drawn0.step)⟩
 rw [if_neg c3] at H;have c3b0 : ((l0.length : Int) == (l1.length : Int)) = false:=beq_eq_false_iff_ne.mpr c3;have c3b1 : ((l0.length : Int) != (l1.length : Int)) = true:=bne_iff_ne.mpr c3;have c3b2 : (l0.length == l1.length) = false:=by first | simpa using c3 | (simp at c3 ⊢;omega)
 obtain rfl:=Option.some.inj H
 go_enter Try.func14,Try.ntmps14
 go_wp2
 repeat (go_quiet (fail);try go_wp2)
 go_ret
 exact ⟨by first | rfl | (simp;done) | (simp [*];done),by repeat (first | exact Drawn0.refl _ | apply Drawn0.step)⟩
def spec_DrawRecords.f (k : Nat) (l0 : List Int) : Option ((List (S45))):=(spec_l01New.f k l0).bind fun bt529=>((spec_l09Recs.f k bt529.1 bt529.2.1 bt529.2.2).bind fun bt533=>(some bt533.1))
theorem spec_DrawRecords.mono : ∀ a0 k,LeO (spec_DrawRecords.f k a0) (spec_DrawRecords.f (k + 1) a0):=by
 intro a0 k;unfold spec_DrawRecords.f
 repeat' first
   | (with_reducible exact spec_l01New.mono _ _)
   | (with_reducible exact spec_l09Recs.mono _ _ _ _)
   | (with_reducible exact LeO.refl _)
   | (with_reducible exact LeO.none _)
   | (with_reducible refine LeO.ite ?_ ?_)
   | (with_reducible refine LeO.bind ?_ (fun _=>?_))
   | exact spec_l01New.mono _ _
   | exact spec_l09Recs.mono _ _ _ _
   | exact LeO.none _
   | refine LeO.ite ?_ ?_
   | refine LeO.bind ?_ (fun _=>?_)
set_option maxHeartbeats 8000000 in
set_option maxRecDepth 100000 in
theorem spec_DrawRecords.calls (k : Nat) (A0 : Option Addr) (c0 : Nat) (l0 : List Int) (r : List (S45)) (w : World) (hr0 : Kd.C (Kd.int .u8) w A0 l0.length l0) (hc0 : l0.length ≤ c0) (h : spec_DrawRecords.f k l0 = some r) :
  Calls Try.prog 15 #[.slice A0 l0.length c0] w fun e w'=>∃ v0_ : Value,e = .returned (v0_) ∧ Kd.R k45 45 w' w.heap.size (fun _=>True) v0_ r ∧ Below w.heap.size w w':=by
 have HR0:=zMk hr0;have HC0:=zMk hc0;clear hr0 hc0;have HB:=zMk (Below.refl w.heap.size w);have H : ((spec_l01New.f k l0).bind fun bt529=>((spec_l09Recs.f k bt529.1 bt529.2.1 bt529.2.2).bind fun bt533=>(some bt533.1))) = some r:=h;clear h;replace H:=Option.bind_eq_some_iff.mp H;obtain ⟨⟨t529,t530,t531⟩,A20,H⟩:=H;replace H : ((spec_l09Recs.f k t529 t530 t531).bind fun bt533=>(some bt533.1)) = some r:=H;have A2:=zMk A20;clear A20;replace H:=Option.bind_eq_some_iff.mp H;obtain ⟨⟨t533,t536,t537⟩,A30,H⟩:=H;replace H : (some t533) = some r:=H;have A3:=zMk A30;clear A30;obtain rfl:=Option.some.inj H
 go_enter Try.func15,Try.ntmps15
 go_wp2_with (first | ((with_reducible refine gate_callee (f:=26) rfl ?_);refine goesL_ (some 4) rfl rfl Try.func26 (by kernel_rfl) rfl #[.slice A0 l0.length c0] rfl (by (try simp only [List.map_toArray,List.map_cons,List.map_nil]);first | done | rfl | (simp only [List.length_drop,List.length_take];rfl)) ?_;(with_reducible refine (spec_l01New.calls k _ _ l0 t529 t530 t531 w _ ?side1 ?side2 ?side3 A2.out).mono ?_);(case side1=>repeat (first | (with_reducible first | exact HB.out | apply below_alloc | apply pw_below_drewN | apply below_drew1) | exact HB.out));(case side2=>exact HR0.out);(case side3=>exact HC0.out);rintro e w4 ⟨g532,rfl,hi,hb,hb2⟩;refine ⟨_,rfl,?_⟩;have n0_:=zMk (hb);have n1_:=zMk (hi);clear HB;have HB:=n0_;have HI532:=n1_;clear n0_ n1_;(try clear hb);(try clear hb2);(try clear hk);(try clear hi)) | ((with_reducible refine gate_callee (f:=27) rfl ?_);refine goesL_ (some 5) rfl rfl Try.func27 (by kernel_rfl) rfl #[.pointer (some ⟨g532,0,none⟩)] rfl (by (try simp only [List.map_toArray,List.map_cons,List.map_nil]);first | done | rfl | (simp only [List.length_drop,List.length_take];rfl)) ?_;(with_reducible refine (spec_l09Recs.calls k g532 t529 t530 t531 t533 t536 t537 w _ ?side1 ?side2 A3.out).mono ?_);(case side1=>repeat (first | (with_reducible first | exact HI532.out | apply IsS80.alloc | apply IsS80.drewN | apply IsS80.drew | apply IsS80.set_1 | apply IsS80.set_2) | exact HI532.out));(case side2=>repeat (first | (with_reducible first | exact HB.out | apply below_alloc | apply pw_below_drewN | apply below_drew1 | refine below_set ?_ (IsS80.ge HI532.out)) | exact HB.out));rintro e w5 ⟨v534,rfl,ho0,hi,hb,hk⟩;refine ⟨_,rfl,?_⟩;have n0_:=zMk (Kd.R_lower ho0 (below_size (by repeat (first | (with_reducible first | exact HB.out | apply below_alloc | apply pw_below_drewN | apply below_drew1 | refine below_set ?_ (IsS80.ge HI532.out)) | exact HB.out))));have n1_:=zMk (hb);have n2_:=zMk (hi);clear HB;clear HI532;have HO535:=n0_;have HB:=n1_;have HI532:=n2_;clear n0_ n1_ n2_;(try clear hb);(try clear hb2);(try clear hk);(try clear hi);(try clear ho0)))
 go_ret
 exact ⟨_,by first | rfl | (simp [errW_none,errW_some] <;> rfl) | (simp [*,errW_none,errW_some] <;> rfl),rs HO535,by repeat (first | (with_reducible first | exact HB.out | apply below_alloc | apply pw_below_drewN | apply below_drew1 | refine below_set ?_ (IsS80.ge HI532.out)) | exact HB.out)⟩
def impl_isBase.f (a0_0 : Int) (a0_1 : Int) (l0_2 : List (S45)) : Option (Bool):=if (l0_2.length : Int) > 0 then (if 0 < (l0_2.length : Int) then (some (((rd_T45 l0_2 0).f0) == 1)) else (none)) else (some false)
set_option maxHeartbeats 8000000 in
set_option maxRecDepth 100000 in
theorem impl_isBase.calls (a0_0 : Int) (a0_1 : Int) (A0_2 : Option Addr) (c0_2 : Nat) (l0_2 : List (S45)) (r : Bool) (w : World) (hr0_2 : Kd.C k45 w A0_2 l0_2.length l0_2) (hc0_2 : l0_2.length ≤ c0_2) (h : impl_isBase.f a0_0 a0_1 l0_2 = some r) :
  Calls Try.prog 38 #[.agg #[.int .i64 a0_0,.int .i64 a0_1,.slice A0_2 l0_2.length c0_2]] w fun e w'=>e = .returned (.bool r) ∧ Below w.heap.size w w':=by
 have hu40:=Try.underlying40;have HR0_2:=zMk hr0_2;have HC0_2:=zMk hc0_2;clear hr0_2 hc0_2;have HB:=zMk (Below.refl w.heap.size w);have H : (if (l0_2.length : Int) > 0 then (if 0 < (l0_2.length : Int) then (some (((rd_T45 l0_2 0).f0) == 1)) else (none)) else (some false)) = some r:=h;clear h
 by_cases c2 : (l0_2.length : Int) > 0
 ·rw [if_pos c2] at H;have c2b0 : decide (0 < (l0_2.length : Int)) = true:=decide_eq_true c2;have c2b1 : decide (0 < l0_2.length) = true:=decide_eq_true (by omega);clear c2
  by_cases c3 : 0 < (l0_2.length : Int)
  ·rw [if_pos c3] at H;have c3b0 : decide (0 < (l0_2.length : Int)) = true:=decide_eq_true c3;have c3b1 : decide (0 < l0_2.length) = true:=decide_eq_true (by omega);clear c3;obtain rfl:=Option.some.inj H
   go_enter Try.func38,Try.ntmps38
   go_wp2_with (first | ((with_reducible refine gate_dst (N:=1) rfl ?_);refine box_event ?hg (N:=1) ?hd (cs:=#[.int .i64 a0_0,.int .i64 a0_1,.slice A0_2 l0_2.length c0_2]) (t:=40) ?hr ?_;(case hd=>rfl);(case hg=>rfl);(case hr=>first | (go_simp;done) | (go_simp;rfl));intro gb538 hg w4 hbox hb;have n0_:=zMk (below_step (hs HB) hb);have n1_:=zMk (hbox);have n2_:=zMk ((by rw [hg];exact (below_size (hs HB)) : w.heap.size ≤ gb538));have n3_:=zMk ((by rw [hg];exact (below_size (hs HB)) : w.heap.size ≤ gb538));clear HB;have HB:=n0_;have BK538:=n1_;have GW538:=n2_;have GE538:=n3_;clear n0_ n1_ n2_ n3_;clear hb hbox hg;have hcz5_0 : w4.cell? ⟨gb538,0,none⟩ = some (.int .i64 a0_0):=(zCl BK538.out 0).trans rfl;have hcz5_1 : w4.cell? ⟨gb538,1,none⟩ = some (.int .i64 a0_1):=(zCl BK538.out 1).trans rfl;have hcz5_2 : w4.cell? ⟨gb538,2,none⟩ = some (.slice A0_2 l0_2.length c0_2):=(zCl BK538.out 2).trans rfl;have hfz5_0:=zFr BK538.out 0;have hfz5_1:=zFr BK538.out 1;have hfz5_2:=zFr BK538.out 2;have p539 : 0 ≤ (0 : Int):=(by omega);have q539 : 0 < (l0_2.length : Int):=zDe (by first | (with_reducible assumption) | assumption);obtain ⟨ad539,e539,hx539_0,hx539_1,hx539_2,hx539_3⟩:=at_T45 HR0_2.out 0 p539 q539;cases e539;have qi539 : (0 < l0_2.length) = True:=eq_true (by omega);(try rw [show ((0 : Int)).toNat = 0 from rfl] at hx539_0);(try rw [show 0 * 4 = 0 from rfl] at hx539_0);(try rw [Addr.add_zero'] at hx539_0);(try rw [show ((0 : Int)).toNat = 0 from rfl] at hx539_1);(try rw [show 0 * 4 = 0 from rfl] at hx539_1);(try rw [Addr.add_zero'] at hx539_1);(try rw [show ((0 : Int)).toNat = 0 from rfl] at hx539_2);(try rw [show 0 * 4 = 0 from rfl] at hx539_2);(try rw [Addr.add_zero'] at hx539_2);(try rw [show ((0 : Int)).toNat = 0 from rfl] at hx539_3);(try rw [show 0 * 4 = 0 from rfl] at hx539_3);(try rw [Addr.add_zero'] at hx539_3);replace hx539_0:=(HB.out.cell (zBl w _ hx539_0)).trans hx539_0;replace hx539_1:=(HB.out.cell (zBl w _ hx539_1)).trans hx539_1;replace hx539_2:=(HB.out.cell (zBl w _ hx539_2)).trans hx539_2;replace hx539_3:=(HB.out.cell (zBl w _ hx539_3)).trans hx539_3;replace p539:=eq_true p539;replace q539:=eq_true q539))
   go_ret
   exact ⟨by first | rfl | (simp [errW_none,errW_some] <;> rfl) | (simp [*,errW_none,errW_some] <;> rfl),hs1 HB GE538⟩
  rw [if_neg c3] at H;exact absurd H (by simp)
 rw [if_neg c2] at H;have c2b0 : decide (0 < (l0_2.length : Int)) = false:=decide_eq_false c2;have c2b1 : decide (0 < l0_2.length) = false:=decide_eq_false (by omega);clear c2;obtain rfl:=Option.some.inj H
 go_enter Try.func38,Try.ntmps38
 go_wp2_with (first | ((with_reducible refine gate_dst (N:=1) rfl ?_);refine box_event ?hg (N:=1) ?hd (cs:=#[.int .i64 a0_0,.int .i64 a0_1,.slice A0_2 l0_2.length c0_2]) (t:=40) ?hr ?_;(case hd=>rfl);(case hg=>rfl);(case hr=>first | (go_simp;done) | (go_simp;rfl));intro gb538 hg w6 hbox hb;have n0_:=zMk (below_step (hs HB) hb);have n1_:=zMk (hbox);have n2_:=zMk ((by rw [hg];exact (below_size (hs HB)) : w.heap.size ≤ gb538));have n3_:=zMk ((by rw [hg];exact (below_size (hs HB)) : w.heap.size ≤ gb538));clear HB;have HB:=n0_;have BK538:=n1_;have GW538:=n2_;have GE538:=n3_;clear n0_ n1_ n2_ n3_;clear hb hbox hg;have hcz7_0 : w6.cell? ⟨gb538,0,none⟩ = some (.int .i64 a0_0):=(zCl BK538.out 0).trans rfl;have hcz7_1 : w6.cell? ⟨gb538,1,none⟩ = some (.int .i64 a0_1):=(zCl BK538.out 1).trans rfl;have hcz7_2 : w6.cell? ⟨gb538,2,none⟩ = some (.slice A0_2 l0_2.length c0_2):=(zCl BK538.out 2).trans rfl;have hfz7_0:=zFr BK538.out 0;have hfz7_1:=zFr BK538.out 1;have hfz7_2:=zFr BK538.out 2))
 go_ret
 exact ⟨by first | rfl | (simp [errW_none,errW_some] <;> rfl) | (simp [*,errW_none,errW_some] <;> rfl),hs1 HB GE538⟩
mutual
def impl_SinceBase.l0 : Nat → List (S40) → Int → List (S40) → Int → Int → Option ((List (S40)))
 | 0,_,_,_,_,_=>none
 | k + 1,x0,x3,x9,x10,x11=>if x11 < x10 then (if 0 ≤ x11 then (if x11 < (x9.length : Int) then ((impl_isBase.f ((rd_T40 x9 x11).f0) ((rd_T40 x9 x11).f1) ((rd_T40 x9 x11).f2)).bind fun t542=>(if t542 = true then (impl_SinceBase.l0 k x0 x11 x9 x10 (wrap64 (x11 + 1))) else (impl_SinceBase.l0 k x0 x3 x9 x10 (wrap64 (x11 + 1))))) else (none)) else (none)) else (if 0 ≤ x3 then (if x3 ≤ (x0.length : Int) then ((some (x0.drop (x3 : Int).toNat : List (S40))).bind fun y543=>(impl_SinceBase.l1 k ([] : List (S40)) y543 (y543.length : Int) 0)) else (none)) else (none))
def impl_SinceBase.l1 : Nat → List (S40) → List (S40) → Int → Int → Option ((List (S40)))
 | 0,_,_,_,_=>none
 | k + 1,x6,x22,x23,x24=>if x24 < x23 then (if 0 ≤ x24 then (if x24 < (x22.length : Int) then (if ([] : List (S45)).length + ((rd_T40 x22 x24).f2).length < 4398046511104 then (if x6.length < 3518437208883 then (impl_SinceBase.l1 k (x6 ++ [(⟨(rd_T40 x22 x24).f0,(rd_T40 x22 x24).f1,(([] : List (S45)) ++ ((rd_T40 x22 x24).f2))⟩ : S40)]) x22 x23 (wrap64 (x24 + 1))) else (none)) else (none)) else (none)) else (none)) else (some x6)
end
def impl_SinceBase.f (k : Nat) (l0 : List (S40)) : Option ((List (S40))):=impl_SinceBase.l0 k l0 0 l0 (l0.length : Int) 0
theorem impl_SinceBase.mono_l : ∀ k,(∀ y0 y1 y2 y3 y4,LeO (impl_SinceBase.l0 k y0 y1 y2 y3 y4) (impl_SinceBase.l0 (k + 1) y0 y1 y2 y3 y4)) ∧ (∀ y0 y1 y2 y3,LeO (impl_SinceBase.l1 k y0 y1 y2 y3) (impl_SinceBase.l1 (k + 1) y0 y1 y2 y3))
 | 0=>⟨fun _ _ _ _ _ r h=>by simp [impl_SinceBase.l0] at h,fun _ _ _ _ r h=>by simp [impl_SinceBase.l1] at h⟩
 | k + 1=>by
  obtain ⟨ih0,ih1⟩:=impl_SinceBase.mono_l k;refine ⟨?_,?_⟩
  ·intro y0 y1 y2 y3 y4;unfold impl_SinceBase.l0
   repeat' first
   | (with_reducible exact ih0 _ _ _ _ _)
   | (with_reducible exact ih1 _ _ _ _)
   | (with_reducible exact LeO.refl _)
   | (with_reducible exact LeO.none _)
   | (with_reducible refine LeO.ite ?_ ?_)
   | (with_reducible refine LeO.bind ?_ (fun _=>?_))
   | exact ih0 _ _ _ _ _
   | exact ih1 _ _ _ _
   | exact LeO.none _
   | refine LeO.ite ?_ ?_
   | refine LeO.bind ?_ (fun _=>?_)
  intro y0 y1 y2 y3;unfold impl_SinceBase.l1
  repeat' first
  | (with_reducible exact ih0 _ _ _ _ _)
  | (with_reducible exact ih1 _ _ _ _)
  | (with_reducible exact LeO.refl _)
  | (with_reducible exact LeO.none _)
  | (with_reducible refine LeO.ite ?_ ?_)
  | (with_reducible refine LeO.bind ?_ (fun _=>?_))
  | exact ih0 _ _ _ _ _
  | exact ih1 _ _ _ _
  | exact LeO.none _
  | refine LeO.ite ?_ ?_
  | refine LeO.bind ?_ (fun _=>?_)
theorem impl_SinceBase.mono : ∀ a0 k,LeO (impl_SinceBase.f k a0) (impl_SinceBase.f (k + 1) a0):=by
 intro a0 k;obtain ⟨ih0,ih1⟩:=impl_SinceBase.mono_l k;unfold impl_SinceBase.f
 repeat' first
   | (with_reducible exact ih0 _ _ _ _ _)
   | (with_reducible exact ih1 _ _ _ _)
   | (with_reducible exact LeO.refl _)
   | (with_reducible exact LeO.none _)
   | (with_reducible refine LeO.ite ?_ ?_)
   | (with_reducible refine LeO.bind ?_ (fun _=>?_))
   | exact ih0 _ _ _ _ _
   | exact ih1 _ _ _ _
   | exact LeO.none _
   | refine LeO.ite ?_ ?_
   | refine LeO.bind ?_ (fun _=>?_)
set_option maxHeartbeats 8000000 in
set_option maxRecDepth 100000 in
theorem impl_SinceBase.calls (k : Nat) (A0 : Option Addr) (c0 : Nat) (l0 : List (S40)) (r : List (S40)) (w : World) (hr0 : Kd.C k40 w A0 l0.length l0) (hc0 : l0.length ≤ c0) (h : impl_SinceBase.f k l0 = some r) :
  Calls Try.prog 16 #[.slice A0 l0.length c0] w fun e w'=>∃ v0_ : Value,e = .returned (v0_) ∧ Kd.S k40 40 w' w.heap.size (fun _=>True) v0_ r ∧ Below w.heap.size w w':=by
 have hu40:=Try.underlying40;have HR0:=zMk hr0;have HC0:=zMk hc0;clear hr0 hc0;have HB:=zMk (Below.refl w.heap.size w);have H : (impl_SinceBase.l0 k l0 0 l0 (l0.length : Int) 0) = some r:=h;clear h;have H':=zMk H;clear H
 go_enter Try.func16,Try.ntmps16
 go_wp2
 go_loopg [3,11] k (fun kq v3 v11 w'=>∃ (x3_1 : Int) (x11_1 : Int),v3 = .int .i64 x3_1 ∧ v11 = .int .i64 x11_1 ∧ Aside0 (impl_SinceBase.l0 kq l0 x3_1 l0 (l0.length : Int) x11_1 = some r) ∧ Aside0 (kq ≤ k) ∧ Aside0 (Below w.heap.size w w'));case atStart=>exact ⟨(0),(0),(by first | rfl | (simp;done) | (simp [*];done)),(by first | rfl | (simp;done) | (simp [*];done)),H',⟨Nat.le_refl _⟩,⟨hs HB⟩⟩
 case round =>
  clear H'
  try clear c1
  obtain ⟨x3_1,x11_1,rfl,rfl,HA,HK1,HB⟩:=hrel;cases gk with
  | zero=>exact absurd HA.out (by simp [impl_SinceBase.l0])
  | succ k1 =>
   have H:=HA.out;clear HA;simp only [impl_SinceBase.l0] at H
   by_cases c2 : x11_1 < (l0.length : Int)
   ·rw [if_pos c2] at H;have c2b0 : decide (x11_1 < (l0.length : Int)) = true:=decide_eq_true c2;clear c2
    by_cases c3 : 0 ≤ x11_1
    ·rw [if_pos c3] at H;have c3b0 : decide (0 ≤ x11_1) = true:=decide_eq_true c3;clear c3
     by_cases c4 : x11_1 < (l0.length : Int)
     ·rw [if_pos c4] at H;have c4b0 : decide (x11_1 < (l0.length : Int)) = true:=decide_eq_true c4;clear c4;replace H:=Option.bind_eq_some_iff.mp H;obtain ⟨t542,A50,H⟩:=H;replace H : (if t542 = true then (impl_SinceBase.l0 k1 l0 x11_1 l0 (l0.length : Int) (wrap64 (x11_1 + 1))) else (impl_SinceBase.l0 k1 l0 x3_1 l0 (l0.length : Int) (wrap64 (x11_1 + 1)))) = some r:=H;have A5:=zMk A50;clear A50
      by_cases c6 : t542 = true
      ·subst c6;have H1 : (impl_SinceBase.l0 k1 l0 x11_1 l0 (l0.length : Int) (wrap64 (x11_1 + 1))) = some r:=by rw [if_pos rfl] at H;exact H
       clear H;have H:=H1;clear H1;have H':=zMk H;clear H;have p540 : 0 ≤ (x11_1 : Int):=zDe (by first | (with_reducible assumption) | assumption);have q540 : x11_1 < (l0.length : Int):=zDe (by first | (with_reducible assumption) | assumption);obtain ⟨ad540,A540_2,c540_2,e540,hx540_0,hx540_1,hx540_2,hl540_2,hi540_2⟩:=at_T40 HR0.out x11_1 p540 q540;cases e540;replace hx540_0:=(HB.out.cell (zBl w _ hx540_0)).trans hx540_0;replace hx540_1:=(HB.out.cell (zBl w _ hx540_1)).trans hx540_1;replace hx540_2:=(HB.out.cell (zBl w _ hx540_2)).trans hx540_2;have HR540_2:=zMk hi540_2;have HC540_2:=zMk hl540_2;clear hi540_2 hl540_2;replace p540:=eq_true p540;replace q540:=eq_true q540;go_wp2_with (first | ((with_reducible refine gate_dst (N:=5) rfl ?_);refine box_event ?hg (N:=5) ?hd (cs:=#[.int .i64 0,.int .i64 0,.slice none 0 0]) (t:=40) ?hr ?_;(case hd=>rfl);(case hg=>rfl);(case hr=>first | (go_simp;done) | (go_simp;rfl));intro gb541 hg w7 hbox hb;have n0_:=zMk (below_step (hs HB) hb);have n1_:=zMk (hbox);have n2_:=zMk ((by rw [hg];exact (below_size (hs HB)) : w.heap.size ≤ gb541));have n3_:=zMk ((by rw [hg];exact (below_size (hs HB)) : w.heap.size ≤ gb541));clear HB;have HB:=n0_;have BK541:=n1_;have GW541:=n2_;have GE541:=n3_;clear n0_ n1_ n2_ n3_;clear hb hbox hg;have hcz8_0 : w7.cell? ⟨gb541,0,none⟩ = some (.int .i64 0):=(zCl BK541.out 0).trans rfl;have hcz8_1 : w7.cell? ⟨gb541,1,none⟩ = some (.int .i64 0):=(zCl BK541.out 1).trans rfl;have hcz8_2 : w7.cell? ⟨gb541,2,none⟩ = some (.slice none 0 0):=(zCl BK541.out 2).trans rfl;have hfz8_0:=zFr BK541.out 0;have hfz8_1:=zFr BK541.out 1;have hfz8_2:=zFr BK541.out 2) | ((with_reducible refine gate_callee (f:=38) rfl ?_);refine goesL_ (some 17) rfl rfl Try.func38 (by kernel_rfl) rfl #[.agg #[.int .i64 ((rd_T40 l0 x11_1).f0),.int .i64 ((rd_T40 l0 x11_1).f1),.slice A540_2 ((rd_T40 l0 x11_1).f2).length c540_2]] rfl (by (try simp only [List.map_toArray,List.map_cons,List.map_nil]);first | done | rfl | (simp only [List.length_drop,List.length_take];rfl)) ?_;(with_reducible refine (impl_isBase.calls ((rd_T40 l0 x11_1).f0) ((rd_T40 l0 x11_1).f1) _ _ ((rd_T40 l0 x11_1).f2) true _ ?side1 ?side2 A5.out).mono ?_);(case side1=>exact Kd.C_below HR540_2.out (hs1 HB GE541));(case side2=>exact HC540_2.out);rintro e w9 ⟨rfl,hb⟩;refine ⟨_,rfl,?_⟩;have n0_:=zMk (blk_below (g:=gb541) (o:=.cells #[.int .i64 ((rd_T40 l0 x11_1).f0),.int .i64 ((rd_T40 l0 x11_1).f1),.slice A540_2 ((rd_T40 l0 x11_1).f2).length c540_2] 40 (0,0)) (by (with_reducible repeat (first | refine blk_drewN ?_ _ | refine blk_drew ?_ | refine blk_alloc ?_ _));refine blk_put (cs:=#[.int .i64 ((rd_T40 l0 x11_1).f0),.int .i64 ((rd_T40 l0 x11_1).f1),.slice none 0 0]) ?_ 2 _ rfl;(with_reducible repeat (first | refine blk_drewN ?_ _ | refine blk_drew ?_ | refine blk_alloc ?_ _));refine blk_put (cs:=#[.int .i64 ((rd_T40 l0 x11_1).f0),.int .i64 0,.slice none 0 0]) ?_ 1 _ rfl;(with_reducible repeat (first | refine blk_drewN ?_ _ | refine blk_drew ?_ | refine blk_alloc ?_ _));refine blk_put (cs:=#[.int .i64 0,.int .i64 0,.slice none 0 0]) ?_ 0 _ rfl;(with_reducible repeat (first | refine blk_drewN ?_ _ | refine blk_drew ?_ | refine blk_alloc ?_ _));exact BK541.out) hb);have n1_:=zMk (below_step (hs1 HB GE541) hb);clear BK541;clear HB;have BK541:=n0_;have HB:=n1_;clear n0_ n1_;(try clear hb);(try clear hb2);(try clear hk);(try clear hi)));go_roundg k1;case measure=>have:=HK1.out;omega
       case rel=>exact ⟨(x11_1),(wrap64 (x11_1 + 1)),(by first | rfl | (simp;done) | (simp [*];done)),(by first | rfl | (simp;done) | (simp [*];done)),H',⟨by have:=HK1.out;omega⟩,⟨hs1 HB GE541⟩⟩
      replace c6:=Bool.eq_false_iff.mpr c6;subst c6;have H1 : (impl_SinceBase.l0 k1 l0 x3_1 l0 (l0.length : Int) (wrap64 (x11_1 + 1))) = some r:=by rw [if_neg (show ¬ (false = true) by decide)] at H;exact H
      clear H;have H:=H1;clear H1;have H':=zMk H;clear H;have p540 : 0 ≤ (x11_1 : Int):=zDe (by first | (with_reducible assumption) | assumption);have q540 : x11_1 < (l0.length : Int):=zDe (by first | (with_reducible assumption) | assumption);obtain ⟨ad540,A540_2,c540_2,e540,hx540_0,hx540_1,hx540_2,hl540_2,hi540_2⟩:=at_T40 HR0.out x11_1 p540 q540;cases e540;replace hx540_0:=(HB.out.cell (zBl w _ hx540_0)).trans hx540_0;replace hx540_1:=(HB.out.cell (zBl w _ hx540_1)).trans hx540_1;replace hx540_2:=(HB.out.cell (zBl w _ hx540_2)).trans hx540_2;have HR540_2:=zMk hi540_2;have HC540_2:=zMk hl540_2;clear hi540_2 hl540_2;replace p540:=eq_true p540;replace q540:=eq_true q540;go_wp2_with (first | ((with_reducible refine gate_dst (N:=5) rfl ?_);refine box_event ?hg (N:=5) ?hd (cs:=#[.int .i64 0,.int .i64 0,.slice none 0 0]) (t:=40) ?hr ?_;(case hd=>rfl);(case hg=>rfl);(case hr=>first | (go_simp;done) | (go_simp;rfl));intro gb541 hg w10 hbox hb;have n0_:=zMk (below_step (hs HB) hb);have n1_:=zMk (hbox);have n2_:=zMk ((by rw [hg];exact (below_size (hs HB)) : w.heap.size ≤ gb541));have n3_:=zMk ((by rw [hg];exact (below_size (hs HB)) : w.heap.size ≤ gb541));clear HB;have HB:=n0_;have BK541:=n1_;have GW541:=n2_;have GE541:=n3_;clear n0_ n1_ n2_ n3_;clear hb hbox hg;have hcz11_0 : w10.cell? ⟨gb541,0,none⟩ = some (.int .i64 0):=(zCl BK541.out 0).trans rfl;have hcz11_1 : w10.cell? ⟨gb541,1,none⟩ = some (.int .i64 0):=(zCl BK541.out 1).trans rfl;have hcz11_2 : w10.cell? ⟨gb541,2,none⟩ = some (.slice none 0 0):=(zCl BK541.out 2).trans rfl;have hfz11_0:=zFr BK541.out 0;have hfz11_1:=zFr BK541.out 1;have hfz11_2:=zFr BK541.out 2) | ((with_reducible refine gate_callee (f:=38) rfl ?_);refine goesL_ (some 17) rfl rfl Try.func38 (by kernel_rfl) rfl #[.agg #[.int .i64 ((rd_T40 l0 x11_1).f0),.int .i64 ((rd_T40 l0 x11_1).f1),.slice A540_2 ((rd_T40 l0 x11_1).f2).length c540_2]] rfl (by (try simp only [List.map_toArray,List.map_cons,List.map_nil]);first | done | rfl | (simp only [List.length_drop,List.length_take];rfl)) ?_;(with_reducible refine (impl_isBase.calls ((rd_T40 l0 x11_1).f0) ((rd_T40 l0 x11_1).f1) _ _ ((rd_T40 l0 x11_1).f2) false _ ?side1 ?side2 A5.out).mono ?_);(case side1=>exact Kd.C_below HR540_2.out (hs1 HB GE541));(case side2=>exact HC540_2.out);rintro e w12 ⟨rfl,hb⟩;refine ⟨_,rfl,?_⟩;have n0_:=zMk (blk_below (g:=gb541) (o:=.cells #[.int .i64 ((rd_T40 l0 x11_1).f0),.int .i64 ((rd_T40 l0 x11_1).f1),.slice A540_2 ((rd_T40 l0 x11_1).f2).length c540_2] 40 (0,0)) (by (with_reducible repeat (first | refine blk_drewN ?_ _ | refine blk_drew ?_ | refine blk_alloc ?_ _));refine blk_put (cs:=#[.int .i64 ((rd_T40 l0 x11_1).f0),.int .i64 ((rd_T40 l0 x11_1).f1),.slice none 0 0]) ?_ 2 _ rfl;(with_reducible repeat (first | refine blk_drewN ?_ _ | refine blk_drew ?_ | refine blk_alloc ?_ _));refine blk_put (cs:=#[.int .i64 ((rd_T40 l0 x11_1).f0),.int .i64 0,.slice none 0 0]) ?_ 1 _ rfl;(with_reducible repeat (first | refine blk_drewN ?_ _ | refine blk_drew ?_ | refine blk_alloc ?_ _));refine blk_put (cs:=#[.int .i64 0,.int .i64 0,.slice none 0 0]) ?_ 0 _ rfl;(with_reducible repeat (first | refine blk_drewN ?_ _ | refine blk_drew ?_ | refine blk_alloc ?_ _));exact BK541.out) hb);have n1_:=zMk (below_step (hs1 HB GE541) hb);clear BK541;clear HB;have BK541:=n0_;have HB:=n1_;clear n0_ n1_;(try clear hb);(try clear hb2);(try clear hk);(try clear hi)));go_roundg k1;case measure=>have:=HK1.out;omega
      case rel=>exact ⟨(x3_1),(wrap64 (x11_1 + 1)),(by first | rfl | (simp;done) | (simp [*];done)),(by first | rfl | (simp;done) | (simp [*];done)),H',⟨by have:=HK1.out;omega⟩,⟨hs1 HB GE541⟩⟩
     rw [if_neg c4] at H;exact absurd H (by simp)
    rw [if_neg c3] at H;exact absurd H (by simp)
   rw [if_neg c2] at H;have c2b0 : decide (x11_1 < (l0.length : Int)) = false:=decide_eq_false c2;clear c2
   by_cases c13 : 0 ≤ x3_1
   ·rw [if_pos c13] at H;have c13b0:=eq_true c13;have c13b1 : decide (0 ≤ x3_1) = true:=decide_eq_true c13;clear c13
    by_cases c14 : x3_1 ≤ (l0.length : Int)
    ·rw [if_pos c14] at H;have c14b0:=eq_true c14;have c14b1 : decide (x3_1 ≤ (l0.length : Int)) = true:=decide_eq_true c14;clear c14;obtain ⟨y543,hy543⟩ : ∃ y_ : List (S40),y_ = (l0.drop (x3_1 : Int).toNat):=⟨_,rfl⟩;replace H : (impl_SinceBase.l1 k1 ([] : List (S40)) y543 (y543.length : Int) 0) = some r:=by first | (rw [hy543];with_reducible exact H) | (have H2_:=(Option.bind_some _ _).symm.trans H;rw [hy543];with_reducible exact H2_) | (have H2_:=(Option.bind_some _ _).symm.trans H;with_reducible exact H2_) | with_reducible exact H | (rw [hy543];exact H) | exact H
     have Ny543:=zMk hy543;clear hy543;have H':=zMk H;clear H;have q15 : (x3_1 : Int) ≤ ((l0.length : Int) : Int):=zDe (by first | (with_reducible assumption) | assumption);obtain ⟨i015,hi015,_,hsz15,_⟩:=info_parts info40;have hroom15 : l0.length ≤ c0:=HC0.out;have hC15 : Kd.C k40 _ A0 l0.length l0:=HR0.out;have q015 : (0 : Int) ≤ (x3_1 : Int):=zDe (by first | (with_reducible assumption) | assumption);have hcut15:=cut_from (P:=Try.prog) 37 40 .i64 Try.underlying37 hi015 3 hsz15 A0 l0.length c0 x3_1 q015 q15;have hr15:=Kd.C_drop (m:=(x3_1 : Int).toNat) (c:=c0) hC15 (by omega) hroom15;obtain ⟨A15,hA15⟩ : ∃ A1,A1 = (if c0 = (x3_1 : Int).toNat then A0 else (A0 : Option Addr).map (·.add ((x3_1 : Int).toNat * 3))):=⟨_,rfl⟩;obtain ⟨c15,hc15⟩ : ∃ c1,c1 = c0 - (x3_1 : Int).toNat:=⟨_,rfl⟩;have hy15 : y543.length = l0.length - (x3_1 : Int).toNat:=(by rw [Ny543.out,List.length_drop] <;> omega);rw [show (l0).drop (x3_1 : Int).toNat = y543 from Ny543.out.symm] at hr15;replace hr15 : Kd.C k40 _ A15 y543.length y543:=(by rw [hA15];exact hr15);rw [← hy15,← hA15,← hc15] at hcut15;have HR546:=zMk hr15;have HC546:=zMk (show y543.length ≤ c15 from by rw [hy15,hc15];exact Nat.sub_le_sub_right hroom15 _);clear hr15 hC15 hroom15 hi015 hsz15 hc15;have KY15:=zMk hy15;have KA15:=zMk hA15;clear hy15 hA15;replace q15:=eq_true q15
     go_wp2
     go_loopg [6,24] k1 (fun kq v6 v24 w'=>∃ (x6_2 : List (S40)) (x24_2 : Int),v24 = .int .i64 x24_2 ∧ Aside0 (impl_SinceBase.l1 kq x6_2 y543 (y543.length : Int) x24_2 = some r) ∧ Aside0 (kq ≤ k1) ∧ Aside0 (Kd.S k40 40 w' w.heap.size (fun _=>True) v6 x6_2) ∧ Aside0 (Below w.heap.size w w'));case atStart=>exact ⟨(([] : List (S40))),(0),(by first | rfl | (simp;done) | (simp [*];done)),H',⟨Nat.le_refl _⟩,⟨by first | exact Kd.S_nil _ _ _ _ _ | exact Kd.N_nil _ _ _ _ _ | exact Kd.V_nil _ _ _ _ _ | exact Kd.Q_nil _ _ _ _ _ | exact Kd.R_nil _ _ _ _ _⟩,⟨hs HB⟩⟩
     case round =>
      clear H'
      try clear c1
      try clear q1
      try clear c2
      try clear c2b0
      try clear p2
      try clear c3
      try clear c3b0
      try clear c4
      try clear c4b0
      try clear c5
      try clear p5
      try clear q5
      try clear hx5
      try clear c6
      try clear p6
      try clear c13
      try clear c13b0
      try clear c13b1
      try clear c14
      try clear c14b0
      try clear c14b1
      try clear c15
      try clear q15
      try clear hcz11_0
      try clear hcz11_1
      try clear hcz11_2
      try clear hcz8_0
      try clear hcz8_1
      try clear hcz8_2
      try clear hfz11_0
      try clear hfz11_1
      try clear hfz11_2
      try clear hfz8_0
      try clear hfz8_1
      try clear hfz8_2
      try clear hx540_0
      try clear hx540_1
      try clear hx540_2
      try clear p540
      try clear q015
      try clear q15
      try clear q540
      obtain ⟨x6_2,x24_2,rfl,HA,HK2,HO_6,HB⟩:=hrel;cases gk with
      | zero=>exact absurd HA.out (by simp [impl_SinceBase.l1])
      | succ k2 =>
       have H:=HA.out;clear HA;simp only [impl_SinceBase.l1] at H
       by_cases c16 : x24_2 < (y543.length : Int)
       ·rw [if_pos c16] at H;have c16b0 : decide (x24_2 < (y543.length : Int)) = true:=decide_eq_true c16;clear c16
        by_cases c17 : 0 ≤ x24_2
        ·rw [if_pos c17] at H;have c17b0 : decide (0 ≤ x24_2) = true:=decide_eq_true c17;clear c17
         by_cases c18 : x24_2 < (y543.length : Int)
         ·rw [if_pos c18] at H;have c18b0 : decide (x24_2 < (y543.length : Int)) = true:=decide_eq_true c18;clear c18
          by_cases c19 : ([] : List (S45)).length + ((rd_T40 y543 x24_2).f2).length < 4398046511104
          ·rw [if_pos c19] at H;have LMc19:=zMk c19;clear c19;obtain ⟨y549,hy549⟩ : ∃ y_ : List (S45),y_ = (([] : List (S45)) ++ ((rd_T40 y543 x24_2).f2)):=⟨_,rfl⟩;replace H : (if x6_2.length < 3518437208883 then (impl_SinceBase.l1 k2 (x6_2 ++ [(⟨(rd_T40 y543 x24_2).f0,(rd_T40 y543 x24_2).f1,y549⟩ : S40)]) y543 (y543.length : Int) (wrap64 (x24_2 + 1))) else (none)) = some r:=by first | (rw [hy549];with_reducible exact H) | (have H2_:=(Option.bind_some _ _).symm.trans H;rw [hy549];with_reducible exact H2_) | (have H2_:=(Option.bind_some _ _).symm.trans H;with_reducible exact H2_) | with_reducible exact H | (rw [hy549];exact H) | exact H
           have Ny549:=zMk hy549;clear hy549
           by_cases c20 : x6_2.length < 3518437208883
           ·rw [if_pos c20] at H;have LMc20:=zMk c20;clear c20;obtain ⟨y552,hy552⟩ : ∃ y_ : List (S40),y_ = (x6_2 ++ [(⟨(rd_T40 y543 x24_2).f0,(rd_T40 y543 x24_2).f1,y549⟩ : S40)]):=⟨_,rfl⟩;replace H : (impl_SinceBase.l1 k2 y552 y543 (y543.length : Int) (wrap64 (x24_2 + 1))) = some r:=by first | (rw [hy552];with_reducible exact H) | (have H2_:=(Option.bind_some _ _).symm.trans H;rw [hy552];with_reducible exact H2_) | (have H2_:=(Option.bind_some _ _).symm.trans H;with_reducible exact H2_) | with_reducible exact H | (rw [hy552];exact H) | exact H
            have Ny552:=zMk hy552;clear hy552;have H':=zMk H;clear H;have p547 : 0 ≤ (x24_2 : Int):=zDe (by first | (with_reducible assumption) | assumption);have q547 : x24_2 < (y543.length : Int):=zDe (by first | (with_reducible assumption) | assumption);obtain ⟨ad547,A547_2,c547_2,e547,hx547_0,hx547_1,hx547_2,hl547_2,hi547_2⟩:=at_T40 HR546.out x24_2 p547 q547;cases e547;replace hx547_0:=(HB.out.cell (zBl w _ hx547_0)).trans hx547_0;replace hx547_1:=(HB.out.cell (zBl w _ hx547_1)).trans hx547_1;replace hx547_2:=(HB.out.cell (zBl w _ hx547_2)).trans hx547_2;have HR547_2:=zMk hi547_2;have HC547_2:=zMk hl547_2;clear hi547_2 hl547_2;replace p547:=eq_true p547;replace q547:=eq_true q547;go_wp2_with (first | ((with_reducible refine gate_dst (N:=8) rfl ?_);refine box_event ?hg (N:=8) ?hd (cs:=#[.int .i64 0,.int .i64 0,.slice none 0 0]) (t:=40) ?hr ?_;(case hd=>rfl);(case hg=>rfl);(case hr=>first | (go_simp;done) | (go_simp;rfl));intro gb548 hg w21 hbox hb;have n0_:=zMk (Kd.S_below (Kd.S_elderB (ss HO_6) gb548 (Nat.le_of_eq hg.symm)) hb);have n1_:=zMk (below_step (hs HB) hb);have n2_:=zMk (hbox);have n3_:=zMk ((by rw [hg];exact (below_size (hs HB)) : w.heap.size ≤ gb548));have n4_:=zMk ((by rw [hg];exact (below_size (hs HB)) : w.heap.size ≤ gb548));clear HO_6;clear HB;have HO_6:=n0_;have HB:=n1_;have BK548:=n2_;have GW548:=n3_;have GE548:=n4_;clear n0_ n1_ n2_ n3_ n4_;clear hb hbox hg;have hcz22_0 : w21.cell? ⟨gb548,0,none⟩ = some (.int .i64 0):=(zCl BK548.out 0).trans rfl;have hcz22_1 : w21.cell? ⟨gb548,1,none⟩ = some (.int .i64 0):=(zCl BK548.out 1).trans rfl;have hcz22_2 : w21.cell? ⟨gb548,2,none⟩ = some (.slice none 0 0):=(zCl BK548.out 2).trans rfl;have hfz22_0:=zFr BK548.out 0;have hfz22_1:=zFr BK548.out 1;have hfz22_2:=zFr BK548.out 2) | ((with_reducible refine gate_builtin (b:=.append) (xs:=#[(.const (.slice none 0 0)),.tmp 29]) rfl ?_);at_builtin;refine Kd.R_append_rows k45 (w0:=w) w.heap.size rfl (.const (.slice none 0 0)) (.tmp 29) 24 45 (.agg #[(.int .i64 0),(.int .i64 0),(.int .i64 0),(.int .i64 0)]) 32 rfl Try.underlying24 info45 rfl (by decide) (by omega) (.slice none 0 0) ([] : List (S45)) ((rd_T40 y543 x24_2).f2) _ _ _ (fun _=>True) (fun _=>False) rfl rfl ?aO ?aR (fun _ _ h=>h) (fun _ h=>h.elim) ?aF ?aB ?aS ?aL ?_;(case aR=>exact Kd.C_below HR547_2.out (hs1 HB GE548));(case aB=>exact (hs1 HB GE548));(case aF=>exact (fun _ _=>trivial));(case aO=>exact ((Kd.R_nil _ _ _ _ (fun _=>True))));(case aS=>exact (below_size (hs1 HB GE548)));(case aL=>have:=LMc19.out;omega);intro v550 w23 ho hb hg hat;rw [← Ny549.out] at ho;have n0_:=zMk (Kd.S_after (Kd.S_apart_nil (by (with_reducible repeat (first | apply Kd.S_alloc | apply Kd.S_drewN | apply Kd.S_drew));exact (Kd.S_mono (Kd.S_far (p:=⟨gb548,2,none⟩) (Kd.S_far (p:=⟨gb548,1,none⟩) (Kd.S_far (p:=⟨gb548,0,none⟩) (Kd.S_mono HO_6.out (fun k_ hk=>(⟨hk,hk.2⟩ : _ ∧ k_ ≠ gb548))) (fun _ hk=>hk.2) (.int .i64 ((rd_T40 y543 x24_2).f0))) (fun _ hk=>hk.2) (.int .i64 ((rd_T40 y543 x24_2).f1))) (fun _ hk=>hk.2) (.slice A547_2 ((rd_T40 y543 x24_2).f2).length c547_2)) (fun _ h_=>h_.1)))) hg hat);have n1_:=zMk (blk_grown (g:=gb548) (o:=.cells #[.int .i64 ((rd_T40 y543 x24_2).f0),.int .i64 ((rd_T40 y543 x24_2).f1),.slice A547_2 ((rd_T40 y543 x24_2).f2).length c547_2] 40 (0,0)) (by (with_reducible repeat (first | refine blk_drewN ?_ _ | refine blk_drew ?_ | refine blk_alloc ?_ _));refine blk_put (cs:=#[.int .i64 ((rd_T40 y543 x24_2).f0),.int .i64 ((rd_T40 y543 x24_2).f1),.slice none 0 0]) ?_ 2 _ rfl;(with_reducible repeat (first | refine blk_drewN ?_ _ | refine blk_drew ?_ | refine blk_alloc ?_ _));refine blk_put (cs:=#[.int .i64 ((rd_T40 y543 x24_2).f0),.int .i64 0,.slice none 0 0]) ?_ 1 _ rfl;(with_reducible repeat (first | refine blk_drewN ?_ _ | refine blk_drew ?_ | refine blk_alloc ?_ _));refine blk_put (cs:=#[.int .i64 0,.int .i64 0,.slice none 0 0]) ?_ 0 _ rfl;(with_reducible repeat (first | refine blk_drewN ?_ _ | refine blk_drew ?_ | refine blk_alloc ?_ _));exact BK548.out) hg (by simp [Value.ownBlock]));have n2_:=zMk (hb);have n3_:=zMk (ho);clear HO_6;clear BK548;clear HB;have HO_6:=n0_;have BK548:=n1_;have HB:=n2_;have HO551:=n3_;clear n0_ n1_ n2_ n3_;clear ho hb hg hat;obtain ⟨Ao24,co24,eo24⟩:=Kd.R_slice HO551.out;subst eo24;have hcz25_0 : w23.cell? ⟨gb548,0,none⟩ = some (.int .i64 ((rd_T40 y543 x24_2).f0)):=(zCl BK548.out 0).trans rfl;have hcz25_1 : w23.cell? ⟨gb548,1,none⟩ = some (.int .i64 ((rd_T40 y543 x24_2).f1)):=(zCl BK548.out 1).trans rfl;have hcz25_2 : w23.cell? ⟨gb548,2,none⟩ = some (.slice A547_2 ((rd_T40 y543 x24_2).f2).length c547_2):=(zCl BK548.out 2).trans rfl;have hfz25_0:=zFr BK548.out 0;have hfz25_1:=zFr BK548.out 1;have hfz25_2:=zFr BK548.out 2) | ((with_reducible refine gate_store (t:=24) (p:=31) rfl ?_);refine store_event (t:=24) (p:=31) (v:=?vo_w26) (w1:=(w23.setCell ⟨gb548,2,none⟩ (.slice Ao24 y549.length co24))) ?hg ?ho ?hn ?hr ?_;(case ho=>rfl);(case hg=>rfl);(case hn=>rfl);(case hr=>first | (go_simp;done) | (go_simp;rfl));intro w26 hw;have n0_ : Aside0 (Kd.S k40 40 w26 w.heap.size (fun k_=>some k_ ≠ (.slice Ao24 y549.length co24 : Value).ownBlock ∧ k_ ≠ gb548) u6 x6_2):=⟨(by rw [hw];exact (by (with_reducible repeat (first | apply Kd.S_alloc | apply Kd.S_drewN | apply Kd.S_drew));exact Kd.S_mono (Kd.S_far (p:=⟨gb548,2,none⟩) (Kd.S_mono HO_6.out (fun k_ hk=>(⟨hk,hk.1.2⟩ : _ ∧ k_ ≠ gb548))) (fun _ hk=>hk.2) (.slice Ao24 y549.length co24)) (fun _ hk=>⟨hk.1.2,hk.1.1.2⟩)))⟩;have n1_ : Aside0 (Kd.R k45 45 w26 w.heap.size (fun _=>True) (.slice Ao24 y549.length co24) y549):=⟨(by rw [hw];exact (by (with_reducible repeat (first | apply Kd.R_alloc | apply Kd.R_drewN | apply Kd.R_drew));exact Kd.R_mono (Kd.R_far (p:=⟨gb548,2,none⟩) (Kd.R_types HO551.out BK548.out (by decide)) (fun _ hk=>hk.2) (.slice Ao24 y549.length co24)) (fun _ hk=>trivial)))⟩;have n2_ : Aside0 (w26.heap[gb548]? = some (.cells #[.int .i64 ((rd_T40 y543 x24_2).f0),.int .i64 ((rd_T40 y543 x24_2).f1),.slice Ao24 y549.length co24] 40 (0,0))):=⟨(by rw [hw];exact (by (with_reducible repeat (first | refine blk_drewN ?_ _ | refine blk_drew ?_ | refine blk_alloc ?_ _));refine blk_put (cs:=#[.int .i64 ((rd_T40 y543 x24_2).f0),.int .i64 ((rd_T40 y543 x24_2).f1),.slice A547_2 ((rd_T40 y543 x24_2).f2).length c547_2]) ?_ 2 _ rfl;(with_reducible repeat (first | refine blk_drewN ?_ _ | refine blk_drew ?_ | refine blk_alloc ?_ _));exact BK548.out))⟩;have n3_ : Aside0 (Below w.heap.size w w26):=⟨(by rw [hw];exact (hs1 HB GE548))⟩;clear hw;clear HO_6;clear HO551;clear BK548;clear HB;have HO_6:=n0_;have HO551:=n1_;have BK548:=n2_;have HB:=n3_;clear n0_ n1_ n2_ n3_;have hcz27_0 : w26.cell? ⟨gb548,0,none⟩ = some (.int .i64 ((rd_T40 y543 x24_2).f0)):=(zCl BK548.out 0).trans rfl;have hcz27_1 : w26.cell? ⟨gb548,1,none⟩ = some (.int .i64 ((rd_T40 y543 x24_2).f1)):=(zCl BK548.out 1).trans rfl;have hcz27_2 : w26.cell? ⟨gb548,2,none⟩ = some (.slice Ao24 y549.length co24):=(zCl BK548.out 2).trans rfl;have hfz27_0:=zFr BK548.out 0;have hfz27_1:=zFr BK548.out 1;have hfz27_2:=zFr BK548.out 2) | ((with_reducible refine gate_builtin (b:=.append) (xs:=#[.tmp 32,.tmp 34]) rfl ?_);at_builtin;refine Kd.S_append k40 (w0:=w) w.heap.size rfl (.tmp 32) (.tmp 34) 37 40 (.agg #[(.int .i64 0),(.int .i64 0),(.slice none 0 0)]) 40 rfl Try.underlying37 info40 rfl (by decide) (by omega) u6 x6_2 (⟨(rd_T40 y543 x24_2).f0,(rd_T40 y543 x24_2).f1,y549⟩ : S40) [.int .i64 ((rd_T40 y543 x24_2).f0),.int .i64 ((rd_T40 y543 x24_2).f1),.slice Ao24 y549.length co24] (fun k_=>k_ ≠ gb548) (fun k_=>some k_ = (.slice Ao24 y549.length co24 : Value).ownBlock) rfl rfl ?aP (fun k_ hk_=>((Kd.R_mono (ok':=fun k_=>((fun k_=>k_ ≠ gb548)) k_ ∧ some k_ ≠ (u6 : Value).ownBlock) (Kd.R_types (Kd.R_apart' (HO551.out) (Kd.S_typed HO_6.out) (by decide)) BK548.out (by decide)) (fun k_ hk=>⟨hk.2,hk.1.2⟩))).1 k_ hk_.symm) ?aF ?aO ?aB ?aS ?aL ?_;(case aP=>exact k40_mkM _ _ _ (⟨(rd_T40 y543 x24_2).f0,(rd_T40 y543 x24_2).f1,y549⟩ : S40) (Kd.R_mono (Kd.R_tight rfl (Kd.R_mono (ok':=fun k_=>((fun k_=>k_ ≠ gb548)) k_ ∧ some k_ ≠ (u6 : Value).ownBlock) (Kd.R_types (Kd.R_apart' (HO551.out) (Kd.S_typed HO_6.out) (by decide)) BK548.out (by decide)) (fun k_ hk=>⟨hk.2,hk.1.2⟩))) (fun _ h_=>h_)));(case aB=>exact (hs1 HB GE548));(case aF=>exact (fun k_ hk=>Kd.freshB (g:=gb548) (o:=.cells #[.int .i64 ((rd_T40 y543 x24_2).f0),.int .i64 ((rd_T40 y543 x24_2).f1),.slice Ao24 y549.length co24] 40 (0,0)) (bs BK548) k_ hk));(case aO=>exact (by (with_reducible repeat (first | apply Kd.S_alloc | apply Kd.S_drewN | apply Kd.S_drew));exact Kd.S_mono HO_6.out (fun k_ hk=>⟨hk.2,fun e_=>hk.1 e_⟩)));(case aS=>exact (below_size (hs1 HB GE548)));(case aL=>have:=LMc20.out;omega);intro v553 w28 ho hb hg hat;rw [← Ny552.out] at ho;have n0_:=zMk (blk_grown (g:=gb548) (o:=.cells #[.int .i64 ((rd_T40 y543 x24_2).f0),.int .i64 ((rd_T40 y543 x24_2).f1),.slice Ao24 y549.length co24] 40 (0,0)) (bs BK548) hg (Kd.S_away HO_6.out (fun _ hk=>hk.2)));have n1_:=zMk (hb);have n2_:=zMk (ho);clear BK548;clear HB;clear HO_6;clear HO551;have BK548:=n0_;have HB:=n1_;have HO554:=n2_;clear n0_ n1_ n2_;clear ho hb hg hat));go_roundg k2;case measure=>have:=HK1.out;have:=HK2.out;omega
            case rel=>exact ⟨(y552),(wrap64 (x24_2 + 1)),(by first | rfl | (simp;done) | (simp [*];done)),H',⟨by have:=HK1.out;have:=HK2.out;omega⟩,⟨by (with_reducible repeat (first | apply Kd.S_alloc | apply Kd.S_drewN | apply Kd.S_drew));exact Kd.S_mono HO554.out (fun _ hk=>trivial)⟩,⟨hs1 HB GE548⟩⟩
           rw [if_neg c20] at H;exact absurd H (by simp)
          rw [if_neg c19] at H;exact absurd H (by simp)
         rw [if_neg c18] at H;exact absurd H (by simp)
        rw [if_neg c17] at H;exact absurd H (by simp)
       rw [if_neg c16] at H;have c16b0 : decide (x24_2 < (y543.length : Int)) = false:=decide_eq_false c16;clear c16;obtain rfl:=Option.some.inj H
       go_wp2
       go_ret
       exact ⟨_,by first | rfl | (simp [errW_none,errW_some] <;> rfl) | (simp [*,errW_none,errW_some] <;> rfl),ss HO_6,hs HB⟩
    rw [if_neg c14] at H;exact absurd H (by simp)
   rw [if_neg c13] at H;exact absurd H (by simp)
mutual
def laws_FnTwoTx.l0 : Nat → List (S45) → List (S45) → List (S33) → Bool → List (S33) → Bool → List (S36) → Int → Option (Bool)
 | 0,_,_,_,_,_,_,_,_=>none
 | k + 1,x3,x4,x5,x6,x7,x8,x9,x10=>if x10 < (x7.length : Int) then (if 0 ≤ x10 then (if x9.length < 1954687338268 then (laws_FnTwoTx.l0 k x3 x4 x5 x6 x7 x8 (x9 ++ [(⟨0,0,(⟨(rd_T33 x7 x10).f0,(rd_T33 x7 x10).f1,(rd_T33 x7 x10).f2,(rd_T33 x7 x10).f3,(rd_T33 x7 x10).f4,(rd_T33 x7 x10).f5⟩ : S33)⟩ : S36)]) (wrap64 (x10 + 1))) else (none)) else (none)) else (laws_FnTwoTx.l1 k x3 x4 x5 x6 x8 x9 0)
def laws_FnTwoTx.l1 : Nat → List (S45) → List (S45) → List (S33) → Bool → Bool → List (S36) → Int → Option (Bool)
 | 0,_,_,_,_,_,_,_=>none
 | k + 1,x3,x4,x5,x6,x8,x9,x11=>if x11 < (x5.length : Int) then (if 0 ≤ x11 then (if x9.length < 1954687338268 then (laws_FnTwoTx.l1 k x3 x4 x5 x6 x8 (x9 ++ [(⟨0,0,(⟨(rd_T33 x5 x11).f0,(rd_T33 x5 x11).f1,(rd_T33 x5 x11).f2,(rd_T33 x5 x11).f3,(rd_T33 x5 x11).f4,(rd_T33 x5 x11).f5⟩ : S33)⟩ : S36)]) (wrap64 (x11 + 1))) else (none)) else (none)) else ((impl_Gather.f k x9).bind fun t581=>(if x6 = true then (if x8 = true then (if (t581.length : Int) = 2 then (if 0 < (t581.length : Int) then (if ((rd_T40 t581 0).f0) = 4 then (if 1 < (t581.length : Int) then (if ((rd_T40 t581 1).f0) = 5 then ((laws_sameRecs.f k ((rd_T40 t581 0).f2) x3).bind fun t587=>(if t587 = true then ((laws_sameRecs.f k ((rd_T40 t581 1).f2) x4).bind fun t589=>(if t589 = true then ((impl_SinceBase.f k t581).bind fun t590=>(some (decide ((t590.length : Int) ≤ 2)))) else (some false))) else (some false))) else (some false)) else (none)) else (some false)) else (none)) else (some false)) else (some false)) else (some false)))
end
def laws_FnTwoTx.f (k : Nat) (l0 : List Int) : Option (Bool):=(laws_big.f l0).bind fun t555=>(if t555 = true then (some true) else ((spec_DrawManyRecords.f k l0).bind fun t556=>((spec_DrawRecords.f k l0).bind fun t559=>((impl_TxPages.f k 1 4 t556).bind fun bt562=>((impl_TxPages.f k 30 5 t559).bind fun bt566=>(laws_FnTwoTx.l0 k t556 t559 bt562.1 bt562.2 bt566.1 bt566.2 (([] : List (S36))) 0))))))
theorem laws_FnTwoTx.mono_l : ∀ k,(∀ y0 y1 y2 y3 y4 y5 y6 y7,LeO (laws_FnTwoTx.l0 k y0 y1 y2 y3 y4 y5 y6 y7) (laws_FnTwoTx.l0 (k + 1) y0 y1 y2 y3 y4 y5 y6 y7)) ∧ (∀ y0 y1 y2 y3 y4 y5 y6,LeO (laws_FnTwoTx.l1 k y0 y1 y2 y3 y4 y5 y6) (laws_FnTwoTx.l1 (k + 1) y0 y1 y2 y3 y4 y5 y6))
 | 0=>⟨fun _ _ _ _ _ _ _ _ r h=>by simp [laws_FnTwoTx.l0] at h,fun _ _ _ _ _ _ _ r h=>by simp [laws_FnTwoTx.l1] at h⟩
 | k + 1=>by
  obtain ⟨ih0,ih1⟩:=laws_FnTwoTx.mono_l k;refine ⟨?_,?_⟩
  ·intro y0 y1 y2 y3 y4 y5 y6 y7;unfold laws_FnTwoTx.l0
   repeat' first
   | (with_reducible exact ih0 _ _ _ _ _ _ _ _)
   | (with_reducible exact ih1 _ _ _ _ _ _ _)
   | (with_reducible exact impl_Gather.mono _ _)
   | (with_reducible exact impl_SinceBase.mono _ _)
   | (with_reducible exact impl_TxPages.mono _ _ _ _)
   | (with_reducible exact laws_sameRecs.mono _ _ _)
   | (with_reducible exact spec_DrawManyRecords.mono _ _)
   | (with_reducible exact spec_DrawRecords.mono _ _)
   | (with_reducible exact LeO.refl _)
   | (with_reducible exact LeO.none _)
   | (with_reducible refine LeO.ite ?_ ?_)
   | (with_reducible refine LeO.bind ?_ (fun _=>?_))
   | exact ih0 _ _ _ _ _ _ _ _
   | exact ih1 _ _ _ _ _ _ _
   | exact impl_Gather.mono _ _
   | exact impl_SinceBase.mono _ _
   | exact impl_TxPages.mono _ _ _ _
   | exact laws_sameRecs.mono _ _ _
   | exact spec_DrawManyRecords.mono _ _
   | exact spec_DrawRecords.mono _ _
   | exact LeO.none _
   | refine LeO.ite ?_ ?_
   | refine LeO.bind ?_ (fun _=>?_)
  intro y0 y1 y2 y3 y4 y5 y6;unfold laws_FnTwoTx.l1
  repeat' first
  | (with_reducible exact ih0 _ _ _ _ _ _ _ _)
  | (with_reducible exact ih1 _ _ _ _ _ _ _)
  | (with_reducible exact impl_Gather.mono _ _)
  | (with_reducible exact impl_SinceBase.mono _ _)
  | (with_reducible exact impl_TxPages.mono _ _ _ _)
  | (with_reducible exact laws_sameRecs.mono _ _ _)
  | (with_reducible exact spec_DrawManyRecords.mono _ _)
  | (with_reducible exact spec_DrawRecords.mono _ _)
  | (with_reducible exact LeO.refl _)
  | (with_reducible exact LeO.none _)
  | (with_reducible refine LeO.ite ?_ ?_)
  | (with_reducible refine LeO.bind ?_ (fun _=>?_))
  | exact ih0 _ _ _ _ _ _ _ _
  | exact ih1 _ _ _ _ _ _ _
  | exact impl_Gather.mono _ _
  | exact impl_SinceBase.mono _ _
  | exact impl_TxPages.mono _ _ _ _
  | exact laws_sameRecs.mono _ _ _
  | exact spec_DrawManyRecords.mono _ _
  | exact spec_DrawRecords.mono _ _
  | exact LeO.none _
  | refine LeO.ite ?_ ?_
  | refine LeO.bind ?_ (fun _=>?_)
theorem laws_FnTwoTx.mono : ∀ a0 k,LeO (laws_FnTwoTx.f k a0) (laws_FnTwoTx.f (k + 1) a0):=by
 intro a0 k;obtain ⟨ih0,ih1⟩:=laws_FnTwoTx.mono_l k;unfold laws_FnTwoTx.f
 repeat' first
   | (with_reducible exact ih0 _ _ _ _ _ _ _ _)
   | (with_reducible exact ih1 _ _ _ _ _ _ _)
   | (with_reducible exact impl_Gather.mono _ _)
   | (with_reducible exact impl_SinceBase.mono _ _)
   | (with_reducible exact impl_TxPages.mono _ _ _ _)
   | (with_reducible exact laws_sameRecs.mono _ _ _)
   | (with_reducible exact spec_DrawManyRecords.mono _ _)
   | (with_reducible exact spec_DrawRecords.mono _ _)
   | (with_reducible exact LeO.refl _)
   | (with_reducible exact LeO.none _)
   | (with_reducible refine LeO.ite ?_ ?_)
   | (with_reducible refine LeO.bind ?_ (fun _=>?_))
   | exact ih0 _ _ _ _ _ _ _ _
   | exact ih1 _ _ _ _ _ _ _
   | exact impl_Gather.mono _ _
   | exact impl_SinceBase.mono _ _
   | exact impl_TxPages.mono _ _ _ _
   | exact laws_sameRecs.mono _ _ _
   | exact spec_DrawManyRecords.mono _ _
   | exact spec_DrawRecords.mono _ _
   | exact LeO.none _
   | refine LeO.ite ?_ ?_
   | refine LeO.bind ?_ (fun _=>?_)
set_option maxHeartbeats 8000000 in
set_option maxRecDepth 100000 in
theorem laws_FnTwoTx.calls (k : Nat) (A0 : Option Addr) (c0 : Nat) (l0 : List Int) (r : Bool) (hT : Aside0 (r = true)) (w : World) (hr0 : Kd.C (Kd.int .u8) w A0 l0.length l0) (hc0 : l0.length ≤ c0) (h : laws_FnTwoTx.f k l0 = some r) :
  Calls Try.prog 4 #[.slice A0 l0.length c0] w fun e w'=>e = .returned (.bool r) ∧ Below w.heap.size w w':=by
 have hu33:=Try.underlying33;have hu36:=Try.underlying36;have HR0:=zMk hr0;have HC0:=zMk hc0;clear hr0 hc0;have HB:=zMk (Below.refl w.heap.size w);have H : ((laws_big.f l0).bind fun t555=>(if t555 = true then (some true) else ((spec_DrawManyRecords.f k l0).bind fun t556=>((spec_DrawRecords.f k l0).bind fun t559=>((impl_TxPages.f k 1 4 t556).bind fun bt562=>((impl_TxPages.f k 30 5 t559).bind fun bt566=>(laws_FnTwoTx.l0 k t556 t559 bt562.1 bt562.2 bt566.1 bt566.2 (([] : List (S36))) 0))))))) = some r:=h;clear h;replace H:=Option.bind_eq_some_iff.mp H;obtain ⟨t555,A20,H⟩:=H;replace H : (if t555 = true then (some true) else ((spec_DrawManyRecords.f k l0).bind fun t556=>((spec_DrawRecords.f k l0).bind fun t559=>((impl_TxPages.f k 1 4 t556).bind fun bt562=>((impl_TxPages.f k 30 5 t559).bind fun bt566=>(laws_FnTwoTx.l0 k t556 t559 bt562.1 bt562.2 bt566.1 bt566.2 (([] : List (S36))) 0)))))) = some r:=H;have A2:=zMk A20;clear A20
 by_cases c3 : t555 = true
 ·subst c3;have H1 : (some true) = some r:=by rw [if_pos rfl] at H;exact H
  clear H;have H:=H1;clear H1;obtain rfl:=Option.some.inj H
  go_enter Try.func4,Try.ntmps4
  go_wp2_with (first | ((with_reducible refine gate_callee (f:=7) rfl ?_);refine goesL_ (some 14) rfl rfl Try.func7 (by kernel_rfl) rfl #[.slice A0 l0.length c0] rfl (by (try simp only [List.map_toArray,List.map_cons,List.map_nil]);first | done | rfl | (simp only [List.length_drop,List.length_take];rfl)) ?_;(with_reducible refine (laws_big.calls _ _ l0 true _ ?side1 ?side2 A2.out).mono ?_);(case side1=>repeat (first | exact HR0.out | (with_reducible refine Kd.C_alloc ?_ _) | (with_reducible refine Kd.C_drewN ?_ _) | (with_reducible refine Kd.C_drew ?_)));(case side2=>exact HC0.out);rintro e w' ⟨rfl,⟨nd,rfl⟩⟩;refine ⟨_,rfl,?_⟩))
  go_ret
  exact ⟨by first | rfl | (simp [errW_none,errW_some] <;> rfl) | (simp [*,errW_none,errW_some] <;> rfl),hs HB⟩
 replace c3:=Bool.eq_false_iff.mpr c3;subst c3;have H1 : ((spec_DrawManyRecords.f k l0).bind fun t556=>((spec_DrawRecords.f k l0).bind fun t559=>((impl_TxPages.f k 1 4 t556).bind fun bt562=>((impl_TxPages.f k 30 5 t559).bind fun bt566=>(laws_FnTwoTx.l0 k t556 t559 bt562.1 bt562.2 bt566.1 bt566.2 (([] : List (S36))) 0))))) = some r:=by rw [if_neg (show ¬ (false = true) by decide)] at H;exact H
 clear H;have H:=H1;clear H1;replace H:=Option.bind_eq_some_iff.mp H;obtain ⟨t556,A40,H⟩:=H;replace H : ((spec_DrawRecords.f k l0).bind fun t559=>((impl_TxPages.f k 1 4 t556).bind fun bt562=>((impl_TxPages.f k 30 5 t559).bind fun bt566=>(laws_FnTwoTx.l0 k t556 t559 bt562.1 bt562.2 bt566.1 bt566.2 (([] : List (S36))) 0)))) = some r:=H;have A4:=zMk A40;clear A40;replace H:=Option.bind_eq_some_iff.mp H;obtain ⟨t559,A50,H⟩:=H;replace H : ((impl_TxPages.f k 1 4 t556).bind fun bt562=>((impl_TxPages.f k 30 5 t559).bind fun bt566=>(laws_FnTwoTx.l0 k t556 t559 bt562.1 bt562.2 bt566.1 bt566.2 (([] : List (S36))) 0))) = some r:=H;have A5:=zMk A50;clear A50;replace H:=Option.bind_eq_some_iff.mp H;obtain ⟨⟨t562,t563⟩,A60,H⟩:=H;replace H : ((impl_TxPages.f k 30 5 t559).bind fun bt566=>(laws_FnTwoTx.l0 k t556 t559 t562 t563 bt566.1 bt566.2 (([] : List (S36))) 0)) = some r:=H;have A6:=zMk A60;clear A60;replace H:=Option.bind_eq_some_iff.mp H;obtain ⟨⟨t566,t567⟩,A70,H⟩:=H;replace H : (laws_FnTwoTx.l0 k t556 t559 t562 t563 t566 t567 (([] : List (S36))) 0) = some r:=H;have A7:=zMk A70;clear A70;obtain ⟨y570,hy570⟩ : ∃ y_ : List (S36),y_ = (([] : List (S36))):=⟨_,rfl⟩;replace H : (laws_FnTwoTx.l0 k t556 t559 t562 t563 t566 t567 y570 0) = some r:=by first | (rw [hy570];with_reducible exact H) | (have H2_:=(Option.bind_some _ _).symm.trans H;rw [hy570];with_reducible exact H2_) | (have H2_:=(Option.bind_some _ _).symm.trans H;with_reducible exact H2_) | with_reducible exact H | (rw [hy570];exact H) | exact H
 have Ny570:=zMk hy570;clear hy570;have H':=zMk H;clear H
 go_enter Try.func4,Try.ntmps4
 go_wp2_with (first | ((with_reducible refine gate_callee (f:=7) rfl ?_);refine goesL_ (some 14) rfl rfl Try.func7 (by kernel_rfl) rfl #[.slice A0 l0.length c0] rfl (by (try simp only [List.map_toArray,List.map_cons,List.map_nil]);first | done | rfl | (simp only [List.length_drop,List.length_take];rfl)) ?_;(with_reducible refine (laws_big.calls _ _ l0 false _ ?side1 ?side2 A2.out).mono ?_);(case side1=>repeat (first | exact HR0.out | (with_reducible refine Kd.C_alloc ?_ _) | (with_reducible refine Kd.C_drewN ?_ _) | (with_reducible refine Kd.C_drew ?_)));(case side2=>exact HC0.out);rintro e w' ⟨rfl,⟨nd,rfl⟩⟩;refine ⟨_,rfl,?_⟩) | ((with_reducible refine gate_callee (f:=8) rfl ?_);refine goesL_ (some 16) rfl rfl Try.func8 (by kernel_rfl) rfl #[.slice A0 l0.length c0] rfl (by (try simp only [List.map_toArray,List.map_cons,List.map_nil]);first | done | rfl | (simp only [List.length_drop,List.length_take];rfl)) ?_;(with_reducible refine (spec_DrawManyRecords.calls k _ _ l0 t556 _ ?side1 ?side2 A4.out).mono ?_);(case side1=>repeat (first | exact HR0.out | (with_reducible refine Kd.C_alloc ?_ _) | (with_reducible refine Kd.C_drewN ?_ _) | (with_reducible refine Kd.C_drew ?_)));(case side2=>exact HC0.out);rintro e w8 ⟨v557,rfl,ho0,hb⟩;refine ⟨_,rfl,?_⟩;have n0_:=zMk (Kd.R_lower ho0 (below_size (hs HB)));have n1_:=zMk (below_step (hs HB) hb);clear HB;have HO558:=n0_;have HB:=n1_;clear n0_ n1_;(try clear hb);(try clear hb2);(try clear hk);(try clear hi);(try clear ho0)) | ((with_reducible refine gate_callee (f:=15) rfl ?_);refine goesL_ (some 18) rfl rfl Try.func15 (by kernel_rfl) rfl #[.slice A0 l0.length c0] rfl (by (try simp only [List.map_toArray,List.map_cons,List.map_nil]);first | done | rfl | (simp only [List.length_drop,List.length_take];rfl)) ?_;(with_reducible refine (spec_DrawRecords.calls k _ _ l0 t559 _ ?side1 ?side2 A5.out).mono ?_);(case side1=>repeat (first | exact (Kd.C_below HR0.out HB.out) | (with_reducible refine Kd.C_alloc ?_ _) | (with_reducible refine Kd.C_drewN ?_ _) | (with_reducible refine Kd.C_drew ?_)));(case side2=>exact HC0.out);rintro e w9 ⟨v560,rfl,ho0,hb⟩;refine ⟨_,rfl,?_⟩;have n0_:=zMk (Kd.R_elder' (rs HO558) (Kd.R_base ho0) hb);have n1_:=zMk (Kd.R_lower (Kd.R_new' ho0 (Kd.R_lt (rs HO558))) (below_size (hs HB)));have n2_:=zMk (below_step (hs HB) hb);clear HO558;clear HB;have HO558:=n0_;have HO561:=n1_;have HB:=n2_;clear n0_ n1_ n2_;(try clear hb);(try clear hb2);(try clear hk);(try clear hi);(try clear ho0);obtain ⟨Ao10,co10,eo10⟩:=Kd.R_slice HO558.out;subst eo10) | ((with_reducible refine gate_callee (f:=10) rfl ?_);refine goesL_ (some 21) rfl rfl Try.func10 (by kernel_rfl) rfl #[.int .i64 1,.int .i64 4,.slice Ao10 t556.length co10] rfl (by (try simp only [List.map_toArray,List.map_cons,List.map_nil]);first | done | rfl | (simp only [List.length_drop,List.length_take];rfl)) ?_;(with_reducible refine (impl_TxPages.calls k 1 4 _ _ t556 t562 t563 _ ?side1 ?side2 A6.out).mono ?_);(case side1=>repeat (first | exact (Kd.R_reads' HO558.out).2.2 | (with_reducible refine Kd.C_alloc ?_ _) | (with_reducible refine Kd.C_drewN ?_ _) | (with_reducible refine Kd.C_drew ?_)));(case side2=>exact (Kd.R_reads' HO558.out).2.1);rintro e w11 ⟨v564,rfl,ho0,hb⟩;refine ⟨_,rfl,?_⟩;have n0_:=zMk (Kd.R_below (rs HO558) hb);have n1_:=zMk (Kd.R_below (rs HO561) hb);have n2_:=zMk (Kd.R_lower ho0 (below_size (hs HB)));have n3_:=zMk (below_step (hs HB) hb);clear HO558;clear HO561;clear HB;have HO558:=n0_;have HO561:=n1_;have HO565:=n2_;have HB:=n3_;clear n0_ n1_ n2_ n3_;(try clear hb);(try clear hb2);(try clear hk);(try clear hi);(try clear ho0);obtain ⟨Ao12,co12,eo12⟩:=Kd.R_slice HO561.out;subst eo12) | ((with_reducible refine gate_callee (f:=10) rfl ?_);refine goesL_ (some 26) rfl rfl Try.func10 (by kernel_rfl) rfl #[.int .i64 30,.int .i64 5,.slice Ao12 t559.length co12] rfl (by (try simp only [List.map_toArray,List.map_cons,List.map_nil]);first | done | rfl | (simp only [List.length_drop,List.length_take];rfl)) ?_;(with_reducible refine (impl_TxPages.calls k 30 5 _ _ t559 t566 t567 _ ?side1 ?side2 A7.out).mono ?_);(case side1=>repeat (first | exact (Kd.R_reads' HO561.out).2.2 | (with_reducible refine Kd.C_alloc ?_ _) | (with_reducible refine Kd.C_drewN ?_ _) | (with_reducible refine Kd.C_drew ?_)));(case side2=>exact (Kd.R_reads' HO561.out).2.1);rintro e w13 ⟨v568,rfl,ho0,hb⟩;refine ⟨_,rfl,?_⟩;have n0_:=zMk (Kd.R_below (rs HO558) hb);have n1_:=zMk (Kd.R_below (rs HO561) hb);have n2_:=zMk (Kd.R_elder' (rs HO565) (Kd.R_base ho0) hb);have n3_:=zMk (Kd.R_lower (Kd.R_new' ho0 (Kd.R_lt (rs HO565))) (below_size (hs HB)));have n4_:=zMk (below_step (hs HB) hb);clear HO558;clear HO561;clear HO565;clear HB;have HO558:=n0_;have HO561:=n1_;have HO565:=n2_;have HO569:=n3_;have HB:=n4_;clear n0_ n1_ n2_ n3_ n4_;(try clear hb);(try clear hb2);(try clear hk);(try clear hi);(try clear ho0)) | ((with_reducible refine gate_dst (N:=29) rfl ?_);(try (refine gate_guard (by rfl) ?_;dsimp only));refine Kd.R_lit k36 _ 36 ?hg (N:=29) ?hd (xs:=([] : List (S36))) (inner:=[]) (ok:=fun _=>True) (okp:=fun _=>True) ?hr ?hp (fun _ hk=>hk) trivial (Below.refl _ _) (Nat.le_refl _) (by simp) ?_;(case hd=>rfl);(case hg=>rfl);(case hr=>first | (go_simp;done) | (go_simp;rfl));(case hp=>exact (Reps.none _ _));intro v571 w14 ho15 hb hg_ hnew_;clear hg_ hnew_;(first | rw [← Ny570.out] at ho15 | (simp only [Int.reduceToNat] at ho15;rw [← Ny570.out] at ho15));have n0_:=zMk (Kd.R_below (rs HO558) hb);have n1_:=zMk (Kd.R_below (rs HO561) hb);have n2_:=zMk (Kd.R_below (rs HO565) hb);have n3_:=zMk (Kd.R_below (rs HO569) hb);have n4_:=zMk (Kd.R_lower ho15 (below_size (hs HB)));have n5_:=zMk (below_step (hs HB) hb);clear HO558;clear HO561;clear HO565;clear HO569;clear HB;have HO558:=n0_;have HO561:=n1_;have HO565:=n2_;have HO569:=n3_;have HO572:=n4_;have HB:=n5_;clear n0_ n1_ n2_ n3_ n4_ n5_;clear hb ho15));go_loopg [9,10] k (fun kq v9 v10 w'=>∃ (x9_1 : List (S36)) (x10_1 : Int),v10 = .int .i64 x10_1 ∧ Aside0 (laws_FnTwoTx.l0 kq t556 t559 t562 t563 t566 t567 x9_1 x10_1 = some r) ∧ Aside0 (kq ≤ k) ∧ Aside0 (Kd.R k45 45 w' w.heap.size (fun k_=>some k_ ≠ ((.slice Ao12 t559.length co12) : Value).ownBlock) (.slice Ao10 t556.length co10) t556) ∧ Aside0 (Kd.R k45 45 w' w.heap.size (fun k_=>some k_ ≠ ((.slice Ao10 t556.length co10) : Value).ownBlock) (.slice Ao12 t559.length co12) t559) ∧ Aside0 (Kd.R k33 33 w' w.heap.size (fun k_=>some k_ ≠ (v568 : Value).ownBlock) v564 t562) ∧ Aside0 (Kd.R k33 33 w' w.heap.size (fun k_=>some k_ ≠ (v564 : Value).ownBlock) v568 t566) ∧ Aside0 (Kd.R k36 36 w' w.heap.size (fun _=>True) v9 x9_1) ∧ Aside0 (Below w.heap.size w w'));case atStart=>exact ⟨(y570),(0),(by first | rfl | (simp;done) | (simp [*];done)),H',⟨Nat.le_refl _⟩,⟨by (with_reducible repeat (first | apply Kd.R_alloc | apply Kd.R_drewN | apply Kd.R_drew));exact Kd.R_mono HO558.out (fun _ hk=>hk.2)⟩,⟨by (with_reducible repeat (first | apply Kd.R_alloc | apply Kd.R_drewN | apply Kd.R_drew));exact Kd.R_mono HO561.out (fun _ hk=>hk.2)⟩,⟨by (with_reducible repeat (first | apply Kd.R_alloc | apply Kd.R_drewN | apply Kd.R_drew));exact Kd.R_mono HO565.out (fun _ hk=>hk.2)⟩,⟨by (with_reducible repeat (first | apply Kd.R_alloc | apply Kd.R_drewN | apply Kd.R_drew));exact Kd.R_mono HO569.out (fun _ hk=>hk.2)⟩,⟨rs HO572⟩,⟨hs HB⟩⟩
 case round =>
  clear H'
  try clear c1
  try clear p2
  try clear c3
  try clear c4
  try clear c7
  try clear c8
  try clear c10
  try clear c15
  obtain ⟨x9_1,x10_1,rfl,HA,HK1,HO_3,HO_4,HO_5,HO_7,HO_9,HB⟩:=hrel;cases gk with
  | zero=>exact absurd HA.out (by simp [laws_FnTwoTx.l0])
  | succ k1 =>
   have H:=HA.out;clear HA;simp only [laws_FnTwoTx.l0] at H
   by_cases c16 : x10_1 < (t566.length : Int)
   ·rw [if_pos c16] at H;have c16b0 : decide (x10_1 < (t566.length : Int)) = true:=decide_eq_true c16;clear c16
    by_cases c17 : 0 ≤ x10_1
    ·rw [if_pos c17] at H;have c17b0 : decide (0 ≤ x10_1) = true:=decide_eq_true c17;clear c17
     by_cases c18 : x9_1.length < 1954687338268
     ·rw [if_pos c18] at H;have LMc18:=zMk c18;clear c18;obtain ⟨y574,hy574⟩ : ∃ y_ : List (S36),y_ = (x9_1 ++ [(⟨0,0,(⟨(rd_T33 t566 x10_1).f0,(rd_T33 t566 x10_1).f1,(rd_T33 t566 x10_1).f2,(rd_T33 t566 x10_1).f3,(rd_T33 t566 x10_1).f4,(rd_T33 t566 x10_1).f5⟩ : S33)⟩ : S36)]):=⟨_,rfl⟩;replace H : (laws_FnTwoTx.l0 k1 t556 t559 t562 t563 t566 t567 y574 (wrap64 (x10_1 + 1))) = some r:=by first | (rw [hy574];with_reducible exact H) | (have H2_:=(Option.bind_some _ _).symm.trans H;rw [hy574];with_reducible exact H2_) | (have H2_:=(Option.bind_some _ _).symm.trans H;with_reducible exact H2_) | with_reducible exact H | (rw [hy574];exact H) | exact H
      have Ny574:=zMk hy574;clear hy574;have H':=zMk H;clear H;obtain ⟨Ao19,co19,eo19⟩:=Kd.R_slice HO_7.out;subst eo19;have p573 : 0 ≤ (x10_1 : Int):=zDe (by first | (with_reducible assumption) | assumption);have q573 : x10_1 < (t566.length : Int):=zDe (by first | (with_reducible assumption) | assumption);obtain ⟨ad573,e573,hx573_0,hx573_1,hx573_2,hx573_3,hx573_4,hx573_5⟩:=at_T33 (Kd.R_reads' HO_7.out).2.2 x10_1 p573 q573;cases e573;replace p573:=eq_true p573;replace q573:=eq_true q573;go_wp2_with (first | ((with_reducible refine gate_builtin (b:=.append) (xs:=#[.tmp 36,.tmp 42]) rfl ?_);(try (refine gate_guard (by rfl) ?_;dsimp only));at_builtin;refine Kd.R_append k36 (w0:=w) w.heap.size rfl (.tmp 36) (.tmp 42) 31 36 (.agg #[(.int .i64 0),(.int .i64 0),(.int .i64 0),(.int .i64 0),(.int .i64 0),(.int .i64 0),(.int .i64 0),(.string ⟨#[]⟩)]) 72 rfl Try.underlying31 info36 rfl (by decide) (by omega) u9 x9_1 (⟨0,0,(⟨(rd_T33 t566 x10_1).f0,(rd_T33 t566 x10_1).f1,(rd_T33 t566 x10_1).f2,(rd_T33 t566 x10_1).f3,(rd_T33 t566 x10_1).f4,(rd_T33 t566 x10_1).f5⟩ : S33)⟩ : S36) [.int .i64 0,.int .i64 0,.int .i64 ((rd_T33 t566 x10_1).f0),.int .i64 ((rd_T33 t566 x10_1).f1),.int .i64 ((rd_T33 t566 x10_1).f2),.int .i64 ((rd_T33 t566 x10_1).f3),.int .i64 ((rd_T33 t566 x10_1).f4),.string ((rd_T33 t566 x10_1).f5)] (fun _=>True) (fun _=>False) rfl rfl ?aP (fun _ hk=>hk.elim) ?aF ?aO ?aB ?aS ?aL ?_;(case aP=>exact k36_mkM _ _ _ (⟨0,0,(⟨(rd_T33 t566 x10_1).f0,(rd_T33 t566 x10_1).f1,(rd_T33 t566 x10_1).f2,(rd_T33 t566 x10_1).f3,(rd_T33 t566 x10_1).f4,(rd_T33 t566 x10_1).f5⟩ : S33)⟩ : S36));(case aB=>exact (hs HB));(case aF=>exact (fun _ _=>trivial));(case aO=>exact (rs HO_9));(case aS=>exact (below_size (hs HB)));(case aL=>have:=LMc18.out;omega);intro v575 w20 ho hb hg hat;rw [← Ny574.out] at ho;have n0_:=zMk (Kd.R_over' (rs HO_3) (Kd.R_typed (rs HO_9)) (by decide) hg);have n1_:=zMk (Kd.R_over' (rs HO_4) (Kd.R_typed (rs HO_9)) (by decide) hg);have n2_:=zMk (Kd.R_over' (rs HO_5) (Kd.R_typed (rs HO_9)) (by decide) hg);have n3_:=zMk (Kd.R_over' (rs HO_7) (Kd.R_typed (rs HO_9)) (by decide) hg);have n4_:=zMk (hb);have n5_:=zMk (ho);clear HO_3;clear HO_4;clear HO_5;clear HO_7;clear HB;clear HO_9;have HO_3:=n0_;have HO_4:=n1_;have HO_5:=n2_;have HO_7:=n3_;have HB:=n4_;have HO576:=n5_;clear n0_ n1_ n2_ n3_ n4_ n5_;clear ho hb hg hat));go_roundg k1;case measure=>have:=HK1.out;omega
      case rel=>exact ⟨(y574),(wrap64 (x10_1 + 1)),(by first | rfl | (simp;done) | (simp [*];done)),H',⟨by have:=HK1.out;omega⟩,⟨rs HO_3⟩,⟨rs HO_4⟩,⟨rs HO_5⟩,⟨rs HO_7⟩,⟨rs HO576⟩,⟨hs HB⟩⟩
     rw [if_neg c18] at H;exact absurd H (by simp)
    rw [if_neg c17] at H;exact absurd H (by simp)
   rw [if_neg c16] at H;have c16b0 : decide (x10_1 < (t566.length : Int)) = false:=decide_eq_false c16;clear c16;have H':=zMk H;clear H;obtain ⟨Ao21,co21,eo21⟩:=Kd.R_slice HO_7.out;subst eo21
   go_wp2
   go_loopg [9,11] k1 (fun kq v9 v11 w'=>∃ (x9_2 : List (S36)) (x11_2 : Int),v11 = .int .i64 x11_2 ∧ Aside0 (laws_FnTwoTx.l1 kq t556 t559 t562 t563 t567 x9_2 x11_2 = some r) ∧ Aside0 (kq ≤ k1) ∧ Aside0 (Kd.R k45 45 w' w.heap.size (fun k_=>some k_ ≠ ((.slice Ao12 t559.length co12) : Value).ownBlock) (.slice Ao10 t556.length co10) t556) ∧ Aside0 (Kd.R k45 45 w' w.heap.size (fun k_=>some k_ ≠ ((.slice Ao10 t556.length co10) : Value).ownBlock) (.slice Ao12 t559.length co12) t559) ∧ Aside0 (Kd.R k33 33 w' w.heap.size (fun _=>True) v564 t562) ∧ Aside0 (Kd.R k36 36 w' w.heap.size (fun _=>True) v9 x9_2) ∧ Aside0 (Below w.heap.size w w'));case atStart=>exact ⟨(x9_1),(0),(by first | rfl | (simp;done) | (simp [*];done)),H',⟨Nat.le_refl _⟩,⟨rs HO_3⟩,⟨rs HO_4⟩,⟨by (with_reducible repeat (first | apply Kd.R_alloc | apply Kd.R_drewN | apply Kd.R_drew));exact Kd.R_mono HO_5.out (fun _ hk=>trivial)⟩,⟨rs HO_9⟩,⟨hs HB⟩⟩
   case round =>
    clear H'
    try clear c1
    try clear p2
    try clear c3
    try clear c4
    try clear p5
    try clear q5
    try clear hx5
    try clear p6
    try clear c7
    try clear c8
    try clear c10
    try clear c15
    try clear c16
    try clear c16b0
    try clear c17
    try clear c17b0
    try clear c18
    try clear hx573_0
    try clear hx573_1
    try clear hx573_2
    try clear hx573_3
    try clear hx573_4
    try clear hx573_5
    try clear p2
    try clear p573
    try clear q573
    obtain ⟨x9_2,x11_2,rfl,HA,HK2,HO_3,HO_4,HO_5,HO_9,HB⟩:=hrel;cases gk with
    | zero=>exact absurd HA.out (by simp [laws_FnTwoTx.l1])
    | succ k2 =>
     have H:=HA.out;clear HA;simp only [laws_FnTwoTx.l1] at H
     by_cases c22 : x11_2 < (t562.length : Int)
     ·rw [if_pos c22] at H;have c22b0 : decide (x11_2 < (t562.length : Int)) = true:=decide_eq_true c22;clear c22
      by_cases c23 : 0 ≤ x11_2
      ·rw [if_pos c23] at H;have c23b0 : decide (0 ≤ x11_2) = true:=decide_eq_true c23;clear c23
       by_cases c24 : x9_2.length < 1954687338268
       ·rw [if_pos c24] at H;have LMc24:=zMk c24;clear c24;obtain ⟨y578,hy578⟩ : ∃ y_ : List (S36),y_ = (x9_2 ++ [(⟨0,0,(⟨(rd_T33 t562 x11_2).f0,(rd_T33 t562 x11_2).f1,(rd_T33 t562 x11_2).f2,(rd_T33 t562 x11_2).f3,(rd_T33 t562 x11_2).f4,(rd_T33 t562 x11_2).f5⟩ : S33)⟩ : S36)]):=⟨_,rfl⟩;replace H : (laws_FnTwoTx.l1 k2 t556 t559 t562 t563 t567 y578 (wrap64 (x11_2 + 1))) = some r:=by first | (rw [hy578];with_reducible exact H) | (have H2_:=(Option.bind_some _ _).symm.trans H;rw [hy578];with_reducible exact H2_) | (have H2_:=(Option.bind_some _ _).symm.trans H;with_reducible exact H2_) | with_reducible exact H | (rw [hy578];exact H) | exact H
        have Ny578:=zMk hy578;clear hy578;have H':=zMk H;clear H;obtain ⟨Ao25,co25,eo25⟩:=Kd.R_slice HO_5.out;subst eo25;have p577 : 0 ≤ (x11_2 : Int):=zDe (by first | (with_reducible assumption) | assumption);have q577 : x11_2 < (t562.length : Int):=zDe (by first | (with_reducible assumption) | assumption);obtain ⟨ad577,e577,hx577_0,hx577_1,hx577_2,hx577_3,hx577_4,hx577_5⟩:=at_T33 (Kd.R_reads' HO_5.out).2.2 x11_2 p577 q577;cases e577;replace p577:=eq_true p577;replace q577:=eq_true q577;go_wp2_with (first | ((with_reducible refine gate_builtin (b:=.append) (xs:=#[.tmp 50,.tmp 56]) rfl ?_);(try (refine gate_guard (by rfl) ?_;dsimp only));at_builtin;refine Kd.R_append k36 (w0:=w) w.heap.size rfl (.tmp 50) (.tmp 56) 31 36 (.agg #[(.int .i64 0),(.int .i64 0),(.int .i64 0),(.int .i64 0),(.int .i64 0),(.int .i64 0),(.int .i64 0),(.string ⟨#[]⟩)]) 72 rfl Try.underlying31 info36 rfl (by decide) (by omega) u9 x9_2 (⟨0,0,(⟨(rd_T33 t562 x11_2).f0,(rd_T33 t562 x11_2).f1,(rd_T33 t562 x11_2).f2,(rd_T33 t562 x11_2).f3,(rd_T33 t562 x11_2).f4,(rd_T33 t562 x11_2).f5⟩ : S33)⟩ : S36) [.int .i64 0,.int .i64 0,.int .i64 ((rd_T33 t562 x11_2).f0),.int .i64 ((rd_T33 t562 x11_2).f1),.int .i64 ((rd_T33 t562 x11_2).f2),.int .i64 ((rd_T33 t562 x11_2).f3),.int .i64 ((rd_T33 t562 x11_2).f4),.string ((rd_T33 t562 x11_2).f5)] (fun _=>True) (fun _=>False) rfl rfl ?aP (fun _ hk=>hk.elim) ?aF ?aO ?aB ?aS ?aL ?_;(case aP=>exact k36_mkM _ _ _ (⟨0,0,(⟨(rd_T33 t562 x11_2).f0,(rd_T33 t562 x11_2).f1,(rd_T33 t562 x11_2).f2,(rd_T33 t562 x11_2).f3,(rd_T33 t562 x11_2).f4,(rd_T33 t562 x11_2).f5⟩ : S33)⟩ : S36));(case aB=>exact (hs HB));(case aF=>exact (fun _ _=>trivial));(case aO=>exact (rs HO_9));(case aS=>exact (below_size (hs HB)));(case aL=>have:=LMc24.out;omega);intro v579 w26 ho hb hg hat;rw [← Ny578.out] at ho;have n0_:=zMk (Kd.R_over' (rs HO_3) (Kd.R_typed (rs HO_9)) (by decide) hg);have n1_:=zMk (Kd.R_over' (rs HO_4) (Kd.R_typed (rs HO_9)) (by decide) hg);have n2_:=zMk (Kd.R_over' (rs HO_5) (Kd.R_typed (rs HO_9)) (by decide) hg);have n3_:=zMk (hb);have n4_:=zMk (ho);clear HO_3;clear HO_4;clear HO_5;clear HB;clear HO_9;have HO_3:=n0_;have HO_4:=n1_;have HO_5:=n2_;have HB:=n3_;have HO580:=n4_;clear n0_ n1_ n2_ n3_ n4_;clear ho hb hg hat));go_roundg k2;case measure=>have:=HK1.out;have:=HK2.out;omega
        case rel=>exact ⟨(y578),(wrap64 (x11_2 + 1)),(by first | rfl | (simp;done) | (simp [*];done)),H',⟨by have:=HK1.out;have:=HK2.out;omega⟩,⟨rs HO_3⟩,⟨rs HO_4⟩,⟨rs HO_5⟩,⟨rs HO580⟩,⟨hs HB⟩⟩
       rw [if_neg c24] at H;exact absurd H (by simp)
      rw [if_neg c23] at H;exact absurd H (by simp)
     rw [if_neg c22] at H;have c22b0 : decide (x11_2 < (t562.length : Int)) = false:=decide_eq_false c22;clear c22;replace H:=Option.bind_eq_some_iff.mp H;obtain ⟨t581,A270,H⟩:=H;replace H : (if t563 = true then (if t567 = true then (if (t581.length : Int) = 2 then (if 0 < (t581.length : Int) then (if ((rd_T40 t581 0).f0) = 4 then (if 1 < (t581.length : Int) then (if ((rd_T40 t581 1).f0) = 5 then ((laws_sameRecs.f k2 ((rd_T40 t581 0).f2) t556).bind fun t587=>(if t587 = true then ((laws_sameRecs.f k2 ((rd_T40 t581 1).f2) t559).bind fun t589=>(if t589 = true then ((impl_SinceBase.f k2 t581).bind fun t590=>(some (decide ((t590.length : Int) ≤ 2)))) else (some false))) else (some false))) else (some false)) else (none)) else (some false)) else (none)) else (some false)) else (some false)) else (some false)) = some r:=H;have A27:=zMk A270;clear A270
     by_cases c28 : t563 = true
     ·subst c28;have H1 : (if t567 = true then (if (t581.length : Int) = 2 then (if 0 < (t581.length : Int) then (if ((rd_T40 t581 0).f0) = 4 then (if 1 < (t581.length : Int) then (if ((rd_T40 t581 1).f0) = 5 then ((laws_sameRecs.f k2 ((rd_T40 t581 0).f2) t556).bind fun t587=>(if t587 = true then ((laws_sameRecs.f k2 ((rd_T40 t581 1).f2) t559).bind fun t589=>(if t589 = true then ((impl_SinceBase.f k2 t581).bind fun t590=>(some (decide ((t590.length : Int) ≤ 2)))) else (some false))) else (some false))) else (some false)) else (none)) else (some false)) else (none)) else (some false)) else (some false)) = some r:=by rw [if_pos rfl] at H;exact H
      clear H;have H:=H1;clear H1
      by_cases c29 : t567 = true
      ·subst c29;have H1 : (if (t581.length : Int) = 2 then (if 0 < (t581.length : Int) then (if ((rd_T40 t581 0).f0) = 4 then (if 1 < (t581.length : Int) then (if ((rd_T40 t581 1).f0) = 5 then ((laws_sameRecs.f k2 ((rd_T40 t581 0).f2) t556).bind fun t587=>(if t587 = true then ((laws_sameRecs.f k2 ((rd_T40 t581 1).f2) t559).bind fun t589=>(if t589 = true then ((impl_SinceBase.f k2 t581).bind fun t590=>(some (decide ((t590.length : Int) ≤ 2)))) else (some false))) else (some false))) else (some false)) else (none)) else (some false)) else (none)) else (some false)) = some r:=by rw [if_pos rfl] at H;exact H
       clear H;have H:=H1;clear H1
       by_cases c30 : (t581.length : Int) = 2
       ·rw [if_pos c30] at H;have c30b0 : ((t581.length : Int) == 2) = true:=beq_iff_eq.mpr c30;have c30b1 : ((t581.length : Int) != 2) = false:=bne_eq_false_iff_eq.mpr c30;clear c30
        by_cases c31 : 0 < (t581.length : Int)
        ·rw [if_pos c31] at H;have c31b0 : decide (0 < (t581.length : Int)) = true:=decide_eq_true c31;have c31b1 : decide (0 < t581.length) = true:=decide_eq_true (by omega);clear c31
         by_cases c32 : ((rd_T40 t581 0).f0) = 4
         ·rw [if_pos c32] at H;have c32b0 : (((rd_T40 t581 0).f0) == 4) = true:=beq_iff_eq.mpr c32;have c32b1 : (((rd_T40 t581 0).f0) != 4) = false:=bne_eq_false_iff_eq.mpr c32;clear c32
          by_cases c33 : 1 < (t581.length : Int)
          ·rw [if_pos c33] at H;have c33b0 : decide (1 < (t581.length : Int)) = true:=decide_eq_true c33;have c33b1 : decide (1 < t581.length) = true:=decide_eq_true (by omega);clear c33
           by_cases c34 : ((rd_T40 t581 1).f0) = 5
           ·rw [if_pos c34] at H;have c34b0 : (((rd_T40 t581 1).f0) == 5) = true:=beq_iff_eq.mpr c34;have c34b1 : (((rd_T40 t581 1).f0) != 5) = false:=bne_eq_false_iff_eq.mpr c34;clear c34;replace H:=Option.bind_eq_some_iff.mp H;obtain ⟨t587,A350,H⟩:=H;replace H : (if t587 = true then ((laws_sameRecs.f k2 ((rd_T40 t581 1).f2) t559).bind fun t589=>(if t589 = true then ((impl_SinceBase.f k2 t581).bind fun t590=>(some (decide ((t590.length : Int) ≤ 2)))) else (some false))) else (some false)) = some r:=H;have A35:=zMk A350;clear A350
            by_cases c36 : t587 = true
            ·subst c36;have H1 : ((laws_sameRecs.f k2 ((rd_T40 t581 1).f2) t559).bind fun t589=>(if t589 = true then ((impl_SinceBase.f k2 t581).bind fun t590=>(some (decide ((t590.length : Int) ≤ 2)))) else (some false))) = some r:=by rw [if_pos rfl] at H;exact H
             clear H;have H:=H1;clear H1;replace H:=Option.bind_eq_some_iff.mp H;obtain ⟨t589,A370,H⟩:=H;replace H : (if t589 = true then ((impl_SinceBase.f k2 t581).bind fun t590=>(some (decide ((t590.length : Int) ≤ 2)))) else (some false)) = some r:=H;have A37:=zMk A370;clear A370
             by_cases c38 : t589 = true
             ·subst c38;have H1 : ((impl_SinceBase.f k2 t581).bind fun t590=>(some (decide ((t590.length : Int) ≤ 2)))) = some r:=by rw [if_pos rfl] at H;exact H
              clear H;have H:=H1;clear H1;replace H:=Option.bind_eq_some_iff.mp H;obtain ⟨t590,A390,H⟩:=H;replace H : (some (decide ((t590.length : Int) ≤ 2))) = some r:=H;have A39:=zMk A390;clear A390;obtain rfl:=Option.some.inj H;obtain ⟨Ao40,co40,eo40⟩:=Kd.R_slice HO_5.out;subst eo40;obtain ⟨Ao41,co41,eo41⟩:=Kd.R_slice HO_9.out;subst eo41;go_wp2_with (first | ((with_reducible refine gate_callee (f:=13) rfl ?_);refine goesL_ (some 59) rfl rfl Try.func13 (by kernel_rfl) rfl #[.slice Ao41 x9_2.length co41] rfl (by (try simp only [List.map_toArray,List.map_cons,List.map_nil]);first | done | rfl | (simp only [List.length_drop,List.length_take];rfl)) ?_;(with_reducible refine (impl_Gather.calls k2 _ _ x9_2 t581 _ ?side1 ?side2 A27.out).mono ?_);(case side1=>repeat (first | exact (Kd.R_reads' HO_9.out).2.2 | (with_reducible refine Kd.C_alloc ?_ _) | (with_reducible refine Kd.C_drewN ?_ _) | (with_reducible refine Kd.C_drew ?_)));(case side2=>exact (Kd.R_reads' HO_9.out).2.1);rintro e w42 ⟨v582,rfl,ho0,hb⟩;refine ⟨_,rfl,?_⟩;have n0_:=zMk (Kd.R_below (rs HO_3) hb);have n1_:=zMk (Kd.R_below (rs HO_4) hb);have n2_:=zMk (Kd.R_below (rs HO_5) hb);have n3_:=zMk (Kd.R_below (rs HO_9) hb);have n4_:=zMk (Kd.S_lower (Kd.S_new' (Kd.S_new' ho0 (Kd.R_lt (rs HO_3))) (Kd.R_lt (rs HO_4))) (below_size (hs HB)));have n5_:=zMk (below_step (hs HB) hb);clear HO_3;clear HO_4;clear HO_5;clear HO_9;clear HB;have HO_3:=n0_;have HO_4:=n1_;have HO_5:=n2_;have HO_9:=n3_;have HO583:=n4_;have HB:=n5_;clear n0_ n1_ n2_ n3_ n4_ n5_;(try clear hb);(try clear hb2);(try clear hk);(try clear hi);(try clear ho0);obtain ⟨Ao43,co43,eo43⟩:=Kd.S_slice HO583.out;subst eo43;have p584 : 0 ≤ (0 : Int):=(by omega);have q584 : 0 < (t581.length : Int):=zDe (by first | (with_reducible assumption) | assumption);obtain ⟨ad584,A584_2,c584_2,e584,hx584_0,hx584_1,hx584_2,hl584_2,hi584_2⟩:=at_T40 (Kd.S_reads' HO583.out).2.2 0 p584 q584;cases e584;obtain ⟨ce584,hce584,hMe584,hcc584⟩:=Kd.S_get HO583.out z40 0 p584 (by first | exact q584 | exact zDe (by first | (with_reducible assumption) | assumption) | (have e_:=(Kd.S_reads' HO583.out).1;omega));obtain ⟨ve584_2,rfl,ge584_2⟩:=k40_openM hMe584;have hv584_2:=hcc584 2 _ rfl;rw [add_field _ _ 2 (by omega)] at hv584_2;replace hv584_2:=Option.some.inj (hv584_2.symm.trans hx584_2);rw [hv584_2] at ge584_2;have HL584_2:=zMk (show Kd.R k45 45 _ _ _ _ ((rd_T40 t581 0).f2) from ge584_2);clear hv584_2 ge584_2;clear hcc584 hce584;have qi584 : (0 < t581.length) = True:=eq_true (by omega);(try rw [show ((0 : Int)).toNat = 0 from rfl] at hx584_0);(try rw [show 0 * 3 = 0 from rfl] at hx584_0);(try rw [Addr.add_zero'] at hx584_0);(try rw [show ((0 : Int)).toNat = 0 from rfl] at hx584_1);(try rw [show 0 * 3 = 0 from rfl] at hx584_1);(try rw [Addr.add_zero'] at hx584_1);(try rw [show ((0 : Int)).toNat = 0 from rfl] at hx584_2);(try rw [show 0 * 3 = 0 from rfl] at hx584_2);(try rw [Addr.add_zero'] at hx584_2);have HR584_2:=zMk hi584_2;have HC584_2:=zMk hl584_2;clear hi584_2 hl584_2;replace p584:=eq_true p584;replace q584:=eq_true q584;have p585 : 0 ≤ (1 : Int):=(by omega);have q585 : 1 < (t581.length : Int):=zDe (by first | (with_reducible assumption) | assumption);obtain ⟨ad585,A585_2,c585_2,e585,hx585_0,hx585_1,hx585_2,hl585_2,hi585_2⟩:=at_T40 (Kd.S_reads' HO583.out).2.2 1 p585 q585;obtain rfl : ad584 = ad585:=(by injection e585);obtain ⟨ce585,hce585,hMe585,hcc585⟩:=Kd.S_get HO583.out z40 1 p585 (by first | exact q585 | exact zDe (by first | (with_reducible assumption) | assumption) | (have e_:=(Kd.S_reads' HO583.out).1;omega));obtain ⟨ve585_2,rfl,ge585_2⟩:=k40_openM hMe585;have hv585_2:=hcc585 2 _ rfl;rw [add_field _ _ 2 (by omega)] at hv585_2;replace hv585_2:=Option.some.inj (hv585_2.symm.trans hx585_2);rw [hv585_2] at ge585_2;have HL585_2:=zMk (show Kd.R k45 45 _ _ _ _ ((rd_T40 t581 1).f2) from ge585_2);clear hv585_2 ge585_2;clear hcc585 hce585;(try simp only [show (1 : Int).toNat = 1 from rfl,Nat.reduceMul,Nat.reduceEqDiff,Go.Addr.add,↓reduceIte] at hx585_0);(try simp only [show (1 : Int).toNat = 1 from rfl,Nat.reduceMul,Nat.reduceEqDiff,Go.Addr.add,↓reduceIte] at hx585_1);(try simp only [show (1 : Int).toNat = 1 from rfl,Nat.reduceMul,Nat.reduceEqDiff,Go.Addr.add,↓reduceIte] at hx585_2);have qi585 : (1 < t581.length) = True:=eq_true (by omega);(try rw [show ((1 : Int)).toNat = 1 from rfl] at hx585_0);(try rw [show 1 * 3 = 3 from rfl] at hx585_0);(try rw [show ((1 : Int)).toNat = 1 from rfl] at hx585_1);(try rw [show 1 * 3 = 3 from rfl] at hx585_1);(try rw [show ((1 : Int)).toNat = 1 from rfl] at hx585_2);(try rw [show 1 * 3 = 3 from rfl] at hx585_2);have HR585_2:=zMk hi585_2;have HC585_2:=zMk hl585_2;clear hi585_2 hl585_2;replace p585:=eq_true p585;replace q585:=eq_true q585;have p586 : 0 ≤ (0 : Int):=(by omega);have q586 : 0 < (t581.length : Int):=zDe (by first | (with_reducible assumption) | assumption);obtain ⟨ad586,A586_2,c586_2,e586,hx586_0,hx586_1,hx586_2,hl586_2,hi586_2⟩:=at_T40 (Kd.S_reads' HO583.out).2.2 0 p586 q586;obtain rfl : ad584 = ad586:=(by injection e586);obtain ⟨ce586,hce586,hMe586,hcc586⟩:=Kd.S_get HO583.out z40 0 p586 (by first | exact q586 | exact zDe (by first | (with_reducible assumption) | assumption) | (have e_:=(Kd.S_reads' HO583.out).1;omega));obtain ⟨ve586_2,rfl,ge586_2⟩:=k40_openM hMe586;have hv586_2:=hcc586 2 _ rfl;rw [add_field _ _ 2 (by omega)] at hv586_2;replace hv586_2:=Option.some.inj (hv586_2.symm.trans hx586_2);rw [hv586_2] at ge586_2;have HL586_2:=zMk (show Kd.R k45 45 _ _ _ _ ((rd_T40 t581 0).f2) from ge586_2);clear hv586_2 ge586_2;clear hcc586 hce586;have qi586 : (0 < t581.length) = True:=eq_true (by omega);(try rw [show ((0 : Int)).toNat = 0 from rfl] at hx586_0);(try rw [show 0 * 3 = 0 from rfl] at hx586_0);(try rw [Addr.add_zero'] at hx586_0);(try rw [show ((0 : Int)).toNat = 0 from rfl] at hx586_1);(try rw [show 0 * 3 = 0 from rfl] at hx586_1);(try rw [Addr.add_zero'] at hx586_1);(try rw [show ((0 : Int)).toNat = 0 from rfl] at hx586_2);(try rw [show 0 * 3 = 0 from rfl] at hx586_2);(try rw [Addr.add_zero'] at hx586_2);have HR586_2:=zMk hi586_2;have HC586_2:=zMk hl586_2;clear hi586_2 hl586_2;replace p586:=eq_true p586;replace q586:=eq_true q586;have ea_:=Option.some.inj (hx584_2.symm.trans hx586_2);injection ea_ with ea_ en_ ec_;subst ea_;subst ec_;clear en_) | (go_at_call 14;(with_reducible refine (laws_sameRecs.calls k2 _ _ ((rd_T40 t581 0).f2) _ _ t556 true _ ?side1 ?side2 ?side3 ?side4 A35.out).mono ?_);(case side1=>repeat (first | exact (by repeat (first | (with_reducible exact HR586_2.out) | (with_reducible refine Kd.C_alloc ?_ _) | (with_reducible refine Kd.C_drewN ?_ _) | (with_reducible refine Kd.C_drew ?_) | exact HR586_2.out)) | (with_reducible refine Kd.C_alloc ?_ _) | (with_reducible refine Kd.C_drewN ?_ _) | (with_reducible refine Kd.C_drew ?_)));(case side2=>exact HC586_2.out);(case side3=>repeat (first | exact (Kd.R_reads' HO_3.out).2.2 | (with_reducible refine Kd.C_alloc ?_ _) | (with_reducible refine Kd.C_drewN ?_ _) | (with_reducible refine Kd.C_drew ?_)));(case side4=>exact (Kd.R_reads' HO_3.out).2.1);rintro e w' ⟨rfl,⟨nd,rfl⟩⟩;have p588 : 0 ≤ (1 : Int):=(by omega);have q588 : 1 < (t581.length : Int):=zDe (by first | (with_reducible assumption) | assumption);obtain ⟨ad588,A588_2,c588_2,e588,hx588_0,hx588_1,hx588_2,hl588_2,hi588_2⟩:=at_T40 (Kd.S_reads' HO583.out).2.2 1 p588 q588;obtain rfl : ad584 = ad588:=(by injection e588);obtain ⟨ce588,hce588,hMe588,hcc588⟩:=Kd.S_get HO583.out z40 1 p588 (by first | exact q588 | exact zDe (by first | (with_reducible assumption) | assumption) | (have e_:=(Kd.S_reads' HO583.out).1;omega));obtain ⟨ve588_2,rfl,ge588_2⟩:=k40_openM hMe588;have hv588_2:=hcc588 2 _ rfl;rw [add_field _ _ 2 (by omega)] at hv588_2;replace hv588_2:=Option.some.inj (hv588_2.symm.trans hx588_2);rw [hv588_2] at ge588_2;have HL588_2:=zMk (show Kd.R k45 45 _ _ _ _ ((rd_T40 t581 1).f2) from ge588_2);clear hv588_2 ge588_2;clear hcc588 hce588;(try simp only [show (1 : Int).toNat = 1 from rfl,Nat.reduceMul,Nat.reduceEqDiff,Go.Addr.add,↓reduceIte] at hx588_0);(try simp only [show (1 : Int).toNat = 1 from rfl,Nat.reduceMul,Nat.reduceEqDiff,Go.Addr.add,↓reduceIte] at hx588_1);(try simp only [show (1 : Int).toNat = 1 from rfl,Nat.reduceMul,Nat.reduceEqDiff,Go.Addr.add,↓reduceIte] at hx588_2);have qi588 : (1 < t581.length) = True:=eq_true (by omega);(try rw [show ((1 : Int)).toNat = 1 from rfl] at hx588_0);(try rw [show 1 * 3 = 3 from rfl] at hx588_0);(try rw [show ((1 : Int)).toNat = 1 from rfl] at hx588_1);(try rw [show 1 * 3 = 3 from rfl] at hx588_1);(try rw [show ((1 : Int)).toNat = 1 from rfl] at hx588_2);(try rw [show 1 * 3 = 3 from rfl] at hx588_2);have HR588_2:=zMk hi588_2;have HC588_2:=zMk hl588_2;clear hi588_2 hl588_2;replace p588:=eq_true p588;replace q588:=eq_true q588;have ea_:=Option.some.inj (hx585_2.symm.trans hx588_2);injection ea_ with ea_ en_ ec_;subst ea_;subst ec_;clear en_) | (go_at_call 14;(with_reducible refine (laws_sameRecs.calls k2 _ _ ((rd_T40 t581 1).f2) _ _ t559 true _ ?side1 ?side2 ?side3 ?side4 A37.out).mono ?_);(case side1=>repeat (first | exact (by repeat (first | (with_reducible exact HR588_2.out) | (with_reducible refine Kd.C_alloc ?_ _) | (with_reducible refine Kd.C_drewN ?_ _) | (with_reducible refine Kd.C_drew ?_) | exact HR588_2.out)) | (with_reducible refine Kd.C_alloc ?_ _) | (with_reducible refine Kd.C_drewN ?_ _) | (with_reducible refine Kd.C_drew ?_)));(case side2=>exact HC588_2.out);(case side3=>repeat (first | exact (Kd.R_reads' HO_4.out).2.2 | (with_reducible refine Kd.C_alloc ?_ _) | (with_reducible refine Kd.C_drewN ?_ _) | (with_reducible refine Kd.C_drew ?_)));(case side4=>exact (Kd.R_reads' HO_4.out).2.1);rintro e w' ⟨rfl,⟨nd,rfl⟩⟩) | (go_at_call 16;(with_reducible refine (impl_SinceBase.calls k2 _ _ t581 t590 _ ?side1 ?side2 A39.out).mono ?_);(case side1=>repeat (first | exact (Kd.S_reads' HO583.out).2.2 | (with_reducible refine Kd.C_alloc ?_ _) | (with_reducible refine Kd.C_drewN ?_ _) | (with_reducible refine Kd.C_drew ?_)));(case side2=>exact (Kd.S_reads' HO583.out).2.1);rintro e w44 ⟨v591,rfl,ho0,hb⟩;have n0_:=zMk (Kd.R_below (rs HO_3) hb);have n1_:=zMk (Kd.R_below (rs HO_4) hb);have n2_:=zMk (Kd.R_below (rs HO_5) hb);have n3_:=zMk (Kd.R_below (rs HO_9) hb);have n4_:=zMk (Kd.S_elder' (ss HO583) (Kd.S_base ho0) hb);have n5_:=zMk (Kd.R_below (rs HL584_2) hb);have n6_:=zMk (Kd.R_below (rs HL585_2) hb);have n7_:=zMk (Kd.R_below (rs HL586_2) hb);have n8_:=zMk (Kd.R_below (rs HL588_2) hb);have n9_:=zMk (Kd.S_lower (Kd.S_new' (Kd.S_new' (Kd.S_new' (Kd.S_new' (Kd.S_new' (Kd.S_new' (Kd.S_new' ho0 (Kd.R_lt (rs HO_3))) (Kd.R_lt (rs HO_4))) (Kd.S_lt (ss HO583))) (Kd.R_lt (rs HL584_2))) (Kd.R_lt (rs HL585_2))) (Kd.R_lt (rs HL586_2))) (Kd.R_lt (rs HL588_2))) (below_size (hs HB)));have n10_:=zMk (Kd.C_below (by repeat (first | (with_reducible exact HR584_2.out) | (with_reducible refine Kd.C_alloc ?_ _) | (with_reducible refine Kd.C_drewN ?_ _) | (with_reducible refine Kd.C_drew ?_) | exact HR584_2.out)) hb);have n11_:=zMk (Kd.C_below (by repeat (first | (with_reducible exact HR585_2.out) | (with_reducible refine Kd.C_alloc ?_ _) | (with_reducible refine Kd.C_drewN ?_ _) | (with_reducible refine Kd.C_drew ?_) | exact HR585_2.out)) hb);have n12_:=zMk (Kd.C_below (by repeat (first | (with_reducible exact HR586_2.out) | (with_reducible refine Kd.C_alloc ?_ _) | (with_reducible refine Kd.C_drewN ?_ _) | (with_reducible refine Kd.C_drew ?_) | exact HR586_2.out)) hb);have n13_:=zMk (Kd.C_below (by repeat (first | (with_reducible exact HR588_2.out) | (with_reducible refine Kd.C_alloc ?_ _) | (with_reducible refine Kd.C_drewN ?_ _) | (with_reducible refine Kd.C_drew ?_) | exact HR588_2.out)) hb);have n14_:=zMk (below_step (hs HB) hb);clear HO_3;clear HO_4;clear HO_5;clear HO_9;clear HO583;clear HL584_2;clear HL585_2;clear HL586_2;clear HL588_2;clear HR584_2;clear HR585_2;clear HR586_2;clear HR588_2;clear HB;have HO_3:=n0_;have HO_4:=n1_;have HO_5:=n2_;have HO_9:=n3_;have HO583:=n4_;have HL584_2:=n5_;have HL585_2:=n6_;have HL586_2:=n7_;have HL588_2:=n8_;have HO592:=n9_;have HR584_2:=n10_;have HR585_2:=n11_;have HR586_2:=n12_;have HR588_2:=n13_;have HB:=n14_;clear n0_ n1_ n2_ n3_ n4_ n5_ n6_ n7_ n8_ n9_ n10_ n11_ n12_ n13_ n14_;(try clear hb);(try clear hb2);(try clear hk);(try clear hi);(try clear ho0);obtain ⟨Ao45,co45,eo45⟩:=Kd.S_slice HO592.out;subst eo45))
              go_ret
              exact ⟨by first | rfl | (simp [errW_none,errW_some] <;> rfl) | (simp [*,errW_none,errW_some] <;> rfl),hs HB⟩
             replace c38:=Bool.eq_false_iff.mpr c38;subst c38;have H1 : (some false) = some r:=by rw [if_neg (show ¬ (false = true) by decide)] at H;exact H
             clear H;have H:=H1;clear H1;exact absurd ((Option.some.inj H).trans hT.out) (by decide)
            replace c36:=Bool.eq_false_iff.mpr c36;subst c36;have H1 : (some false) = some r:=by rw [if_neg (show ¬ (false = true) by decide)] at H;exact H
            clear H;have H:=H1;clear H1;exact absurd ((Option.some.inj H).trans hT.out) (by decide)
           rw [if_neg c34] at H;have c34b0 : (((rd_T40 t581 1).f0) == 5) = false:=beq_eq_false_iff_ne.mpr c34;have c34b1 : (((rd_T40 t581 1).f0) != 5) = true:=bne_iff_ne.mpr c34;exact absurd ((Option.some.inj H).trans hT.out) (by decide)
          rw [if_neg c33] at H;exact absurd H (by simp)
         rw [if_neg c32] at H;have c32b0 : (((rd_T40 t581 0).f0) == 4) = false:=beq_eq_false_iff_ne.mpr c32;have c32b1 : (((rd_T40 t581 0).f0) != 4) = true:=bne_iff_ne.mpr c32;exact absurd ((Option.some.inj H).trans hT.out) (by decide)
        rw [if_neg c31] at H;exact absurd H (by simp)
       rw [if_neg c30] at H;have c30b0 : ((t581.length : Int) == 2) = false:=beq_eq_false_iff_ne.mpr c30;have c30b1 : ((t581.length : Int) != 2) = true:=bne_iff_ne.mpr c30;exact absurd ((Option.some.inj H).trans hT.out) (by decide)
      replace c29:=Bool.eq_false_iff.mpr c29;subst c29;have H1 : (some false) = some r:=by rw [if_neg (show ¬ (false = true) by decide)] at H;exact H
      clear H;have H:=H1;clear H1;exact absurd ((Option.some.inj H).trans hT.out) (by decide)
     replace c28:=Bool.eq_false_iff.mpr c28;subst c28;have H1 : (some false) = some r:=by rw [if_neg (show ¬ (false = true) by decide)] at H;exact H
     clear H;have H:=H1;clear H1;exact absurd ((Option.some.inj H).trans hT.out) (by decide)
def laws_FnTwoTx.Pure : Prop:=∀ (l0 : List Int),l0.length ≤ maxLen → l0.length * 1 ≤ 140737488351232 → (∀ x ∈ l0,(Lit.int .u8 x).wf = true) → ∃ k,laws_FnTwoTx.f k l0 = some true
theorem laws_FnTwoTx.walk (P : laws_FnTwoTx.Pure) (a0 : Option Addr) (len0 cap0 : Nat) (z0 : List Int) (w : World) (w0 : (a0 = none ∧ len0 = 0 ∧ cap0 = 0 ∧ z0 = []) ∨ ∃ x,a0 = some x ∧ len0 ≤ cap0 ∧ cap0 ≤ maxLen ∧ z0.length = cap0 ∧ (∀ i,i < z0.length → w.cell? (x.add i) = some (.int .u8 (z0.getD i 0))) ∧ ∀ n ∈ z0,(Lit.int .u8 n).wf = true) (y0 : len0 * 1 ≤ 140737488351232) :
  Calls Try.prog 4 #[.slice a0 len0 cap0] w fun e w'=>e = .returned (.bool true) ∧ Below w.heap.size w w':=by
 obtain ⟨l0,rfl,hr0,hm0,hw0,hc0⟩:=ReadsInt.ofRowC w0;obtain ⟨k,h⟩:=P l0 hm0 y0 hw0;refine (laws_FnTwoTx.calls k _ _ l0 true ⟨rfl⟩ w (Kd.C_of_reads (d:=(0 : Int)) (h1:=fun _=>rfl) hr0) hc0 h).mono ?_;rintro e w' ⟨rfl,hd⟩;exact ⟨rfl,hd⟩
end Go.Proofs.Ytodokejcmbjpbaa.PK
