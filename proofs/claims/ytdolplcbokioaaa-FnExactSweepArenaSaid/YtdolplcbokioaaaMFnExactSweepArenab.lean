/- FnExactSweepArena: functions of the translation as Lean functions with what their calls come to, plain lemmas on them, and, at the end, the row. Parts of one proof, merged by a program of this session; each part's own sentence stands at its head. -/
import Derived.Test.YtdolplcbokioaaaMFnExactSweepArenaa
namespace Go.Proofs.Ytdolplcbokioaaa.PB
open Go.RowKit Go.Proofs.YtdolplcbokioaaaW.PrintWords Go.Proofs.YtdolplcbokioaaaW.PrintLast Go.Proofs.YtdolplcbokioaaaW.PrintMore
attribute [local go_sem] max2_int min2_int max_two min_two max_three min_three max_four min_four   -- for this text's walks alone
set_option linter.unusedVariables false
set_option linter.unusedSimpArgs false
mutual
def spec_SweepArena.j1 : Nat → List Int → List Int → Bool → List (S133) → Option ((List (S133)) × List Int)
 | 0,_,_,_,_=>none
 | k + 1,x1,x6,x7,x1572000=>if x7 = true then (if 0 ≤ (x1572000.length : Int) then (if ((x1572000.length : Int) : Int).toNat ≤ 281474976710656 then (spec_SweepArena.l1 k x1 x6 (List.replicate ((x1572000.length : Int) : Int).toNat false) 0 x1572000) else (none)) else (none)) else ((spec_l11Copy.f k x1572000).bind fun t1582=>(some (t1582,x6)))
def spec_SweepArena.l1 : Nat → List Int → List Int → List Bool → Int → List (S133) → Option ((List (S133)) × List Int)
 | 0,_,_,_,_,_=>none
 | k + 1,x1,x6,x9,x10,x1572000=>if x10 < (x1.length : Int) then (if 0 ≤ x10 then ((spec_l11Has.f k x1572000 (rd x1 x10)).bind fun t1589=>(spec_SweepArena.l2 k x1 x6 x9 x10 t1589 0 x1572000)) else (none)) else (if 0 ≤ (x1572000.length : Int) then (if ((x1572000.length : Int) : Int).toNat ≤ 35184372088832 then (spec_SweepArena.l3 k x6 x9 (List.replicate ((x1572000.length : Int) : Int).toNat 0) 0 x1572000 ([] : List (S133))) else (none)) else (none))
def spec_SweepArena.l2 : Nat → List Int → List Int → List Bool → Int → List Bool → Int → List (S133) → Option ((List (S133)) × List Int)
 | 0,_,_,_,_,_,_,_=>none
 | k + 1,x1,x6,x9,x10,x11,x12,x1572000=>if x12 < (x11.length : Int) then (if 0 ≤ x12 then (if x12 < (x9.length : Int) then (if rdOf false x9 x12 = true then (spec_SweepArena.l2 k x1 x6 (x9.set (x12 : Int).toNat true) x10 x11 (wrap64 (x12 + 1)) x1572000) else (spec_SweepArena.l2 k x1 x6 (x9.set (x12 : Int).toNat (rdOf false x11 x12)) x10 x11 (wrap64 (x12 + 1)) x1572000)) else (none)) else (none)) else (spec_SweepArena.l1 k x1 x6 x9 (wrap64 (x10 + 1)) x1572000)
def spec_SweepArena.l3 : Nat → List Int → List Bool → List Int → Int → List (S133) → List (S133) → Option ((List (S133)) × List Int)
 | 0,_,_,_,_,_,_=>none
 | k + 1,x6,x9,x13,x15,x1572000,x1600000=>if x15 < (x1572000.length : Int) then (if 0 ≤ x15 then (if x15 < (x9.length : Int) then (if rdOf false x9 x15 = true then ((some (([] : List Int) : List Int)).bind fun y1602=>(if y1602.length + ((rd_T133 x1572000 x15).f1).length < 17592186044416 then (spec_SweepArena.l4 k x6 x9 x13 x15 0 x1572000 x1600000 ((rd_T133 x1572000 x15).f0) (y1602 ++ ((rd_T133 x1572000 x15).f1))) else (none))) else (spec_SweepArena.l3 k x6 x9 x13 (wrap64 (x15 + 1)) x1572000 x1600000)) else (none)) else (none)) else (spec_SweepArena.l5 k x6 x13 0 x1600000)
def spec_SweepArena.l4 : Nat → List Int → List Bool → List Int → Int → Int → List (S133) → List (S133) → Bool → List Int → Option ((List (S133)) × List Int)
 | 0,_,_,_,_,_,_,_,_,_=>none
 | k + 1,x6,x9,x13,x15,x17,x1572000,x1600000,x1610000,x1610001=>if x17 < 4 then (spec_SweepArena.j6 k x6 x9 x13 x15 x17 (!x1610000) x1572000 x1600000 x1610000 x1610001) else (spec_SweepArena.j6 k x6 x9 x13 x15 x17 false x1572000 x1600000 x1610000 x1610001)
def spec_SweepArena.j6 : Nat → List Int → List Bool → List Int → Int → Int → Bool → List (S133) → List (S133) → Bool → List Int → Option ((List (S133)) × List Int)
 | 0,_,_,_,_,_,_,_,_,_,_=>none
 | k + 1,x6,x9,x13,x15,x17,x117,x1572000,x1600000,x1610000,x1610001=>if x117 = true then (if 0 ≤ x17 then (if x17 < (x1610001.length : Int) then (if (rd x1610001 x17) ≥ 0 then (if 0 ≤ (rd x1610001 x17) then (if (rd x1610001 x17) < (x13.length : Int) then (spec_SweepArena.l4 k x6 x9 x13 x15 (wrap64 (x17 + 1)) x1572000 x1600000 x1610000 (x1610001.set (x17 : Int).toNat (rd x13 (rd x1610001 x17)))) else (none)) else (none)) else (spec_SweepArena.l4 k x6 x9 x13 x15 (wrap64 (x17 + 1)) x1572000 x1600000 x1610000 x1610001)) else (none)) else (none)) else (if 0 ≤ x15 then (if x15 < (x13.length : Int) then (if x1600000.length < 4398046511104 then (spec_SweepArena.l3 k x6 x9 (x13.set (x15 : Int).toNat (x1600000.length : Int)) (wrap64 (x15 + 1)) x1572000 (x1600000 ++ [(⟨x1610000,x1610001⟩ : S133)])) else (none)) else (none)) else (none))
def spec_SweepArena.l5 : Nat → List Int → List Int → Int → List (S133) → Option ((List (S133)) × List Int)
 | 0,_,_,_,_=>none
 | k + 1,x6,x13,x18,x1600000=>if x18 < (x6.length : Int) then (if 0 ≤ x18 then (if (rd x6 x18) ≥ 0 then (if 0 ≤ (rd x6 x18) then (if (rd x6 x18) < (x13.length : Int) then (spec_SweepArena.l5 k (x6.set (x18 : Int).toNat (rd x13 (rd x6 x18))) x13 (wrap64 (x18 + 1)) x1600000) else (none)) else (none)) else (spec_SweepArena.l5 k x6 x13 (wrap64 (x18 + 1)) x1600000)) else (none)) else (some (x1600000,x6))
def spec_SweepArena.l0 : Nat → List Int → List Int → Bool → Int → List (S133) → Option ((List (S133)) × List Int)
 | 0,_,_,_,_,_=>none
 | k + 1,x1,x6,x7,x8,x1572000=>if x8 < (x1.length : Int) then (if x7 = true then (if 0 ≤ x8 then ((spec_l11Root.f x1572000 (rd x1 x8)).bind fun t1581=>(spec_SweepArena.l0 k x1 x6 t1581 (wrap64 (x8 + 1)) x1572000)) else (none)) else (spec_SweepArena.j1 k x1 x6 x7 x1572000)) else (spec_SweepArena.j1 k x1 x6 x7 x1572000)
end
def spec_SweepArena.f (k : Nat) (l0_0 : List (S133)) (l1 : List Int) : Option ((List (S133)) × List Int):=(some (([] : List Int) : List Int)).bind fun y1573=>(if y1573.length + l1.length < 17592186044416 then ((spec_ArenaOk.f k l0_0).bind fun t1579=>(spec_SweepArena.l0 k l1 (y1573 ++ l1) t1579 0 l0_0)) else (none))
theorem spec_SweepArena.mono_l : ∀ k,(∀ y0 y1 y2 y3,LeO (spec_SweepArena.j1 k y0 y1 y2 y3) (spec_SweepArena.j1 (k + 1) y0 y1 y2 y3)) ∧ (∀ y0 y1 y2 y3 y4,LeO (spec_SweepArena.l1 k y0 y1 y2 y3 y4) (spec_SweepArena.l1 (k + 1) y0 y1 y2 y3 y4)) ∧ (∀ y0 y1 y2 y3 y4 y5 y6,LeO (spec_SweepArena.l2 k y0 y1 y2 y3 y4 y5 y6) (spec_SweepArena.l2 (k + 1) y0 y1 y2 y3 y4 y5 y6)) ∧ (∀ y0 y1 y2 y3 y4 y5,LeO (spec_SweepArena.l3 k y0 y1 y2 y3 y4 y5) (spec_SweepArena.l3 (k + 1) y0 y1 y2 y3 y4 y5)) ∧ (∀ y0 y1 y2 y3 y4 y5 y6 y7 y8,LeO (spec_SweepArena.l4 k y0 y1 y2 y3 y4 y5 y6 y7 y8) (spec_SweepArena.l4 (k + 1) y0 y1 y2 y3 y4 y5 y6 y7 y8)) ∧ (∀ y0 y1 y2 y3 y4 y5 y6 y7 y8 y9,LeO (spec_SweepArena.j6 k y0 y1 y2 y3 y4 y5 y6 y7 y8 y9) (spec_SweepArena.j6 (k + 1) y0 y1 y2 y3 y4 y5 y6 y7 y8 y9)) ∧ (∀ y0 y1 y2 y3,LeO (spec_SweepArena.l5 k y0 y1 y2 y3) (spec_SweepArena.l5 (k + 1) y0 y1 y2 y3)) ∧ (∀ y0 y1 y2 y3 y4,LeO (spec_SweepArena.l0 k y0 y1 y2 y3 y4) (spec_SweepArena.l0 (k + 1) y0 y1 y2 y3 y4))
 | 0=>⟨fun _ _ _ _ r h=>by simp [spec_SweepArena.j1] at h,fun _ _ _ _ _ r h=>by simp [spec_SweepArena.l1] at h,fun _ _ _ _ _ _ _ r h=>by simp [spec_SweepArena.l2] at h,fun _ _ _ _ _ _ r h=>by simp [spec_SweepArena.l3] at h,fun _ _ _ _ _ _ _ _ _ r h=>by simp [spec_SweepArena.l4] at h,fun _ _ _ _ _ _ _ _ _ _ r h=>by simp [spec_SweepArena.j6] at h,fun _ _ _ _ r h=>by simp [spec_SweepArena.l5] at h,fun _ _ _ _ _ r h=>by simp [spec_SweepArena.l0] at h⟩
 | k + 1=>by
  obtain ⟨ih0,ih1,ih2,ih3,ih4,ih5,ih6,ih7⟩:=spec_SweepArena.mono_l k;refine ⟨?_,?_,?_,?_,?_,?_,?_,?_⟩
  ·intro y0 y1 y2 y3;unfold spec_SweepArena.j1
   repeat' first
   | (with_reducible exact ih0 _ _ _ _)
   | (with_reducible exact ih1 _ _ _ _ _)
   | (with_reducible exact ih2 _ _ _ _ _ _ _)
   | (with_reducible exact ih3 _ _ _ _ _ _)
   | (with_reducible exact ih4 _ _ _ _ _ _ _ _ _)
   | (with_reducible exact ih5 _ _ _ _ _ _ _ _ _ _)
   | (with_reducible exact ih6 _ _ _ _)
   | (with_reducible exact ih7 _ _ _ _ _)
   | (with_reducible exact spec_ArenaOk.mono _ _)
   | (with_reducible exact spec_l11Copy.mono _ _)
   | (with_reducible exact spec_l11Has.mono _ _ _)
   | (with_reducible exact LeO.refl _)
   | (with_reducible exact LeO.none _)
   | (with_reducible refine LeO.ite ?_ ?_)
   | (with_reducible refine LeO.bind ?_ (fun _=>?_))
   | exact ih0 _ _ _ _
   | exact ih1 _ _ _ _ _
   | exact ih2 _ _ _ _ _ _ _
   | exact ih3 _ _ _ _ _ _
   | exact ih4 _ _ _ _ _ _ _ _ _
   | exact ih5 _ _ _ _ _ _ _ _ _ _
   | exact ih6 _ _ _ _
   | exact ih7 _ _ _ _ _
   | exact spec_ArenaOk.mono _ _
   | exact spec_l11Copy.mono _ _
   | exact spec_l11Has.mono _ _ _
   | exact LeO.none _
   | refine LeO.ite ?_ ?_
   | refine LeO.bind ?_ (fun _=>?_)
  ·intro y0 y1 y2 y3 y4;unfold spec_SweepArena.l1
   repeat' first
   | (with_reducible exact ih0 _ _ _ _)
   | (with_reducible exact ih1 _ _ _ _ _)
   | (with_reducible exact ih2 _ _ _ _ _ _ _)
   | (with_reducible exact ih3 _ _ _ _ _ _)
   | (with_reducible exact ih4 _ _ _ _ _ _ _ _ _)
   | (with_reducible exact ih5 _ _ _ _ _ _ _ _ _ _)
   | (with_reducible exact ih6 _ _ _ _)
   | (with_reducible exact ih7 _ _ _ _ _)
   | (with_reducible exact spec_ArenaOk.mono _ _)
   | (with_reducible exact spec_l11Copy.mono _ _)
   | (with_reducible exact spec_l11Has.mono _ _ _)
   | (with_reducible exact LeO.refl _)
   | (with_reducible exact LeO.none _)
   | (with_reducible refine LeO.ite ?_ ?_)
   | (with_reducible refine LeO.bind ?_ (fun _=>?_))
   | exact ih0 _ _ _ _
   | exact ih1 _ _ _ _ _
   | exact ih2 _ _ _ _ _ _ _
   | exact ih3 _ _ _ _ _ _
   | exact ih4 _ _ _ _ _ _ _ _ _
   | exact ih5 _ _ _ _ _ _ _ _ _ _
   | exact ih6 _ _ _ _
   | exact ih7 _ _ _ _ _
   | exact spec_ArenaOk.mono _ _
   | exact spec_l11Copy.mono _ _
   | exact spec_l11Has.mono _ _ _
   | exact LeO.none _
   | refine LeO.ite ?_ ?_
   | refine LeO.bind ?_ (fun _=>?_)
  ·intro y0 y1 y2 y3 y4 y5 y6;unfold spec_SweepArena.l2
   repeat' first
   | (with_reducible exact ih0 _ _ _ _)
   | (with_reducible exact ih1 _ _ _ _ _)
   | (with_reducible exact ih2 _ _ _ _ _ _ _)
   | (with_reducible exact ih3 _ _ _ _ _ _)
   | (with_reducible exact ih4 _ _ _ _ _ _ _ _ _)
   | (with_reducible exact ih5 _ _ _ _ _ _ _ _ _ _)
   | (with_reducible exact ih6 _ _ _ _)
   | (with_reducible exact ih7 _ _ _ _ _)
   | (with_reducible exact spec_ArenaOk.mono _ _)
   | (with_reducible exact spec_l11Copy.mono _ _)
   | (with_reducible exact spec_l11Has.mono _ _ _)
   | (with_reducible exact LeO.refl _)
   | (with_reducible exact LeO.none _)
   | (with_reducible refine LeO.ite ?_ ?_)
   | (with_reducible refine LeO.bind ?_ (fun _=>?_))
   | exact ih0 _ _ _ _
   | exact ih1 _ _ _ _ _
   | exact ih2 _ _ _ _ _ _ _
   | exact ih3 _ _ _ _ _ _
   | exact ih4 _ _ _ _ _ _ _ _ _
   | exact ih5 _ _ _ _ _ _ _ _ _ _
   | exact ih6 _ _ _ _
   | exact ih7 _ _ _ _ _
   | exact spec_ArenaOk.mono _ _
   | exact spec_l11Copy.mono _ _
   | exact spec_l11Has.mono _ _ _
   | exact LeO.none _
   | refine LeO.ite ?_ ?_
   | refine LeO.bind ?_ (fun _=>?_)
  ·intro y0 y1 y2 y3 y4 y5;unfold spec_SweepArena.l3
   repeat' first
   | (with_reducible exact ih0 _ _ _ _)
   | (with_reducible exact ih1 _ _ _ _ _)
   | (with_reducible exact ih2 _ _ _ _ _ _ _)
   | (with_reducible exact ih3 _ _ _ _ _ _)
   | (with_reducible exact ih4 _ _ _ _ _ _ _ _ _)
   | (with_reducible exact ih5 _ _ _ _ _ _ _ _ _ _)
   | (with_reducible exact ih6 _ _ _ _)
   | (with_reducible exact ih7 _ _ _ _ _)
   | (with_reducible exact spec_ArenaOk.mono _ _)
   | (with_reducible exact spec_l11Copy.mono _ _)
   | (with_reducible exact spec_l11Has.mono _ _ _)
   | (with_reducible exact LeO.refl _)
   | (with_reducible exact LeO.none _)
   | (with_reducible refine LeO.ite ?_ ?_)
   | (with_reducible refine LeO.bind ?_ (fun _=>?_))
   | exact ih0 _ _ _ _
   | exact ih1 _ _ _ _ _
   | exact ih2 _ _ _ _ _ _ _
   | exact ih3 _ _ _ _ _ _
   | exact ih4 _ _ _ _ _ _ _ _ _
   | exact ih5 _ _ _ _ _ _ _ _ _ _
   | exact ih6 _ _ _ _
   | exact ih7 _ _ _ _ _
   | exact spec_ArenaOk.mono _ _
   | exact spec_l11Copy.mono _ _
   | exact spec_l11Has.mono _ _ _
   | exact LeO.none _
   | refine LeO.ite ?_ ?_
   | refine LeO.bind ?_ (fun _=>?_)
  ·intro y0 y1 y2 y3 y4 y5 y6 y7 y8;unfold spec_SweepArena.l4
   repeat' first
   | (with_reducible exact ih0 _ _ _ _)
   | (with_reducible exact ih1 _ _ _ _ _)
   | (with_reducible exact ih2 _ _ _ _ _ _ _)
   | (with_reducible exact ih3 _ _ _ _ _ _)
   | (with_reducible exact ih4 _ _ _ _ _ _ _ _ _)
   | (with_reducible exact ih5 _ _ _ _ _ _ _ _ _ _)
   | (with_reducible exact ih6 _ _ _ _)
   | (with_reducible exact ih7 _ _ _ _ _)
   | (with_reducible exact spec_ArenaOk.mono _ _)
   | (with_reducible exact spec_l11Copy.mono _ _)
   | (with_reducible exact spec_l11Has.mono _ _ _)
   | (with_reducible exact LeO.refl _)
   | (with_reducible exact LeO.none _)
   | (with_reducible refine LeO.ite ?_ ?_)
   | (with_reducible refine LeO.bind ?_ (fun _=>?_))
   | exact ih0 _ _ _ _
   | exact ih1 _ _ _ _ _
   | exact ih2 _ _ _ _ _ _ _
   | exact ih3 _ _ _ _ _ _
   | exact ih4 _ _ _ _ _ _ _ _ _
   | exact ih5 _ _ _ _ _ _ _ _ _ _
   | exact ih6 _ _ _ _
   | exact ih7 _ _ _ _ _
   | exact spec_ArenaOk.mono _ _
   | exact spec_l11Copy.mono _ _
   | exact spec_l11Has.mono _ _ _
   | exact LeO.none _
   | refine LeO.ite ?_ ?_
   | refine LeO.bind ?_ (fun _=>?_)
  ·intro y0 y1 y2 y3 y4 y5 y6 y7 y8 y9;unfold spec_SweepArena.j6
   repeat' first
   | (with_reducible exact ih0 _ _ _ _)
   | (with_reducible exact ih1 _ _ _ _ _)
   | (with_reducible exact ih2 _ _ _ _ _ _ _)
   | (with_reducible exact ih3 _ _ _ _ _ _)
   | (with_reducible exact ih4 _ _ _ _ _ _ _ _ _)
   | (with_reducible exact ih5 _ _ _ _ _ _ _ _ _ _)
   | (with_reducible exact ih6 _ _ _ _)
   | (with_reducible exact ih7 _ _ _ _ _)
   | (with_reducible exact spec_ArenaOk.mono _ _)
   | (with_reducible exact spec_l11Copy.mono _ _)
   | (with_reducible exact spec_l11Has.mono _ _ _)
   | (with_reducible exact LeO.refl _)
   | (with_reducible exact LeO.none _)
   | (with_reducible refine LeO.ite ?_ ?_)
   | (with_reducible refine LeO.bind ?_ (fun _=>?_))
   | exact ih0 _ _ _ _
   | exact ih1 _ _ _ _ _
   | exact ih2 _ _ _ _ _ _ _
   | exact ih3 _ _ _ _ _ _
   | exact ih4 _ _ _ _ _ _ _ _ _
   | exact ih5 _ _ _ _ _ _ _ _ _ _
   | exact ih6 _ _ _ _
   | exact ih7 _ _ _ _ _
   | exact spec_ArenaOk.mono _ _
   | exact spec_l11Copy.mono _ _
   | exact spec_l11Has.mono _ _ _
   | exact LeO.none _
   | refine LeO.ite ?_ ?_
   | refine LeO.bind ?_ (fun _=>?_)
  ·intro y0 y1 y2 y3;unfold spec_SweepArena.l5
   repeat' first
   | (with_reducible exact ih0 _ _ _ _)
   | (with_reducible exact ih1 _ _ _ _ _)
   | (with_reducible exact ih2 _ _ _ _ _ _ _)
   | (with_reducible exact ih3 _ _ _ _ _ _)
   | (with_reducible exact ih4 _ _ _ _ _ _ _ _ _)
   | (with_reducible exact ih5 _ _ _ _ _ _ _ _ _ _)
   | (with_reducible exact ih6 _ _ _ _)
   | (with_reducible exact ih7 _ _ _ _ _)
   | (with_reducible exact spec_ArenaOk.mono _ _)
   | (with_reducible exact spec_l11Copy.mono _ _)
   | (with_reducible exact spec_l11Has.mono _ _ _)
   | (with_reducible exact LeO.refl _)
   | (with_reducible exact LeO.none _)
   | (with_reducible refine LeO.ite ?_ ?_)
   | (with_reducible refine LeO.bind ?_ (fun _=>?_))
   | exact ih0 _ _ _ _
   | exact ih1 _ _ _ _ _
   | exact ih2 _ _ _ _ _ _ _
   | exact ih3 _ _ _ _ _ _
   | exact ih4 _ _ _ _ _ _ _ _ _
   | exact ih5 _ _ _ _ _ _ _ _ _ _
   | exact ih6 _ _ _ _
   | exact ih7 _ _ _ _ _
   | exact spec_ArenaOk.mono _ _
   | exact spec_l11Copy.mono _ _
   | exact spec_l11Has.mono _ _ _
   | exact LeO.none _
   | refine LeO.ite ?_ ?_
   | refine LeO.bind ?_ (fun _=>?_)
  intro y0 y1 y2 y3 y4;unfold spec_SweepArena.l0
  repeat' first
  | (with_reducible exact ih0 _ _ _ _)
  | (with_reducible exact ih1 _ _ _ _ _)
  | (with_reducible exact ih2 _ _ _ _ _ _ _)
  | (with_reducible exact ih3 _ _ _ _ _ _)
  | (with_reducible exact ih4 _ _ _ _ _ _ _ _ _)
  | (with_reducible exact ih5 _ _ _ _ _ _ _ _ _ _)
  | (with_reducible exact ih6 _ _ _ _)
  | (with_reducible exact ih7 _ _ _ _ _)
  | (with_reducible exact spec_ArenaOk.mono _ _)
  | (with_reducible exact spec_l11Copy.mono _ _)
  | (with_reducible exact spec_l11Has.mono _ _ _)
  | (with_reducible exact LeO.refl _)
  | (with_reducible exact LeO.none _)
  | (with_reducible refine LeO.ite ?_ ?_)
  | (with_reducible refine LeO.bind ?_ (fun _=>?_))
  | exact ih0 _ _ _ _
  | exact ih1 _ _ _ _ _
  | exact ih2 _ _ _ _ _ _ _
  | exact ih3 _ _ _ _ _ _
  | exact ih4 _ _ _ _ _ _ _ _ _
  | exact ih5 _ _ _ _ _ _ _ _ _ _
  | exact ih6 _ _ _ _
  | exact ih7 _ _ _ _ _
  | exact spec_ArenaOk.mono _ _
  | exact spec_l11Copy.mono _ _
  | exact spec_l11Has.mono _ _ _
  | exact LeO.none _
  | refine LeO.ite ?_ ?_
  | refine LeO.bind ?_ (fun _=>?_)
theorem spec_SweepArena.mono : ∀ a0 a1 k,LeO (spec_SweepArena.f k a0 a1) (spec_SweepArena.f (k + 1) a0 a1):=by
 intro a0 a1 k;obtain ⟨ih0,ih1,ih2,ih3,ih4,ih5,ih6,ih7⟩:=spec_SweepArena.mono_l k;unfold spec_SweepArena.f
 repeat' first
   | (with_reducible exact ih0 _ _ _ _)
   | (with_reducible exact ih1 _ _ _ _ _)
   | (with_reducible exact ih2 _ _ _ _ _ _ _)
   | (with_reducible exact ih3 _ _ _ _ _ _)
   | (with_reducible exact ih4 _ _ _ _ _ _ _ _ _)
   | (with_reducible exact ih5 _ _ _ _ _ _ _ _ _ _)
   | (with_reducible exact ih6 _ _ _ _)
   | (with_reducible exact ih7 _ _ _ _ _)
   | (with_reducible exact spec_ArenaOk.mono _ _)
   | (with_reducible exact spec_l11Copy.mono _ _)
   | (with_reducible exact spec_l11Has.mono _ _ _)
   | (with_reducible exact LeO.refl _)
   | (with_reducible exact LeO.none _)
   | (with_reducible refine LeO.ite ?_ ?_)
   | (with_reducible refine LeO.bind ?_ (fun _=>?_))
   | exact ih0 _ _ _ _
   | exact ih1 _ _ _ _ _
   | exact ih2 _ _ _ _ _ _ _
   | exact ih3 _ _ _ _ _ _
   | exact ih4 _ _ _ _ _ _ _ _ _
   | exact ih5 _ _ _ _ _ _ _ _ _ _
   | exact ih6 _ _ _ _
   | exact ih7 _ _ _ _ _
   | exact spec_ArenaOk.mono _ _
   | exact spec_l11Copy.mono _ _
   | exact spec_l11Has.mono _ _ _
   | exact LeO.none _
   | refine LeO.ite ?_ ?_
   | refine LeO.bind ?_ (fun _=>?_)
def spec_SweepArena.T24 : Bool × List (List Nat × List Nat):=(true,[([],[]),([0],[0]),([],[]),([1,2],[1,2]),([3],[3]),([4],[4]),([],[]),([],[]),([7],[7]),([],[]),([8,9],[8,9]),([10],[10]),([11],[11]),([6,12],[6,12]),([5,13],[5,13]),([],[]),([15,14,13,0,1,2,3,4,5,6,7,8,9,10,11,12,13,14,15],[14,15])])
def spec_SweepArena.B24 : List Nat:=[0,1,0,7,15,31,0,0,128,0,896,1920,3968,8128,16383,0,65535]
theorem spec_SweepArena.tab24 : rtab .any (opsOf Try.f72 24) = spec_SweepArena.T24:=by kernel_rfl
theorem spec_SweepArena.bits24 : waitsOk spec_SweepArena.T24.2 spec_SweepArena.B24 = true:=by kernel_rfl
def spec_SweepArena.T29 : Bool × List (List Nat × List Nat):=(true,[([],[]),([0],[0]),([],[]),([],[]),([],[]),([4],[4]),([],[]),([5,6],[5,6]),([7],[7]),([3,8],[3,8]),([9],[9]),([1,2,0,1,2,3,4,5,6,7,8,9,10],[1,2]),([11,10,0,1,2,3,4,5,6,7,8,9,10],[10,11])])
def spec_SweepArena.B29 : List Nat:=[0,1,0,0,0,16,0,112,240,504,1016,2047,4095]
theorem spec_SweepArena.tab29 : rtab .any (opsOf Try.f72 29) = spec_SweepArena.T29:=by kernel_rfl
theorem spec_SweepArena.bits29 : waitsOk spec_SweepArena.T29.2 spec_SweepArena.B29 = true:=by kernel_rfl
set_option maxHeartbeats 8000000 in
set_option maxRecDepth 100000 in
theorem spec_SweepArena.calls (k : Nat) (A0_0 : Option Addr) (c0_0 : Nat) (l0_0 : List (S133)) (A1 : Option Addr) (c1 : Nat) (l1 : List Int) (r1 : List (S133)) (r2 : List Int) (w : World) (hr0_0 : Kd.C k133 w A0_0 l0_0.length l0_0) (hc0_0 : l0_0.length ≤ c0_0) (hr1 : Kd.C (Kd.int .i64) w A1 l1.length l1) (hc1 : l1.length ≤ c1) (h : spec_SweepArena.f k l0_0 l1 = some (r1,r2)) :
  Calls Try.prog 72 #[.agg #[.slice A0_0 l0_0.length c0_0],.slice A1 l1.length c1] w fun e w'=>∃ v0_ v1_ : Value,e = .returned (.tuple #[.agg #[v0_],v1_]) ∧ Kd.S k133 133 w' w.heap.size (fun k_=>some k_ ≠ (v1_ : Value).ownBlock) v0_ r1 ∧ Kd.R (Kd.int .i64) 3 w' w.heap.size (fun _=>True) v1_ r2 ∧ Below w.heap.size w w':=by
 have hu44:=Try.underlying44;have hu133:=Try.underlying133;have HR0_0:=Aside0.mk hr0_0;have HC0_0:=Aside0.mk hc0_0;clear hr0_0 hc0_0;have HR1:=Aside0.mk hr1;have HC1:=Aside0.mk hc1;clear hr1 hc1;have HB:=Aside0.mk (Below.refl w.heap.size w);have H : ((some (([] : List Int) : List Int)).bind fun y1573=>(if y1573.length + l1.length < 17592186044416 then ((spec_ArenaOk.f k l0_0).bind fun t1579=>(spec_SweepArena.l0 k l1 (y1573 ++ l1) t1579 0 l0_0)) else (none))) = some (r1,r2):=h;clear h;obtain ⟨y1573,hy1573⟩ : ∃ y_ : List Int,y_ = (([] : List Int)):=⟨_,rfl⟩;replace H : (if y1573.length + l1.length < 17592186044416 then ((spec_ArenaOk.f k l0_0).bind fun t1579=>(spec_SweepArena.l0 k l1 (y1573 ++ l1) t1579 0 l0_0)) else (none)) = some (r1,r2):=by first | (rw [hy1573];with_reducible exact H) | (have H2_:=(Option.bind_some _ _).symm.trans H;rw [hy1573];with_reducible exact H2_) | (have H2_:=(Option.bind_some _ _).symm.trans H;with_reducible exact H2_) | with_reducible exact H | (rw [hy1573];exact H) | exact H
 have Ny1573:=Aside0.mk hy1573;clear hy1573
 by_cases c3 : y1573.length + l1.length < 17592186044416
 ·rw [if_pos c3] at H;have LMc3:=Aside0.mk c3;clear c3;obtain ⟨y1576,hy1576⟩ : ∃ y_ : List Int,y_ = (y1573 ++ l1):=⟨_,rfl⟩;replace H : ((spec_ArenaOk.f k l0_0).bind fun t1579=>(spec_SweepArena.l0 k l1 y1576 t1579 0 l0_0)) = some (r1,r2):=by first | (rw [hy1576];with_reducible exact H) | (have H2_:=(Option.bind_some _ _).symm.trans H;rw [hy1576];with_reducible exact H2_) | (have H2_:=(Option.bind_some _ _).symm.trans H;with_reducible exact H2_) | with_reducible exact H | (rw [hy1576];exact H) | exact H
  have Ny1576:=Aside0.mk hy1576;clear hy1576;replace H:=Option.bind_eq_some_iff.mp H;obtain ⟨t1579,A40,H⟩:=H;replace H : (spec_SweepArena.l0 k l1 y1576 t1579 0 l0_0) = some (r1,r2):=H;have A4:=Aside0.mk A40;clear A40;have HC5:=Aside0.mk H;clear H
  go_enter Try.func72,Try.ntmps72
  go_upto_block 0 with (first | ((with_reducible refine gate_dst (N:=2) rfl ?_);refine box_event ?hg (N:=2) ?hd (cs:=#[.slice A0_0 l0_0.length c0_0]) (t:=44) ?hr ?_;(case hd=>rfl);(case hg=>rfl);(case hr=>first | (go_simp;done) | (go_simp;rfl));intro gb1571 hg w6 hbox hb;have n0_:=Aside0.mk (below_step (hs HB) hb);have n1_:=Aside0.mk (hbox);have n2_:=Aside0.mk ((by rw [hg];exact (below_size (hs HB)) : w.heap.size ≤ gb1571));have n3_:=Aside0.mk ((by rw [hg];exact (below_size (hs HB)) : w.heap.size ≤ gb1571));clear HB;have HB:=n0_;have BK1571:=n1_;have GW1571:=n2_;have GE1571:=n3_;clear n0_ n1_ n2_ n3_;clear hb hbox hg) | ((with_reducible refine gate_dst (N:=4) rfl ?_);refine box_event ?hg (N:=4) ?hd (cs:=#[.slice none 0 0]) (t:=44) ?hr ?_;(case hd=>rfl);(case hg=>rfl);(case hr=>first | (go_simp;done) | (go_simp;rfl));intro gb1572 hg w7 hbox hb;have n0_:=Aside0.mk (blk_below (g:=gb1571) (o:=.cells #[.slice A0_0 l0_0.length c0_0] 44 (0,0)) (bs BK1571) hb);have n1_:=Aside0.mk (below_step (hs1 HB GE1571) hb);have n2_:=Aside0.mk (hbox);have n3_:=Aside0.mk ((by rw [hg];exact (below_size (hs1 HB GE1571)) : w.heap.size ≤ gb1572));have n4_:=Aside0.mk ((by rw [hg];exact (below_size (hs1 HB GE1571)) : w.heap.size ≤ gb1572));have n5_:=Aside0.mk ((by rw [hg];exact Nat.ne_of_lt (blk_lt (g:=gb1571) (o:=.cells #[.slice A0_0 l0_0.length c0_0] 44 (0,0)) (bs BK1571)) : gb1571 ≠ gb1572));have n6_:=Aside0.mk ((by rw [hg];exact Nat.ne_of_gt (blk_lt (g:=gb1571) (o:=.cells #[.slice A0_0 l0_0.length c0_0] 44 (0,0)) (bs BK1571)) : gb1572 ≠ gb1571));clear BK1571;clear HB;have BK1571:=n0_;have HB:=n1_;have BK1572:=n2_;have GW1572:=n3_;have GE1572:=n4_;have NB1571_1572:=n5_;have NB1572_1571:=n6_;clear n0_ n1_ n2_ n3_ n4_ n5_ n6_;clear hb hbox hg) | ((with_reducible refine gate_dst (N:=19) rfl ?_);refine Kd.R_lit (Kd.int .i64) _ 3 ?hg (N:=19) ?hd (xs:=([] : List Int)) (inner:=[]) (ok:=fun _=>True) (okp:=fun _=>True) ?hr ?hp (fun _ hk=>hk) trivial (Below.refl _ _) (Nat.le_refl _) (by simp) ?_;(case hd=>rfl);(case hg=>rfl);(case hr=>first | (go_simp;done) | (go_simp;rfl));(case hp=>exact (Reps.none _ _));intro v1574 w8 ho9 hb hg_ hnew_;clear hg_ hnew_;(first | rw [← Ny1573.out] at ho9 | (simp only [Int.reduceToNat] at ho9;rw [← Ny1573.out] at ho9));have n0_:=Aside0.mk (Kd.R_lower ho9 (below_size (hs2 HB GE1571 GE1572)));have n1_:=Aside0.mk (blk_below (g:=gb1571) (o:=.cells #[.slice A0_0 l0_0.length c0_0] 44 (0,0)) (bs BK1571) hb);have n2_:=Aside0.mk (blk_below (g:=gb1572) (o:=.cells #[.slice none 0 0] 44 (0,0)) (bs BK1572) hb);have n3_:=Aside0.mk (below_step (hs2 HB GE1571 GE1572) hb);clear BK1571;clear BK1572;clear HB;have HO1575:=n0_;have BK1571:=n1_;have BK1572:=n2_;have HB:=n3_;clear n0_ n1_ n2_ n3_;clear hb ho9) | ((with_reducible refine gate_builtin (b:=.append) (xs:=#[(.tmp 19),.tmp 20]) rfl ?_);at_builtin;refine Kd.R_append_rows (Kd.int .i64) (w0:=w) w.heap.size rfl (.tmp 19) (.tmp 20) 26 3 (.int .i64 0) 8 rfl Try.underlying26 info3 rfl (by decide) (by omega) v1574 y1573 l1 _ _ _ (fun _=>True) (fun _=>False) rfl rfl ?aO ?aR (fun _ _ h=>h) (fun _ h=>h.elim) ?aF ?aB ?aS ?aL ?_;(case aR=>repeat (first | exact (Kd.C_below HR1.out HB.out) | (with_reducible refine Kd.C_alloc ?_ _) | (with_reducible refine Kd.C_drewN ?_ _) | (with_reducible refine Kd.C_drew ?_)));(case aB=>exact (hs2 HB GE1571 GE1572));(case aF=>exact (fun _ _=>trivial));(case aO=>exact (rs HO1575));(case aS=>exact (below_size (hs2 HB GE1571 GE1572)));(case aL=>have:=LMc3.out;omega);intro v1577 w10 ho hb hg hat;rw [← Ny1576.out] at ho;have n0_:=Aside0.mk (blk_grown (g:=gb1571) (o:=.cells #[.slice A0_0 l0_0.length c0_0] 44 (0,0)) (bs BK1571) hg (Kd.R_ne HO1575.out BK1571.out (by decide)));have n1_:=Aside0.mk (blk_grown (g:=gb1572) (o:=.cells #[.slice none 0 0] 44 (0,0)) (bs BK1572) hg (Kd.R_ne HO1575.out BK1572.out (by decide)));have n2_:=Aside0.mk (hb);have n3_:=Aside0.mk (ho);clear BK1571;clear BK1572;clear HB;clear HO1575;have BK1571:=n0_;have BK1572:=n1_;have HB:=n2_;have HO1578:=n3_;clear n0_ n1_ n2_ n3_;clear ho hb hg hat;have hnb11:=NB1571_1572.out;have hnc11:=NB1572_1571.out;have hcz12_0 : w10.cell? ⟨gb1571,0,none⟩ = some (.slice A0_0 l0_0.length c0_0):=(blk_cell BK1571.out 0).trans rfl;have hfz12_0:=blk_frozen BK1571.out 0) | ((with_reducible refine gate_callee (f:=99) rfl ?_);refine goesL_ (some 23) rfl rfl Try.func99 (by kernel_rfl) rfl #[.agg #[.slice A0_0 l0_0.length c0_0]] rfl (by (try simp only [List.map_toArray,List.map_cons,List.map_nil]);first | done | rfl | (simp only [List.length_drop,List.length_take];rfl)) ?_;(with_reducible refine (spec_ArenaOk.calls k _ _ l0_0 t1579 _ ?side1 ?side2 A4.out).mono ?_);(case side1=>repeat (first | exact (Kd.C_below HR0_0.out HB.out) | (with_reducible refine Kd.C_alloc ?_ _) | (with_reducible refine Kd.C_drewN ?_ _) | (with_reducible refine Kd.C_drew ?_)));(case side2=>exact HC0_0.out);rintro e w13 ⟨rfl,hb⟩;refine ⟨_,rfl,?_⟩;have n0_:=Aside0.mk (Kd.R_below (rs HO1578) hb);have n1_:=Aside0.mk (blk_below (g:=gb1571) (o:=.cells #[.slice A0_0 l0_0.length c0_0] 44 (0,0)) (bs BK1571) hb);have n2_:=Aside0.mk (blk_below (g:=gb1572) (o:=.cells #[.slice none 0 0] 44 (0,0)) (bs BK1572) hb);have n3_:=Aside0.mk (below_step (hs2 HB GE1571 GE1572) hb);clear HO1578;clear BK1571;clear BK1572;clear HB;have HO1578:=n0_;have BK1571:=n1_;have BK1572:=n2_;have HB:=n3_;clear n0_ n1_ n2_ n3_;(try clear hb);(try clear hb2);(try clear hk);(try clear hi)))
  (try simp only [Act.put,List.setIfInBounds_toArray,List.set_cons_zero,List.set_cons_succ])
  go_cut [7] (fun v7 wc=>∃ (kq : Nat) (x7_4 : Bool),v7 = .bool x7_4 ∧ Aside0 (spec_SweepArena.j1 kq l1 y1576 x7_4 l0_0 = some (r1,r2)) ∧ Aside0 (kq ≤ k) ∧ Aside0 (Kd.R (Kd.int .i64) 3 wc w.heap.size (fun _=>True) v1577 y1576) ∧ Aside0 (wc.heap[gb1571]? = some (.cells #[(.slice A0_0 l0_0.length c0_0)] 44 (0,0))) ∧ Aside0 (wc.heap[gb1572]? = some (.cells #[(.slice none 0 0)] 44 (0,0))) ∧ Aside0 (Below w.heap.size w wc))
  case first =>
   have H:=HC5.out;clear HC5;have H':=Aside0.mk H;clear H
   go_wp2
   go_loopg [7,8] k (fun kq v7 v8 w'=>∃ (x7_1 : Bool) (x8_1 : Int),v7 = .bool x7_1 ∧ v8 = .int .i64 x8_1 ∧ Aside0 (spec_SweepArena.l0 kq l1 y1576 x7_1 x8_1 l0_0 = some (r1,r2)) ∧ Aside0 (kq ≤ k) ∧ Aside0 (Kd.R (Kd.int .i64) 3 w' w.heap.size (fun _=>True) v1577 y1576) ∧ Aside0 (w'.heap[gb1571]? = some (.cells #[(.slice A0_0 l0_0.length c0_0)] 44 (0,0))) ∧ Aside0 (w'.heap[gb1572]? = some (.cells #[(.slice none 0 0)] 44 (0,0))) ∧ Aside0 (Below w.heap.size w w'));case atStart=>exact ⟨(t1579),(0),(by first | rfl | (simp;done) | (simp [*];done)),(by first | rfl | (simp;done) | (simp [*];done)),H',⟨Nat.le_refl _⟩,⟨rs HO1578⟩,⟨bs BK1571⟩,⟨bs BK1572⟩,⟨hs2 HB GE1571 GE1572⟩⟩
   case round =>
    clear H'
    try clear c1
    try clear p2
    try clear c3
    try clear c7
    try clear c9
    try clear c11
    try clear hcz12_0
    try clear hfz12_0
    obtain ⟨x7_1,x8_1,rfl,rfl,HA,HK1,HO_6,BK1571,BK1572,HB⟩:=hrel;cases gk with
    | zero=>exact absurd HA.out (by simp [spec_SweepArena.l0])
    | succ k1 =>
     have H:=HA.out;clear HA;simp only [spec_SweepArena.l0] at H
     by_cases c14 : x8_1 < (l1.length : Int)
     ·rw [if_pos c14] at H;have c14b0 : decide (x8_1 < (l1.length : Int)) = true:=decide_eq_true c14;clear c14
      (first | rw [c14b0] | (simp only [i64_w,i32_w];rw [c14b0]) | skip)
      by_cases c15 : x7_1 = true
      ·subst c15;have H1 : (if 0 ≤ x8_1 then ((spec_l11Root.f l0_0 (rd l1 x8_1)).bind fun t1581=>(spec_SweepArena.l0 k1 l1 y1576 t1581 (wrap64 (x8_1 + 1)) l0_0)) else (none)) = some (r1,r2):=by rw [if_pos rfl] at H;exact H
       clear H;have H:=H1;clear H1
       by_cases c16 : 0 ≤ x8_1
       ·rw [if_pos c16] at H;have c16b0 : decide (0 ≤ x8_1) = true:=decide_eq_true c16;clear c16;replace H:=Option.bind_eq_some_iff.mp H;obtain ⟨t1581,A170,H⟩:=H;replace H : (spec_SweepArena.l0 k1 l1 y1576 t1581 (wrap64 (x8_1 + 1)) l0_0) = some (r1,r2):=H;have A17:=Aside0.mk A170;clear A170;have H':=Aside0.mk H;clear H
        try go_wp2
        have n0_:=Aside0.mk (Kd.R_drew HO_6.out);have n1_:=Aside0.mk (blk_drew BK1571.out);have n2_:=Aside0.mk (blk_drew BK1572.out);have n3_:=Aside0.mk (below_drew1 HB.out);clear HO_6;clear BK1571;clear BK1572;clear HB;have HO_6:=n0_;have BK1571:=n1_;have BK1572:=n2_;have HB:=n3_;clear n0_ n1_ n2_ n3_;have p1580 : 0 ≤ (x8_1 : Int):=of_decide_eq_true (by first | (with_reducible assumption) | assumption);have q1580 : x8_1 < (l1.length : Int):=of_decide_eq_true (by first | (with_reducible assumption) | assumption);obtain ⟨ad1580,e1580,hx1580_0⟩:=Kd.at_int HR1.out x8_1 p1580 q1580;have hw1580_0:=hx1580_0;cases e1580;replace hx1580_0:=(HB.out.cell (World.block_lt_of_cell? w _ hx1580_0)).trans hx1580_0;replace p1580:=eq_true p1580;replace q1580:=eq_true q1580;refine start_ (n:=7) (S:=fun w'=>w'.cell? ⟨gb1571,0,none⟩ = some (.slice A0_0 l0_0.length c0_0) ∧ w'.cell? (ad1580.add (x8_1).toNat) = some (.int .i64 (rd l1 x8_1))) (ds:=[]) #[false,false,false,false,false,false,false] (by kernel_rfl) rfl rfl ⟨(blk_cell BK1571.out 0).trans rfl,((HB.out.cell (World.block_lt_of_cell? w _ hw1580_0)).trans hw1580_0)⟩ (fun hHeld=>?_);generalize wr.drew = w18 at HO_6 BK1571 BK1572 HB hx1580_0 hHeld ⊢;refine pure_ (i:=1) (N:=some 34) (v:=?_) (a':=?_) #[false,true,false,false,false,false,false] rfl rfl (by kernel_rfl) (fun _ _ _ h=>h) (Or.inl ⟨by rfl,?_⟩) ?_ ?_;rotate_left
        ·intro w';go_simp;with_reducible rfl
        rotate_left
        ·simp only [Act.put,List.setIfInBounds_toArray,List.set_cons_zero,List.set_cons_succ,i64_w,i32_w];rfl
        refine pure_ (i:=2) (N:=some 35) (v:=?_) (a':=?_) #[false,true,true,false,false,false,false] rfl rfl (by kernel_rfl) (fun _ _ _ h=>h) (Or.inl ⟨by rfl,?_⟩) ?_ ?_;rotate_left
        ·intro w';go_simp;with_reducible rfl
        rotate_left
        ·simp only [Act.put,List.setIfInBounds_toArray,List.set_cons_zero,List.set_cons_succ,i64_w,i32_w];rfl
        refine pure_ (i:=3) (N:=some 36) (v:=?_) (a':=?_) #[false,true,true,true,false,false,false] rfl rfl (by kernel_rfl) (fun _ _ _ h=>h) (Or.inl ⟨by rfl,?_⟩) ?_ ?_;rotate_left
        ·intro w';go_simp;with_reducible rfl
        rotate_left
        ·simp only [Act.put,List.setIfInBounds_toArray,List.set_cons_zero,List.set_cons_succ,i64_w,i32_w];rfl
        refine take_ (i:=0) (N:=some 33) (v:=?_) (a':=?_) #[true,true,true,true,false,false,false] rfl rfl (by kernel_rfl) (fun _ _ _ h=>h) (Or.inl ⟨by rfl,?_⟩) hHeld ?_ ?_;rotate_left
        ·rintro w' ⟨s0,s1⟩;go_simp;with_reducible rfl
        rotate_left
        ·simp only [Act.put,List.setIfInBounds_toArray,List.set_cons_zero,List.set_cons_succ,i64_w,i32_w];rfl
        refine take_ (i:=4) (N:=some 37) (v:=?_) (a':=?_) #[true,true,true,true,true,false,false] rfl rfl (by kernel_rfl) (fun _ _ _ h=>h) (Or.inl ⟨by rfl,?_⟩) hHeld ?_ ?_;rotate_left
        ·rintro w' ⟨s0,s1⟩;go_simp;with_reducible rfl
        rotate_left
        ·simp only [Act.put,List.setIfInBounds_toArray,List.set_cons_zero,List.set_cons_succ,i64_w,i32_w];rfl
        refine one_ (i:=5) (N:=some 38) #[true,true,true,true,true,true,false] rfl rfl (by kernel_rfl) (by decide) (fun K hK=>?_);refine goes_ Try.func100 (by kernel_rfl) rfl #[.agg #[.slice A0_0 l0_0.length c0_0],.int .i64 (rd l1 x8_1)] (by rfl) rfl rfl (by (try simp only [List.map_toArray,List.map_cons,List.map_nil]);first | done | rfl | (simp only [List.length_drop,List.length_take];rfl)) ?_;with_reducible refine (spec_l11Root.calls _ _ l0_0 (rd l1 x8_1) t1581 _ ?side1 ?side2 A17.out).mono ?_
        (case side1=>repeat (first | exact (Kd.C_below HR0_0.out HB.out) | (with_reducible refine Kd.C_alloc ?_ _) | (with_reducible refine Kd.C_drewN ?_ _) | (with_reducible refine Kd.C_drew ?_)))
        (case side2=>exact HC0_0.out)
        rintro e w19 ⟨rfl,hb⟩;refine ⟨_,rfl,?_⟩;have n0_:=Aside0.mk (Kd.R_below (rs HO_6) hb);have n1_:=Aside0.mk (blk_below (g:=gb1571) (o:=.cells #[.slice A0_0 l0_0.length c0_0] 44 (0,0)) (bs BK1571) hb);have n2_:=Aside0.mk (blk_below (g:=gb1572) (o:=.cells #[.slice none 0 0] 44 (0,0)) (bs BK1572) hb);have n3_:=Aside0.mk (below_step (hs2 HB GE1571 GE1572) hb);clear HO_6;clear BK1571;clear BK1572;clear HB;have HO_6:=n0_;have BK1571:=n1_;have BK1572:=n2_;have HB:=n3_;clear n0_ n1_ n2_ n3_
        (try clear hb)
        (try clear hb2)
        (try clear hk)
        (try clear hi)
        refine hK.out _ _ ⟨(blk_cell BK1571.out 0).trans rfl,((HB.out.cell (World.block_lt_of_cell? w _ hw1580_0)).trans hw1580_0)⟩ (fun hHeld=>?_);clear hK K;refine norm_ (a':=?_) ?_ ?_;rotate_left
        ·show Act.put _ (some 38) _ = _;simp only [Act.put,List.setIfInBounds_toArray,List.set_cons_zero,List.set_cons_succ,i64_w,i32_w];rfl
        refine pure_ (i:=6) (N:=some 7) (v:=?_) (a':=?_) #[true,true,true,true,true,true,true] rfl rfl (by kernel_rfl) (fun _ _ _ h=>h) (Or.inl ⟨by rfl,?_⟩) ?_ ?_;rotate_left
        ·intro w';go_simp;with_reducible rfl
        rotate_left
        ·simp only [Act.put,List.setIfInBounds_toArray,List.set_cons_zero,List.set_cons_succ,i64_w,i32_w];rfl
        refine done_ (by kernel_rfl) ?_
        try go_wp2
        go_roundg k1;case measure=>have:=HK1.out;omega
        case rel=>exact ⟨(t1581),(wrap64 (x8_1 + 1)),(by first | rfl | (simp;done) | (simp [*];done)),(by first | rfl | (simp;done) | (simp [*];done)),H',⟨by have:=HK1.out;omega⟩,⟨rs HO_6⟩,⟨bs BK1571⟩,⟨bs BK1572⟩,⟨hs2 HB GE1571 GE1572⟩⟩
       rw [if_neg c16] at H;exact absurd H (by simp)
      replace c15:=Bool.eq_false_iff.mpr c15;subst c15;have H1 : (spec_SweepArena.j1 k1 l1 y1576 false l0_0) = some (r1,r2):=by rw [if_neg (show ¬ (false = true) by decide)] at H;exact H
      clear H;have H:=H1;clear H1;have H':=Aside0.mk H;clear H
      go_wp2
      go_meet
      case rel=>exact ⟨_,(false),(by first | rfl | (simp;done) | (simp [*];done)),H',⟨by have:=HK1.out;first | omega | exact Nat.le_refl _⟩,⟨rs HO_6⟩,⟨bs BK1571⟩,⟨bs BK1572⟩,⟨hs2 HB GE1571 GE1572⟩⟩
     rw [if_neg c14] at H;have c14b0 : decide (x8_1 < (l1.length : Int)) = false:=decide_eq_false c14;clear c14
     (first | rw [c14b0] | (simp only [i64_w,i32_w];rw [c14b0]) | skip)
     have H':=Aside0.mk H;clear H
     go_wp2
     go_meet
     case rel=>exact ⟨_,(x7_1),(by first | rfl | (simp;done) | (simp [*];done)),H',⟨by have:=HK1.out;first | omega | exact Nat.le_refl _⟩,⟨rs HO_6⟩,⟨bs BK1571⟩,⟨bs BK1572⟩,⟨hs2 HB GE1571 GE1572⟩⟩
  case rest =>
   clear HC5
   try clear c1
   try clear p1
   try clear q1
   try clear hx1
   try clear p2
   try clear c3
   try clear p6
   try clear c7
   try clear c9
   try clear c10
   try clear c11
   try clear c14
   try clear c14b0
   try clear c15
   try clear p15
   try clear q15
   try clear hx15
   try clear c16
   try clear c16b0
   try clear hcz12_0
   try clear hfz12_0
   try clear hx1580_0
   try clear p1580
   try clear p2
   try clear q1580
   obtain ⟨kq,x7_4,rfl,HA,HJ4,HO_6,BK1571,BK1572,HB⟩:=hcut;cases kq with
   | zero=>exact absurd HA.out (by simp [spec_SweepArena.j1])
   | succ kj4 =>
    have H:=HA.out;clear HA;simp only [spec_SweepArena.j1] at H
    by_cases c20 : x7_4 = true
    ·subst c20;have H1 : (if 0 ≤ (l0_0.length : Int) then (if ((l0_0.length : Int) : Int).toNat ≤ 281474976710656 then (spec_SweepArena.l1 kj4 l1 y1576 (List.replicate ((l0_0.length : Int) : Int).toNat false) 0 l0_0) else (none)) else (none)) = some (r1,r2):=by rw [if_pos rfl] at H;exact H
     clear H;have H:=H1;clear H1
     by_cases c21 : 0 ≤ (l0_0.length : Int)
     ·rw [if_pos c21] at H;have c21b0:=eq_true c21;have c21b1 : decide (0 ≤ (l0_0.length : Int)) = true:=decide_eq_true c21;clear c21
      by_cases c22 : ((l0_0.length : Int) : Int).toNat ≤ 281474976710656
      ·rw [if_pos c22] at H;have c22b0:=eq_true c22;have c22b1 : decide (((l0_0.length : Int) : Int).toNat ≤ 281474976710656) = true:=decide_eq_true c22;clear c22;obtain ⟨y1585,hy1585⟩ : ∃ y_ : List Bool,y_ = (List.replicate ((l0_0.length : Int) : Int).toNat false):=⟨_,rfl⟩;replace H : (spec_SweepArena.l1 kj4 l1 y1576 y1585 0 l0_0) = some (r1,r2):=by first | (rw [hy1585];with_reducible exact H) | (have H2_:=(Option.bind_some _ _).symm.trans H;rw [hy1585];with_reducible exact H2_) | (have H2_:=(Option.bind_some _ _).symm.trans H;with_reducible exact H2_) | with_reducible exact H | (rw [hy1585];exact H) | exact H
       have Ny1585:=Aside0.mk hy1585;clear hy1585;have H':=Aside0.mk H;clear H;have hnb23:=NB1571_1572.out;have hnc23:=NB1572_1571.out;have hcz24_0 : wc.cell? ⟨gb1571,0,none⟩ = some (.slice A0_0 l0_0.length c0_0):=(blk_cell BK1571.out 0).trans rfl;have hfz24_0:=blk_frozen BK1571.out 0;go_wp2_with (first | ((with_reducible refine gate_dst (N:=47) rfl ?_);refine Kd.R_make Kd.bool _ 4 rfl (N:=47) rfl 167 _ _ rfl (l0_0.length : Int) rfl rfl Try.underlying167 (.bool false) 1 info4 rfl (by decide) (by omega) false (ok:=fun _=>True) (okp:=fun _=>True) rfl (fun _ hk=>hk) trivial (of_decide_eq_true (by first | (with_reducible assumption) | assumption)) (Nat.le_trans (Nat.mul_le_mul_right _ (of_decide_eq_true (by first | (with_reducible assumption) | assumption) : (l0_0.length : Int).toNat ≤ 281474976710656)) (by omega)) (Below.refl _ _) (Nat.le_refl _) ?_;intro v1586 w25 ho26 hb hg_ hnew_;clear hg_ hnew_;(first | rw [← Ny1585.out] at ho26 | (simp only [Int.reduceToNat] at ho26;rw [← Ny1585.out] at ho26));have n0_:=Aside0.mk (Kd.R_below (rs HO_6) hb);have n1_:=Aside0.mk (Kd.R_lower ho26 (below_size (hs2 HB GE1571 GE1572)));have n2_:=Aside0.mk (blk_below (g:=gb1571) (o:=.cells #[.slice A0_0 l0_0.length c0_0] 44 (0,0)) (bs BK1571) hb);have n3_:=Aside0.mk (blk_below (g:=gb1572) (o:=.cells #[.slice none 0 0] 44 (0,0)) (bs BK1572) hb);have n4_:=Aside0.mk (below_step (hs2 HB GE1571 GE1572) hb);clear HO_6;clear BK1571;clear BK1572;clear HB;have HO_6:=n0_;have HO1587:=n1_;have BK1571:=n2_;have BK1572:=n3_;have HB:=n4_;clear n0_ n1_ n2_ n3_ n4_;clear hb ho26));go_loopg [10] kj4 (fun kq v10 w'=>∃ (x9_2 : List Bool) (x10_2 : Int),v10 = .int .i64 x10_2 ∧ Aside0 (spec_SweepArena.l1 kq l1 y1576 x9_2 x10_2 l0_0 = some (r1,r2)) ∧ Aside0 (kq ≤ kj4) ∧ Aside0 (Kd.R (Kd.int .i64) 3 w' w.heap.size (fun _=>True) v1577 y1576) ∧ Aside0 (Kd.R Kd.bool 4 w' w.heap.size (fun _=>True) v1586 x9_2) ∧ Aside0 (w'.heap[gb1571]? = some (.cells #[(.slice A0_0 l0_0.length c0_0)] 44 (0,0))) ∧ Aside0 (w'.heap[gb1572]? = some (.cells #[(.slice none 0 0)] 44 (0,0))) ∧ Aside0 (Below w.heap.size w w'));case atStart=>exact ⟨(y1585),(0),(by first | rfl | (simp;done) | (simp [*];done)),H',⟨Nat.le_refl _⟩,⟨rs HO_6⟩,⟨rs HO1587⟩,⟨bs BK1571⟩,⟨bs BK1572⟩,⟨hs2 HB GE1571 GE1572⟩⟩
       case round =>
        clear H'
        try clear c1
        try clear p1
        try clear q1
        try clear hx1
        try clear c2
        try clear p2
        try clear c3
        try clear p6
        try clear c7
        try clear c9
        try clear c10
        try clear c11
        try clear c14
        try clear c14b0
        try clear c15
        try clear p15
        try clear q15
        try clear hx15
        try clear c16
        try clear c16b0
        try clear c20
        try clear c21
        try clear c21b0
        try clear c21b1
        try clear c22
        try clear c22b0
        try clear c22b1
        try clear c23
        try clear hcz12_0
        try clear hcz24_0
        try clear hfz12_0
        try clear hfz24_0
        try clear hx1580_0
        try clear p1
        try clear p15
        try clear p1580
        try clear p2
        try clear p6
        try clear q1
        try clear q15
        try clear q1580
        obtain ⟨x9_2,x10_2,rfl,HA,HK2,HO_6,HO_9,BK1571,BK1572,HB⟩:=hrel;cases gk with
        | zero=>exact absurd HA.out (by simp [spec_SweepArena.l1])
        | succ k2 =>
         have H:=HA.out;clear HA;simp only [spec_SweepArena.l1] at H
         by_cases c27 : x10_2 < (l1.length : Int)
         ·rw [if_pos c27] at H;have c27b0 : decide (x10_2 < (l1.length : Int)) = true:=decide_eq_true c27;clear c27
          by_cases c28 : 0 ≤ x10_2
          ·rw [if_pos c28] at H;have c28b0 : decide (0 ≤ x10_2) = true:=decide_eq_true c28;clear c28;replace H:=Option.bind_eq_some_iff.mp H;obtain ⟨t1589,A290,H⟩:=H;replace H : (spec_SweepArena.l2 k2 l1 y1576 x9_2 x10_2 t1589 0 l0_0) = some (r1,r2):=H;have A29:=Aside0.mk A290;clear A290;have H':=Aside0.mk H;clear H
           try go_wp2
           have n0_:=Aside0.mk (Kd.R_drew HO_6.out);have n1_:=Aside0.mk (Kd.R_drew HO_9.out);have n2_:=Aside0.mk (blk_drew BK1571.out);have n3_:=Aside0.mk (blk_drew BK1572.out);have n4_:=Aside0.mk (below_drew1 HB.out);clear HO_6;clear HO_9;clear BK1571;clear BK1572;clear HB;have HO_6:=n0_;have HO_9:=n1_;have BK1571:=n2_;have BK1572:=n3_;have HB:=n4_;clear n0_ n1_ n2_ n3_ n4_;have p1588 : 0 ≤ (x10_2 : Int):=of_decide_eq_true (by first | (with_reducible assumption) | assumption);have q1588 : x10_2 < (l1.length : Int):=of_decide_eq_true (by first | (with_reducible assumption) | assumption);obtain ⟨ad1588,e1588,hx1588_0⟩:=Kd.at_int HR1.out x10_2 p1588 q1588;have hw1588_0:=hx1588_0;cases e1588;replace hx1588_0:=(HB.out.cell (World.block_lt_of_cell? w _ hx1588_0)).trans hx1588_0;replace p1588:=eq_true p1588;replace q1588:=eq_true q1588;refine start_ (n:=7) (S:=fun w'=>w'.cell? ⟨gb1571,0,none⟩ = some (.slice A0_0 l0_0.length c0_0) ∧ w'.cell? (ad1588.add (x10_2).toNat) = some (.int .i64 (rd l1 x10_2))) (ds:=[]) #[false,false,false,false,false,false,false] (by kernel_rfl) rfl rfl ⟨(blk_cell BK1571.out 0).trans rfl,((HB.out.cell (World.block_lt_of_cell? w _ hw1588_0)).trans hw1588_0)⟩ (fun hHeld=>?_);generalize wr.drew = w30 at HO_6 HO_9 BK1571 BK1572 HB hx1588_0 hHeld ⊢;refine pure_ (i:=1) (N:=some 55) (v:=?_) (a':=?_) #[false,true,false,false,false,false,false] rfl rfl (by kernel_rfl) (fun _ _ _ h=>h) (Or.inl ⟨by rfl,?_⟩) ?_ ?_;rotate_left
           ·intro w';go_simp;with_reducible rfl
           rotate_left
           ·simp only [Act.put,List.setIfInBounds_toArray,List.set_cons_zero,List.set_cons_succ,i64_w,i32_w];rfl
           refine pure_ (i:=2) (N:=some 56) (v:=?_) (a':=?_) #[false,true,true,false,false,false,false] rfl rfl (by kernel_rfl) (fun _ _ _ h=>h) (Or.inl ⟨by rfl,?_⟩) ?_ ?_;rotate_left
           ·intro w';go_simp;with_reducible rfl
           rotate_left
           ·simp only [Act.put,List.setIfInBounds_toArray,List.set_cons_zero,List.set_cons_succ,i64_w,i32_w];rfl
           refine pure_ (i:=3) (N:=some 57) (v:=?_) (a':=?_) #[false,true,true,true,false,false,false] rfl rfl (by kernel_rfl) (fun _ _ _ h=>h) (Or.inl ⟨by rfl,?_⟩) ?_ ?_;rotate_left
           ·intro w';go_simp;with_reducible rfl
           rotate_left
           ·simp only [Act.put,List.setIfInBounds_toArray,List.set_cons_zero,List.set_cons_succ,i64_w,i32_w];rfl
           refine take_ (i:=0) (N:=some 54) (v:=?_) (a':=?_) #[true,true,true,true,false,false,false] rfl rfl (by kernel_rfl) (fun _ _ _ h=>h) (Or.inl ⟨by rfl,?_⟩) hHeld ?_ ?_;rotate_left
           ·rintro w' ⟨s0,s1⟩;go_simp;with_reducible rfl
           rotate_left
           ·simp only [Act.put,List.setIfInBounds_toArray,List.set_cons_zero,List.set_cons_succ,i64_w,i32_w];rfl
           refine take_ (i:=4) (N:=some 58) (v:=?_) (a':=?_) #[true,true,true,true,true,false,false] rfl rfl (by kernel_rfl) (fun _ _ _ h=>h) (Or.inl ⟨by rfl,?_⟩) hHeld ?_ ?_;rotate_left
           ·rintro w' ⟨s0,s1⟩;go_simp;with_reducible rfl
           rotate_left
           ·simp only [Act.put,List.setIfInBounds_toArray,List.set_cons_zero,List.set_cons_succ,i64_w,i32_w];rfl
           refine one_ (i:=5) (N:=some 59) #[true,true,true,true,true,true,false] rfl rfl (by kernel_rfl) (by decide) (fun K hK=>?_);refine goes_ Try.func134 (by kernel_rfl) rfl #[.agg #[.slice A0_0 l0_0.length c0_0],.int .i64 (rd l1 x10_2)] (by rfl) rfl rfl (by (try simp only [List.map_toArray,List.map_cons,List.map_nil]);first | done | rfl | (simp only [List.length_drop,List.length_take];rfl)) ?_;with_reducible refine (spec_l11Has.calls k2 _ _ l0_0 (rd l1 x10_2) t1589 _ ?side1 ?side2 A29.out).mono ?_
           (case side1=>repeat (first | exact (Kd.C_below HR0_0.out HB.out) | (with_reducible refine Kd.C_alloc ?_ _) | (with_reducible refine Kd.C_drewN ?_ _) | (with_reducible refine Kd.C_drew ?_)))
           (case side2=>exact HC0_0.out)
           rintro e w31 ⟨v1590,rfl,ho0,hb⟩;refine ⟨_,rfl,?_⟩;have n0_:=Aside0.mk (Kd.R_below (rs HO_6) hb);have n1_:=Aside0.mk (Kd.R_elder' (rs HO_9) (Kd.R_base ho0) hb);have n2_:=Aside0.mk (Kd.R_lower (Kd.R_new' ho0 (Kd.R_lt (rs HO_9))) (below_size (hs2 HB GE1571 GE1572)));have n3_:=Aside0.mk (blk_below (g:=gb1571) (o:=.cells #[.slice A0_0 l0_0.length c0_0] 44 (0,0)) (bs BK1571) hb);have n4_:=Aside0.mk (blk_below (g:=gb1572) (o:=.cells #[.slice none 0 0] 44 (0,0)) (bs BK1572) hb);have n5_:=Aside0.mk (below_step (hs2 HB GE1571 GE1572) hb);clear HO_6;clear HO_9;clear BK1571;clear BK1572;clear HB;have HO_6:=n0_;have HO_9:=n1_;have HO1591:=n2_;have BK1571:=n3_;have BK1572:=n4_;have HB:=n5_;clear n0_ n1_ n2_ n3_ n4_ n5_
           (try clear hb)
           (try clear hb2)
           (try clear hk)
           (try clear hi)
           (try clear ho0)
           refine hK.out _ _ ⟨(blk_cell BK1571.out 0).trans rfl,((HB.out.cell (World.block_lt_of_cell? w _ hw1588_0)).trans hw1588_0)⟩ (fun hHeld=>?_);clear hK K;refine norm_ (a':=?_) ?_ ?_;rotate_left
           ·show Act.put _ (some 59) _ = _;simp only [Act.put,List.setIfInBounds_toArray,List.set_cons_zero,List.set_cons_succ,i64_w,i32_w];rfl
           refine pure_ (i:=6) (N:=some 11) (v:=?_) (a':=?_) #[true,true,true,true,true,true,true] rfl rfl (by kernel_rfl) (fun _ _ _ h=>h) (Or.inl ⟨by rfl,?_⟩) ?_ ?_;rotate_left
           ·intro w';go_simp;with_reducible rfl
           rotate_left
           ·simp only [Act.put,List.setIfInBounds_toArray,List.set_cons_zero,List.set_cons_succ,i64_w,i32_w];rfl
           refine done_ (by kernel_rfl) ?_
           try go_wp2
           go_loopg [12] k2 (fun kq v12 w'=>∃ (x9_3 : List Bool) (x12_3 : Int),v12 = .int .i64 x12_3 ∧ Aside0 (spec_SweepArena.l2 kq l1 y1576 x9_3 x10_2 t1589 x12_3 l0_0 = some (r1,r2)) ∧ Aside0 (kq ≤ k2) ∧ Aside0 (Kd.R (Kd.int .i64) 3 w' w.heap.size (fun _=>True) v1577 y1576) ∧ Aside0 (Kd.R Kd.bool 4 w' w.heap.size (fun k_=>some k_ ≠ (v1590 : Value).ownBlock) v1586 x9_3) ∧ Aside0 (Kd.R Kd.bool 4 w' w.heap.size (fun k_=>some k_ ≠ (v1586 : Value).ownBlock) v1590 t1589) ∧ Aside0 (w'.heap[gb1571]? = some (.cells #[(.slice A0_0 l0_0.length c0_0)] 44 (0,0))) ∧ Aside0 (w'.heap[gb1572]? = some (.cells #[(.slice none 0 0)] 44 (0,0))) ∧ Aside0 (Below w.heap.size w w'));case atStart=>exact ⟨(x9_2),(0),(by first | rfl | (simp;done) | (simp [*];done)),H',⟨Nat.le_refl _⟩,⟨rs HO_6⟩,⟨by (with_reducible repeat (first | apply Kd.R_alloc | apply Kd.R_drewN | apply Kd.R_drew));exact Kd.R_mono HO_9.out (fun _ hk=>hk.2)⟩,⟨by (with_reducible repeat (first | apply Kd.R_alloc | apply Kd.R_drewN | apply Kd.R_drew));exact Kd.R_mono HO1591.out (fun _ hk=>hk.2)⟩,⟨bs BK1571⟩,⟨bs BK1572⟩,⟨hs2 HB GE1571 GE1572⟩⟩
           case round =>
            clear H'
            try clear c1
            try clear p1
            try clear q1
            try clear hx1
            try clear c2
            try clear p2
            try clear c3
            try clear p6
            try clear c7
            try clear c9
            try clear c10
            try clear c11
            try clear c13
            try clear c14
            try clear c14b0
            try clear c15
            try clear p15
            try clear q15
            try clear hx15
            try clear c16
            try clear c16b0
            try clear c20
            try clear c21
            try clear c21b0
            try clear c21b1
            try clear c22
            try clear c22b0
            try clear c22b1
            try clear c23
            try clear c27
            try clear c27b0
            try clear c28
            try clear c28b0
            try clear hcz12_0
            try clear hcz24_0
            try clear hfz12_0
            try clear hfz24_0
            try clear hx1580_0
            try clear hx1588_0
            try clear p1
            try clear p15
            try clear p1580
            try clear p1588
            try clear p2
            try clear p6
            try clear q1
            try clear q15
            try clear q1580
            try clear q1588
            obtain ⟨x9_3,x12_3,rfl,HA,HK3,HO_6,HO_9,HO_11,BK1571,BK1572,HB⟩:=hrel;cases gk with
            | zero=>exact absurd HA.out (by simp [spec_SweepArena.l2])
            | succ k3 =>
             have H:=HA.out;clear HA;simp only [spec_SweepArena.l2] at H
             by_cases c32 : x12_3 < (t1589.length : Int)
             ·rw [if_pos c32] at H;have c32b0 : decide (x12_3 < (t1589.length : Int)) = true:=decide_eq_true c32;clear c32
              by_cases c33 : 0 ≤ x12_3
              ·rw [if_pos c33] at H;have c33b0 : decide (0 ≤ x12_3) = true:=decide_eq_true c33;clear c33
               by_cases c34 : x12_3 < (x9_3.length : Int)
               ·rw [if_pos c34] at H;have c34b0 : decide (x12_3 < (x9_3.length : Int)) = true:=decide_eq_true c34;clear c34;obtain ⟨bq35,hbq35⟩ : ∃ b_ : Bool,b_ = (rdOf false x9_3 x12_3):=⟨_,rfl⟩;replace H : (if bq35 = true then (spec_SweepArena.l2 k3 l1 y1576 (x9_3.set (x12_3 : Int).toNat true) x10_2 t1589 (wrap64 (x12_3 + 1)) l0_0) else (spec_SweepArena.l2 k3 l1 y1576 (x9_3.set (x12_3 : Int).toNat (rdOf false t1589 x12_3)) x10_2 t1589 (wrap64 (x12_3 + 1)) l0_0)) = some (r1,r2):=by rw [← hbq35] at H;exact H
                have Nbq35:=Aside0.mk hbq35;clear hbq35
                by_cases c36 : bq35 = true
                ·subst c36;have H1 : (spec_SweepArena.l2 k3 l1 y1576 (x9_3.set (x12_3 : Int).toNat true) x10_2 t1589 (wrap64 (x12_3 + 1)) l0_0) = some (r1,r2):=by rw [if_pos rfl] at H;exact H
                 clear H;have H:=H1;clear H1;obtain ⟨y1593,hy1593⟩ : ∃ y_ : List Bool,y_ = (x9_3.set (x12_3 : Int).toNat true):=⟨_,rfl⟩;replace H : (spec_SweepArena.l2 k3 l1 y1576 y1593 x10_2 t1589 (wrap64 (x12_3 + 1)) l0_0) = some (r1,r2):=by first | (rw [hy1593];with_reducible exact H) | (have H2_:=(Option.bind_some _ _).symm.trans H;rw [hy1593];with_reducible exact H2_) | (have H2_:=(Option.bind_some _ _).symm.trans H;with_reducible exact H2_) | with_reducible exact H | (rw [hy1593];exact H) | exact H
                 have Ny1593:=Aside0.mk hy1593;clear hy1593;have H':=Aside0.mk H;clear H;obtain ⟨Ao38,co38,eo38⟩:=Kd.R_slice HO_11.out;subst eo38;obtain ⟨Ao39,co39,eo39⟩:=Kd.R_slice HO_9.out;subst eo39;have p1592 : 0 ≤ (x12_3 : Int):=of_decide_eq_true (by first | (with_reducible assumption) | assumption);have q1592 : x12_3 < (x9_3.length : Int):=of_decide_eq_true (by first | (with_reducible assumption) | assumption);obtain ⟨ad1592,e1592,hx1592_0⟩:=Kd.at_bool (Kd.R_reads' HO_9.out).2.2 x12_3 p1592 q1592
                 (try rw [← Nbq35.out] at hx1592_0)
                 cases e1592;replace p1592:=eq_true p1592;replace q1592:=eq_true q1592;have p37 : 0 ≤ (x12_3 : Int):=of_decide_eq_true (by first | (with_reducible assumption) | assumption);have q37 : (x12_3 : Int) < ((x9_3.length : Int) : Int):=of_decide_eq_true (by first | (with_reducible assumption) | assumption);obtain ⟨go37,co37,eo37,gb37,gl37,cl37,HG37⟩:=Kd.R_form HO_9.out (by omega)
                 (first | cases eo37 | (injection eo37 with ea_ en_ ec_;(first | subst ea_ | (injection ea_ with ea_;subst ea_));subst ec_;clear en_))
                 have GB37:=Aside0.mk gb37;have GG37:=Aside0.mk HG37;clear gb37 gl37 HG37
                 (first | simp only [add_plain] at hx1592_0 | skip)
                 obtain ⟨hx37_0,hf37_0⟩:=Kd.R_celln false HO_9.out (x12_3 : Int) p37 q37;replace p37:=eq_true p37;replace q37:=eq_true q37;have HP40:=Kd.R_putg HO_9.out (x12_3 : Int) true;go_wp2_with (first | ((with_reducible refine gate_store (t:=4) (p:=78) rfl ?_);refine store_event (t:=4) (p:=78) (v:=?vo_w41) (w1:=(wr.setCell ⟨go37,(x12_3 : Int).toNat,none⟩ (.bool true))) ?hg ?ho ?hn ?hr ?_;(case ho=>rfl);(case hg=>rfl);(case hn=>rfl);(case hr=>first | (go_simp;done) | (go_simp;rfl));intro w41 hw;have hg : wr.grownBy w41 (some go37):=(by rw [hw];exact HP40.2);have hp_ : Kd.R Kd.bool 4 w41 w.heap.size (fun k_=>some k_ ≠ (.slice Ao38 t1589.length co38 : Value).ownBlock) (.slice (some ⟨go37,0,none⟩) x9_3.length co39) y1593:=(by rw [hw,Ny1593.out];exact HP40.1);clear HP40;have n0_:=Aside0.mk (Kd.R_over' (v:=(.slice (some ⟨go37,0,none⟩) x9_3.length co39)) (rs HO_6) (Kd.R_typed HO_9.out) (by decide) hg);have n1_:=Aside0.mk (hp_);have n2_:=Aside0.mk (Kd.R_after (v:=(.slice (some ⟨go37,0,none⟩) x9_3.length co39)) (v1:=(.slice (some ⟨go37,0,none⟩) x9_3.length co39)) (ok:=(fun _=>True)) (by (with_reducible repeat (first | apply Kd.R_alloc | apply Kd.R_drewN | apply Kd.R_drew));exact Kd.R_mono HO_11.out (fun _ hk=>⟨trivial,hk⟩)) hg (.inl rfl));have n3_:=Aside0.mk (blk_grown (g:=gb1571) (o:=.cells #[.slice A0_0 l0_0.length c0_0] 44 (0,0)) (bs BK1571) hg (Kd.R_ne HO_9.out BK1571.out (by decide)));have n4_:=Aside0.mk (blk_grown (g:=gb1572) (o:=.cells #[.slice none 0 0] 44 (0,0)) (bs BK1572) hg (Kd.R_ne HO_9.out BK1572.out (by decide)));have n5_:=Aside0.mk ((by rw [hw];exact below_set (HB.out) GB37.out : Below w.heap.size w w41));clear HO_6;clear HO_9;clear HO_11;clear BK1571;clear BK1572;clear HB;have HO_6:=n0_;have HO_9:=n1_;have HO_11:=n2_;have BK1571:=n3_;have BK1572:=n4_;have HB:=n5_;clear n0_ n1_ n2_ n3_ n4_ n5_;clear hg hw hp_));go_roundg k3;case measure=>have:=HJ4.out;have:=HK2.out;have:=HK3.out;omega
                 case rel=>exact ⟨(y1593),(wrap64 (x12_3 + 1)),(by first | rfl | (simp;done) | (simp [*];done)),H',⟨by have:=HJ4.out;have:=HK2.out;have:=HK3.out;omega⟩,⟨rs HO_6⟩,⟨rs HO_9⟩,⟨by (with_reducible repeat (first | apply Kd.R_alloc | apply Kd.R_drewN | apply Kd.R_drew));exact Kd.R_mono HO_11.out (fun _ hk=>hk.2)⟩,⟨bs BK1571⟩,⟨bs BK1572⟩,⟨hs2 HB GE1571 GE1572⟩⟩
                replace c36:=Bool.eq_false_iff.mpr c36;subst c36;have H1 : (spec_SweepArena.l2 k3 l1 y1576 (x9_3.set (x12_3 : Int).toNat (rdOf false t1589 x12_3)) x10_2 t1589 (wrap64 (x12_3 + 1)) l0_0) = some (r1,r2):=by rw [if_neg (show ¬ (false = true) by decide)] at H;exact H
                clear H;have H:=H1;clear H1;obtain ⟨y1595,hy1595⟩ : ∃ y_ : List Bool,y_ = (x9_3.set (x12_3 : Int).toNat (rdOf false t1589 x12_3)):=⟨_,rfl⟩;replace H : (spec_SweepArena.l2 k3 l1 y1576 y1595 x10_2 t1589 (wrap64 (x12_3 + 1)) l0_0) = some (r1,r2):=by first | (rw [hy1595];with_reducible exact H) | (have H2_:=(Option.bind_some _ _).symm.trans H;rw [hy1595];with_reducible exact H2_) | (have H2_:=(Option.bind_some _ _).symm.trans H;with_reducible exact H2_) | with_reducible exact H | (rw [hy1595];exact H) | exact H
                have Ny1595:=Aside0.mk hy1595;clear hy1595;have H':=Aside0.mk H;clear H;obtain ⟨Ao43,co43,eo43⟩:=Kd.R_slice HO_11.out;subst eo43;obtain ⟨Ao44,co44,eo44⟩:=Kd.R_slice HO_9.out;subst eo44;have p1592 : 0 ≤ (x12_3 : Int):=of_decide_eq_true (by first | (with_reducible assumption) | assumption);have q1592 : x12_3 < (x9_3.length : Int):=of_decide_eq_true (by first | (with_reducible assumption) | assumption);obtain ⟨ad1592,e1592,hx1592_0⟩:=Kd.at_bool (Kd.R_reads' HO_9.out).2.2 x12_3 p1592 q1592
                (try rw [← Nbq35.out] at hx1592_0)
                cases e1592;replace p1592:=eq_true p1592;replace q1592:=eq_true q1592;have p1594 : 0 ≤ (x12_3 : Int):=of_decide_eq_true (by first | (with_reducible assumption) | assumption);have q1594 : x12_3 < (t1589.length : Int):=of_decide_eq_true (by first | (with_reducible assumption) | assumption);obtain ⟨ad1594,e1594,hx1594_0⟩:=Kd.at_bool (Kd.R_reads' HO_11.out).2.2 x12_3 p1594 q1594
                (try rw [← Nbq35.out] at hx1594_0)
                cases e1594;replace p1594:=eq_true p1594;replace q1594:=eq_true q1594;have p42 : 0 ≤ (x12_3 : Int):=of_decide_eq_true (by first | (with_reducible assumption) | assumption);have q42 : (x12_3 : Int) < ((x9_3.length : Int) : Int):=of_decide_eq_true (by first | (with_reducible assumption) | assumption);obtain ⟨go42,co42,eo42,gb42,gl42,cl42,HG42⟩:=Kd.R_form HO_9.out (by omega)
                (first | cases eo42 | (injection eo42 with ea_ en_ ec_;(first | subst ea_ | (injection ea_ with ea_;subst ea_));subst ec_;clear en_))
                have GB42:=Aside0.mk gb42;have GG42:=Aside0.mk HG42;clear gb42 gl42 HG42
                (first | simp only [add_plain] at hx1592_0 | skip)
                obtain ⟨hx42_0,hf42_0⟩:=Kd.R_celln false HO_9.out (x12_3 : Int) p42 q42;replace p42:=eq_true p42;replace q42:=eq_true q42;have HP45:=Kd.R_putg HO_9.out (x12_3 : Int) (rdOf false t1589 x12_3);go_wp2_with (first | ((with_reducible refine gate_store (t:=4) (p:=78) rfl ?_);refine store_event (t:=4) (p:=78) (v:=?vo_w46) (w1:=(wr.setCell ⟨go42,(x12_3 : Int).toNat,none⟩ (.bool (rdOf false t1589 x12_3)))) ?hg ?ho ?hn ?hr ?_;(case ho=>rfl);(case hg=>rfl);(case hn=>rfl);(case hr=>first | (go_simp;done) | (go_simp;rfl));intro w46 hw;have hg : wr.grownBy w46 (some go42):=(by rw [hw];exact HP45.2);have hp_ : Kd.R Kd.bool 4 w46 w.heap.size (fun k_=>some k_ ≠ (.slice (some ad1594) t1589.length co43 : Value).ownBlock) (.slice (some ⟨go42,0,none⟩) x9_3.length co44) y1595:=(by rw [hw,Ny1595.out];exact HP45.1);clear HP45;have n0_:=Aside0.mk (Kd.R_over' (v:=(.slice (some ⟨go42,0,none⟩) x9_3.length co44)) (rs HO_6) (Kd.R_typed HO_9.out) (by decide) hg);have n1_:=Aside0.mk (hp_);have n2_:=Aside0.mk (Kd.R_after (v:=(.slice (some ⟨go42,0,none⟩) x9_3.length co44)) (v1:=(.slice (some ⟨go42,0,none⟩) x9_3.length co44)) (ok:=(fun _=>True)) (by (with_reducible repeat (first | apply Kd.R_alloc | apply Kd.R_drewN | apply Kd.R_drew));exact Kd.R_mono HO_11.out (fun _ hk=>⟨trivial,hk⟩)) hg (.inl rfl));have n3_:=Aside0.mk (blk_grown (g:=gb1571) (o:=.cells #[.slice A0_0 l0_0.length c0_0] 44 (0,0)) (bs BK1571) hg (Kd.R_ne HO_9.out BK1571.out (by decide)));have n4_:=Aside0.mk (blk_grown (g:=gb1572) (o:=.cells #[.slice none 0 0] 44 (0,0)) (bs BK1572) hg (Kd.R_ne HO_9.out BK1572.out (by decide)));have n5_:=Aside0.mk ((by rw [hw];exact below_set (HB.out) GB42.out : Below w.heap.size w w46));clear HO_6;clear HO_9;clear HO_11;clear BK1571;clear BK1572;clear HB;have HO_6:=n0_;have HO_9:=n1_;have HO_11:=n2_;have BK1571:=n3_;have BK1572:=n4_;have HB:=n5_;clear n0_ n1_ n2_ n3_ n4_ n5_;clear hg hw hp_));go_roundg k3;case measure=>have:=HJ4.out;have:=HK2.out;have:=HK3.out;omega
                case rel=>exact ⟨(y1595),(wrap64 (x12_3 + 1)),(by first | rfl | (simp;done) | (simp [*];done)),H',⟨by have:=HJ4.out;have:=HK2.out;have:=HK3.out;omega⟩,⟨rs HO_6⟩,⟨rs HO_9⟩,⟨by (with_reducible repeat (first | apply Kd.R_alloc | apply Kd.R_drewN | apply Kd.R_drew));exact Kd.R_mono HO_11.out (fun _ hk=>hk.2)⟩,⟨bs BK1571⟩,⟨bs BK1572⟩,⟨hs2 HB GE1571 GE1572⟩⟩
               rw [if_neg c34] at H;exact absurd H (by simp)
              rw [if_neg c33] at H;exact absurd H (by simp)
             rw [if_neg c32] at H;have c32b0 : decide (x12_3 < (t1589.length : Int)) = false:=decide_eq_false c32;clear c32;have H':=Aside0.mk H;clear H;obtain ⟨Ao47,co47,eo47⟩:=Kd.R_slice HO_11.out;subst eo47
             go_wp2
             go_roundg k3;case measure=>have:=HJ4.out;have:=HK2.out;have:=HK3.out;omega
             case rel=>exact ⟨(x9_3),(wrap64 (x10_2 + 1)),(by first | rfl | (simp;done) | (simp [*];done)),H',⟨by have:=HJ4.out;have:=HK2.out;have:=HK3.out;omega⟩,⟨rs HO_6⟩,⟨by (with_reducible repeat (first | apply Kd.R_alloc | apply Kd.R_drewN | apply Kd.R_drew));exact Kd.R_mono HO_9.out (fun _ hk=>trivial)⟩,⟨bs BK1571⟩,⟨bs BK1572⟩,⟨hs2 HB GE1571 GE1572⟩⟩
          rw [if_neg c28] at H;exact absurd H (by simp)
         rw [if_neg c27] at H;have c27b0 : decide (x10_2 < (l1.length : Int)) = false:=decide_eq_false c27;clear c27
         by_cases c48 : 0 ≤ (l0_0.length : Int)
         ·rw [if_pos c48] at H;have c48b0:=eq_true c48;have c48b1 : decide (0 ≤ (l0_0.length : Int)) = true:=decide_eq_true c48;clear c48
          by_cases c49 : ((l0_0.length : Int) : Int).toNat ≤ 35184372088832
          ·rw [if_pos c49] at H;have c49b0:=eq_true c49;have c49b1 : decide (((l0_0.length : Int) : Int).toNat ≤ 35184372088832) = true:=decide_eq_true c49;clear c49;obtain ⟨y1596,hy1596⟩ : ∃ y_ : List Int,y_ = (List.replicate ((l0_0.length : Int) : Int).toNat 0):=⟨_,rfl⟩;replace H : (spec_SweepArena.l3 k2 y1576 x9_2 y1596 0 l0_0 ([] : List (S133))) = some (r1,r2):=by first | (rw [hy1596];with_reducible exact H) | (have H2_:=(Option.bind_some _ _).symm.trans H;rw [hy1596];with_reducible exact H2_) | (have H2_:=(Option.bind_some _ _).symm.trans H;with_reducible exact H2_) | with_reducible exact H | (rw [hy1596];exact H) | exact H
           have Ny1596:=Aside0.mk hy1596;clear hy1596;have H':=Aside0.mk H;clear H;have hnb50:=NB1571_1572.out;have hnc50:=NB1572_1571.out;have hcz51_0 : wr.cell? ⟨gb1571,0,none⟩ = some (.slice A0_0 l0_0.length c0_0):=(blk_cell BK1571.out 0).trans rfl;have hfz51_0:=blk_frozen BK1571.out 0;go_wp2_with (first | ((with_reducible refine gate_dst (N:=82) rfl ?_);refine Kd.R_make (Kd.int .i64) _ 3 rfl (N:=82) rfl 26 _ _ rfl (l0_0.length : Int) rfl rfl Try.underlying26 (.int .i64 0) 8 info3 rfl (by decide) (by omega) 0 (ok:=fun _=>True) (okp:=fun _=>True) rfl (fun _ hk=>hk) trivial (of_decide_eq_true (by first | (with_reducible assumption) | assumption)) (Nat.le_trans (Nat.mul_le_mul_right _ (of_decide_eq_true (by first | (with_reducible assumption) | assumption) : (l0_0.length : Int).toNat ≤ 35184372088832)) (by omega)) (Below.refl _ _) (Nat.le_refl _) ?_;intro v1597 w52 ho53 hb hg_ hnew_;clear hg_ hnew_;(first | rw [← Ny1596.out] at ho53 | (simp only [Int.reduceToNat] at ho53;rw [← Ny1596.out] at ho53));have n0_:=Aside0.mk (Kd.R_elder' (rs HO_6) (Kd.R_base ho53) hb);have n1_:=Aside0.mk (Kd.R_below (rs HO_9) hb);have n2_:=Aside0.mk (Kd.R_lower (Kd.R_new' ho53 (Kd.R_lt (rs HO_6))) (below_size (hs2 HB GE1571 GE1572)));have n3_:=Aside0.mk (blk_below (g:=gb1571) (o:=.cells #[.slice A0_0 l0_0.length c0_0] 44 (0,0)) (bs BK1571) hb);have n4_:=Aside0.mk (blk_below (g:=gb1572) (o:=.cells #[.slice none 0 0] 44 (0,0)) (bs BK1572) hb);have n5_:=Aside0.mk (below_step (hs2 HB GE1571 GE1572) hb);clear HO_6;clear HO_9;clear BK1571;clear BK1572;clear HB;have HO_6:=n0_;have HO_9:=n1_;have HO1598:=n2_;have BK1571:=n3_;have BK1572:=n4_;have HB:=n5_;clear n0_ n1_ n2_ n3_ n4_ n5_;clear hb ho53) | ((with_reducible refine gate_dst (N:=14) rfl ?_);refine box_event ?hg (N:=14) ?hd (cs:=#[.slice none 0 0]) (t:=44) ?hr ?_;(case hd=>rfl);(case hg=>rfl);(case hr=>first | (go_simp;done) | (go_simp;rfl));intro gb1599 hg w54 hbox hb;have n0_:=Aside0.mk (Kd.R_below (rs HO_6) hb);have n1_:=Aside0.mk (Kd.R_below (rs HO_9) hb);have n2_:=Aside0.mk (Kd.R_below (rs HO1598) hb);have n3_:=Aside0.mk (blk_below (g:=gb1571) (o:=.cells #[.slice A0_0 l0_0.length c0_0] 44 (0,0)) (bs BK1571) hb);have n4_:=Aside0.mk (blk_below (g:=gb1572) (o:=.cells #[.slice none 0 0] 44 (0,0)) (bs BK1572) hb);have n5_:=Aside0.mk (below_step (hs2 HB GE1571 GE1572) hb);have n6_:=Aside0.mk (hbox);have n7_:=Aside0.mk ((by rw [hg];exact (below_size (hs2 HB GE1571 GE1572)) : w.heap.size ≤ gb1599));have n8_:=Aside0.mk ((by rw [hg];exact (below_size (hs2 HB GE1571 GE1572)) : w.heap.size ≤ gb1599));have n9_:=Aside0.mk ((by rw [hg];exact Nat.ne_of_lt (blk_lt (g:=gb1571) (o:=.cells #[.slice A0_0 l0_0.length c0_0] 44 (0,0)) (bs BK1571)) : gb1571 ≠ gb1599));have n10_:=Aside0.mk ((by rw [hg];exact Nat.ne_of_gt (blk_lt (g:=gb1571) (o:=.cells #[.slice A0_0 l0_0.length c0_0] 44 (0,0)) (bs BK1571)) : gb1599 ≠ gb1571));have n11_:=Aside0.mk ((by rw [hg];exact Nat.ne_of_lt (blk_lt (g:=gb1572) (o:=.cells #[.slice none 0 0] 44 (0,0)) (bs BK1572)) : gb1572 ≠ gb1599));have n12_:=Aside0.mk ((by rw [hg];exact Nat.ne_of_gt (blk_lt (g:=gb1572) (o:=.cells #[.slice none 0 0] 44 (0,0)) (bs BK1572)) : gb1599 ≠ gb1572));clear HO_6;clear HO_9;clear HO1598;clear BK1571;clear BK1572;clear HB;have HO_6:=n0_;have HO_9:=n1_;have HO1598:=n2_;have BK1571:=n3_;have BK1572:=n4_;have HB:=n5_;have BK1599:=n6_;have GW1599:=n7_;have GE1599:=n8_;have NB1571_1599:=n9_;have NB1599_1571:=n10_;have NB1572_1599:=n11_;have NB1599_1572:=n12_;clear n0_ n1_ n2_ n3_ n4_ n5_ n6_ n7_ n8_ n9_ n10_ n11_ n12_;clear hb hbox hg;have hnb55:=NB1599_1571.out;have hnc55:=NB1571_1599.out;have hnb56:=NB1599_1572.out;have hnc56:=NB1572_1599.out;have hcz57_0 : w54.cell? ⟨gb1599,0,none⟩ = some (.slice none 0 0):=(blk_cell BK1599.out 0).trans rfl;have hfz57_0:=blk_frozen BK1599.out 0));go_loopg [15] k2 (fun kq v15 w'=>∃ (x6_3 : List Int) (x13_3 : List Int) (x15_3 : Int) (x1600000_3 : List (S133)) (u1600000 : Value),v15 = .int .i64 x15_3 ∧ Aside0 (spec_SweepArena.l3 kq x6_3 x9_2 x13_3 x15_3 l0_0 x1600000_3 = some (r1,r2)) ∧ Aside0 (kq ≤ k2) ∧ Aside0 (Kd.R (Kd.int .i64) 3 w' w.heap.size (fun k_=>some k_ ≠ (v1597 : Value).ownBlock) v1577 x6_3) ∧ Aside0 (Kd.R Kd.bool 4 w' w.heap.size (fun _=>True) v1586 x9_2) ∧ Aside0 (Kd.R (Kd.int .i64) 3 w' w.heap.size (fun k_=>some k_ ≠ (v1577 : Value).ownBlock) v1597 x13_3) ∧ Aside0 (Kd.S k133 133 w' w.heap.size (fun k_=>some k_ ≠ (v1577 : Value).ownBlock ∧ some k_ ≠ (v1597 : Value).ownBlock) u1600000 x1600000_3) ∧ Aside0 (w'.heap[gb1571]? = some (.cells #[(.slice A0_0 l0_0.length c0_0)] 44 (0,0))) ∧ Aside0 (w'.heap[gb1572]? = some (.cells #[(.slice none 0 0)] 44 (0,0))) ∧ Aside0 (w'.heap[gb1599]? = some (.cells #[u1600000] 44 (0,0))) ∧ Aside0 (Below w.heap.size w w'));case atStart=>exact ⟨(y1576),(y1596),(0),(([] : List (S133))),(.slice none 0 0),(by first | rfl | (simp;done) | (simp [*];done)),H',⟨Nat.le_refl _⟩,⟨by (with_reducible repeat (first | apply Kd.R_alloc | apply Kd.R_drewN | apply Kd.R_drew));exact Kd.R_mono (Kd.R_far (p:=⟨gb1599,0,none⟩) (Kd.R_types HO_6.out BK1599.out (by decide)) (fun _ hk=>hk.2) (.slice none 0 0)) (fun _ hk=>hk.1.2)⟩,⟨by (with_reducible repeat (first | apply Kd.R_alloc | apply Kd.R_drewN | apply Kd.R_drew));exact Kd.R_mono (Kd.R_far (p:=⟨gb1599,0,none⟩) (Kd.R_types HO_9.out BK1599.out (by decide)) (fun _ hk=>hk.2) (.slice none 0 0)) (fun _ hk=>trivial)⟩,⟨by (with_reducible repeat (first | apply Kd.R_alloc | apply Kd.R_drewN | apply Kd.R_drew));exact Kd.R_mono (Kd.R_far (p:=⟨gb1599,0,none⟩) (Kd.R_types HO1598.out BK1599.out (by decide)) (fun _ hk=>hk.2) (.slice none 0 0)) (fun _ hk=>hk.1.2)⟩,⟨by first | exact Kd.S_nil _ _ _ _ _ | exact Kd.N_nil _ _ _ _ _ | exact Kd.V_nil _ _ _ _ _ | exact Kd.Q_nil _ _ _ _ _ | exact Kd.R_nil _ _ _ _ _⟩,⟨by (with_reducible repeat (first | refine blk_drewN ?_ _ | refine blk_drew ?_ | refine blk_alloc ?_ _));refine blk_far ?_ NB1571_1599.out _;(with_reducible repeat (first | refine blk_drewN ?_ _ | refine blk_drew ?_ | refine blk_alloc ?_ _));exact BK1571.out⟩,⟨by (with_reducible repeat (first | refine blk_drewN ?_ _ | refine blk_drew ?_ | refine blk_alloc ?_ _));refine blk_far ?_ NB1572_1599.out _;(with_reducible repeat (first | refine blk_drewN ?_ _ | refine blk_drew ?_ | refine blk_alloc ?_ _));exact BK1572.out⟩,⟨by (with_reducible repeat (first | refine blk_drewN ?_ _ | refine blk_drew ?_ | refine blk_alloc ?_ _));refine blk_put (cs:=#[.slice none 0 0]) ?_ 0 _ rfl;(with_reducible repeat (first | refine blk_drewN ?_ _ | refine blk_drew ?_ | refine blk_alloc ?_ _));exact BK1599.out⟩,⟨hs3 HB GE1571 GE1572 GE1599⟩⟩
           case round =>
            clear H'
            try clear c1
            try clear p1
            try clear q1
            try clear hx1
            try clear c2
            try clear p2
            try clear c3
            try clear p3
            try clear q3
            try clear hx3
            try clear hf3
            try clear c4
            try clear p4
            try clear q4
            try clear hx4
            try clear hf4
            try clear c5
            try clear p6
            try clear c7
            try clear c9
            try clear c10
            try clear c11
            try clear c13
            try clear c14
            try clear c14b0
            try clear c15
            try clear p15
            try clear q15
            try clear hx15
            try clear c16
            try clear c16b0
            try clear c20
            try clear c21
            try clear c21b0
            try clear c21b1
            try clear c22
            try clear c22b0
            try clear c22b1
            try clear c23
            try clear c27
            try clear c27b0
            try clear c28
            try clear c28b0
            try clear c32
            try clear c32b0
            try clear c33
            try clear c33b0
            try clear c34
            try clear c34b0
            try clear q35
            try clear c36
            try clear p37
            try clear q37
            try clear hx37
            try clear hf37
            try clear p42
            try clear q42
            try clear hx42
            try clear hf42
            try clear c48
            try clear c48b0
            try clear c48b1
            try clear c49
            try clear c49b0
            try clear c49b1
            try clear c50
            try clear c55
            try clear c56
            try clear hcz12_0
            try clear hcz24_0
            try clear hcz51_0
            try clear hcz57_0
            try clear hfz12_0
            try clear hfz24_0
            try clear hfz51_0
            try clear hfz57_0
            try clear hx1580_0
            try clear hx1588_0
            try clear hx1592_0
            try clear hx1594_0
            try clear hx37_0
            try clear hx42_0
            try clear p1
            try clear p15
            try clear p1580
            try clear p1588
            try clear p1592
            try clear p1594
            try clear p2
            try clear p37
            try clear p42
            try clear p6
            try clear q1
            try clear q15
            try clear q1580
            try clear q1588
            try clear q1592
            try clear q1594
            try clear q37
            try clear q42
            obtain ⟨x6_3,x13_3,x15_3,x1600000_3,u1600000,rfl,HA,HK3,HO_6,HO_9,HO_13,HO_1600000,BK1571,BK1572,BK1599,HB⟩:=hrel;cases gk with
            | zero=>exact absurd HA.out (by simp [spec_SweepArena.l3])
            | succ k3 =>
             have H:=HA.out;clear HA;simp only [spec_SweepArena.l3] at H
             by_cases c58 : x15_3 < (l0_0.length : Int)
             ·rw [if_pos c58] at H;have c58b0 : decide (x15_3 < (l0_0.length : Int)) = true:=decide_eq_true c58;clear c58
              by_cases c59 : 0 ≤ x15_3
              ·rw [if_pos c59] at H;have c59b0 : decide (0 ≤ x15_3) = true:=decide_eq_true c59;clear c59
               by_cases c60 : x15_3 < (x9_2.length : Int)
               ·rw [if_pos c60] at H;have c60b0 : decide (x15_3 < (x9_2.length : Int)) = true:=decide_eq_true c60;clear c60;obtain ⟨bq61,hbq61⟩ : ∃ b_ : Bool,b_ = (rdOf false x9_2 x15_3):=⟨_,rfl⟩;replace H : (if bq61 = true then ((some (([] : List Int) : List Int)).bind fun y1602=>(if y1602.length + ((rd_T133 l0_0 x15_3).f1).length < 17592186044416 then (spec_SweepArena.l4 k3 x6_3 x9_2 x13_3 x15_3 0 l0_0 x1600000_3 ((rd_T133 l0_0 x15_3).f0) (y1602 ++ ((rd_T133 l0_0 x15_3).f1))) else (none))) else (spec_SweepArena.l3 k3 x6_3 x9_2 x13_3 (wrap64 (x15_3 + 1)) l0_0 x1600000_3)) = some (r1,r2):=by rw [← hbq61] at H;exact H
                have Nbq61:=Aside0.mk hbq61;clear hbq61
                by_cases c62 : bq61 = true
                ·subst c62;have H1 : ((some (([] : List Int) : List Int)).bind fun y1602=>(if y1602.length + ((rd_T133 l0_0 x15_3).f1).length < 17592186044416 then (spec_SweepArena.l4 k3 x6_3 x9_2 x13_3 x15_3 0 l0_0 x1600000_3 ((rd_T133 l0_0 x15_3).f0) (y1602 ++ ((rd_T133 l0_0 x15_3).f1))) else (none))) = some (r1,r2):=by rw [if_pos rfl] at H;exact H
                 clear H;have H:=H1;clear H1;obtain ⟨y1602,hy1602⟩ : ∃ y_ : List Int,y_ = (([] : List Int)):=⟨_,rfl⟩;replace H : (if y1602.length + ((rd_T133 l0_0 x15_3).f1).length < 17592186044416 then (spec_SweepArena.l4 k3 x6_3 x9_2 x13_3 x15_3 0 l0_0 x1600000_3 ((rd_T133 l0_0 x15_3).f0) (y1602 ++ ((rd_T133 l0_0 x15_3).f1))) else (none)) = some (r1,r2):=by first | (rw [hy1602];with_reducible exact H) | (have H2_:=(Option.bind_some _ _).symm.trans H;rw [hy1602];with_reducible exact H2_) | (have H2_:=(Option.bind_some _ _).symm.trans H;with_reducible exact H2_) | with_reducible exact H | (rw [hy1602];exact H) | exact H
                 have Ny1602:=Aside0.mk hy1602;clear hy1602
                 by_cases c63 : y1602.length + ((rd_T133 l0_0 x15_3).f1).length < 17592186044416
                 ·rw [if_pos c63] at H;have LMc63:=Aside0.mk c63;clear c63;obtain ⟨y1606,hy1606⟩ : ∃ y_ : List Int,y_ = (y1602 ++ ((rd_T133 l0_0 x15_3).f1)):=⟨_,rfl⟩;replace H : (spec_SweepArena.l4 k3 x6_3 x9_2 x13_3 x15_3 0 l0_0 x1600000_3 ((rd_T133 l0_0 x15_3).f0) y1606) = some (r1,r2):=by first | (rw [hy1606];with_reducible exact H) | (have H2_:=(Option.bind_some _ _).symm.trans H;rw [hy1606];with_reducible exact H2_) | (have H2_:=(Option.bind_some _ _).symm.trans H;with_reducible exact H2_) | with_reducible exact H | (rw [hy1606];exact H) | exact H
                  have Ny1606:=Aside0.mk hy1606;clear hy1606;have H':=Aside0.mk H;clear H;have hnb64:=NB1571_1572.out;have hnc64:=NB1572_1571.out;have hnb65:=NB1571_1599.out;have hnc65:=NB1599_1571.out;have hcz66_0 : wr.cell? ⟨gb1571,0,none⟩ = some (.slice A0_0 l0_0.length c0_0):=(blk_cell BK1571.out 0).trans rfl;have hfz66_0:=blk_frozen BK1571.out 0;obtain ⟨Ao67,co67,eo67⟩:=Kd.R_slice HO_9.out;subst eo67;have p1600 : 0 ≤ (x15_3 : Int):=of_decide_eq_true (by first | (with_reducible assumption) | assumption);have q1600 : x15_3 < (x9_2.length : Int):=of_decide_eq_true (by first | (with_reducible assumption) | assumption);obtain ⟨ad1600,e1600,hx1600_0⟩:=Kd.at_bool (Kd.R_reads' HO_9.out).2.2 x15_3 p1600 q1600
                  (try rw [← Nbq61.out] at hx1600_0)
                  cases e1600;replace p1600:=eq_true p1600;replace q1600:=eq_true q1600
                  try go_wp2
                  have n0_:=Aside0.mk (Kd.R_drew HO_6.out);have n1_:=Aside0.mk (Kd.R_drew HO_9.out);have n2_:=Aside0.mk (Kd.R_drew HO_13.out);have n3_:=Aside0.mk (Kd.S_drew HO_1600000.out);have n4_:=Aside0.mk (blk_drew BK1571.out);have n5_:=Aside0.mk (blk_drew BK1572.out);have n6_:=Aside0.mk (blk_drew BK1599.out);have n7_:=Aside0.mk (below_drew1 HB.out);clear HO_6;clear HO_9;clear HO_13;clear HO_1600000;clear BK1571;clear BK1572;clear BK1599;clear HB;have HO_6:=n0_;have HO_9:=n1_;have HO_13:=n2_;have HO_1600000:=n3_;have BK1571:=n4_;have BK1572:=n5_;have BK1599:=n6_;have HB:=n7_;clear n0_ n1_ n2_ n3_ n4_ n5_ n6_ n7_;have p1601 : 0 ≤ (x15_3 : Int):=of_decide_eq_true (by first | (with_reducible assumption) | assumption);have q1601 : x15_3 < (l0_0.length : Int):=of_decide_eq_true (by first | (with_reducible assumption) | assumption);obtain ⟨ad1601,A1601_1,c1601_1,e1601,hx1601_0,hx1601_1,hl1601_1,hi1601_1⟩:=at_T133 HR0_0.out x15_3 p1601 q1601;have hw1601_1:=hx1601_1;have hw1601_0:=hx1601_0
                  (try rw [← Nbq61.out] at hx1601_0)
                  cases e1601;replace hx1601_0:=(HB.out.cell (World.block_lt_of_cell? w _ hx1601_0)).trans hx1601_0;replace hx1601_1:=(HB.out.cell (World.block_lt_of_cell? w _ hx1601_1)).trans hx1601_1;have HR1601_1:=Aside0.mk hi1601_1;have HC1601_1:=Aside0.mk hl1601_1;clear hi1601_1 hl1601_1;replace p1601:=eq_true p1601;replace q1601:=eq_true q1601;have p1605 : 0 ≤ (x15_3 : Int):=of_decide_eq_true (by first | (with_reducible assumption) | assumption);have q1605 : x15_3 < (l0_0.length : Int):=of_decide_eq_true (by first | (with_reducible assumption) | assumption);obtain ⟨ad1605,A1605_1,c1605_1,e1605,hx1605_0,hx1605_1,hl1605_1,hi1605_1⟩:=at_T133 HR0_0.out x15_3 p1605 q1605;have hw1605_1:=hx1605_1;have hw1605_0:=hx1605_0
                  (try rw [← Nbq61.out] at hx1605_0)
                  obtain rfl : ad1601 = ad1605:=(by injection e1605);replace hx1605_0:=(HB.out.cell (World.block_lt_of_cell? w _ hx1605_0)).trans hx1605_0;replace hx1605_1:=(HB.out.cell (World.block_lt_of_cell? w _ hx1605_1)).trans hx1605_1;have HR1605_1:=Aside0.mk hi1605_1;have HC1605_1:=Aside0.mk hl1605_1;clear hi1605_1 hl1605_1;replace p1605:=eq_true p1605;replace q1605:=eq_true q1605;have ea_:=Option.some.inj (hx1601_1.symm.trans hx1605_1);injection ea_ with ea_ en_ ec_;subst ea_;subst ec_;clear en_;refine start_ (n:=17) (S:=fun w'=>w'.cell? ⟨gb1571,0,none⟩ = some (.slice (some ad1601) l0_0.length c0_0) ∧ w'.cell? (ad1601.add ((x15_3).toNat * 2)) = some (.bool ((rd_T133 l0_0 x15_3).f0)) ∧ w'.cell? ⟨(ad1601.add ((x15_3).toNat * 2)).block,(ad1601.add ((x15_3).toNat * 2)).off + 1,none⟩ = some (.slice A1601_1 ((rd_T133 l0_0 x15_3).f1).length c1601_1) ∧ w'.cell? (ad1601.add ((x15_3).toNat * 2)) = some (.bool ((rd_T133 l0_0 x15_3).f0)) ∧ w'.cell? ⟨(ad1601.add ((x15_3).toNat * 2)).block,(ad1601.add ((x15_3).toNat * 2)).off + 1,none⟩ = some (.slice A1601_1 ((rd_T133 l0_0 x15_3).f1).length c1601_1)) (ds:=[]) #[false,false,false,false,false,false,false,false,false,false,false,false,false,false,false,false,false] (by kernel_rfl) rfl rfl ⟨(blk_cell BK1571.out 0).trans rfl,((HB.out.cell (World.block_lt_of_cell? w _ hw1601_0)).trans hw1601_0),((HB.out.cell (World.block_lt_of_cell? w _ hw1601_1)).trans hw1601_1),((HB.out.cell (World.block_lt_of_cell? w _ hw1605_0)).trans hw1605_0),((HB.out.cell (World.block_lt_of_cell? w _ hw1605_1)).trans hw1605_1)⟩ (fun hHeld=>?_);refine with_tabW spec_SweepArena.tab24 spec_SweepArena.bits24 (fun HT_ HW_=>?_);generalize wr.drew = w68 at HO_6 HO_9 HO_13 HO_1600000 BK1571 BK1572 BK1599 HB HR1601_1 HR1605_1 hx1601_0 hx1601_1 hx1605_0 hx1605_1 hHeld ⊢;refine pure_ (i:=0) (N:=some 96) (v:=?_) (a':=?_) #[true,false,false,false,false,false,false,false,false,false,false,false,false,false,false,false,false] rfl rfl (any_of HT_.out (by kernel_rfl)) (fun _ _ _ h=>h) (Or.inl ⟨by rfl,?_⟩) ?_ ?_;rotate_left
                  ·intro w';go_simp;with_reducible rfl
                  rotate_left
                  ·simp only [Act.put,List.setIfInBounds_toArray,List.set_cons_zero,List.set_cons_succ,i64_w,i32_w];rfl
                  refine pure_ (i:=2) (N:=some 98) (v:=?_) (a':=?_) #[true,false,true,false,false,false,false,false,false,false,false,false,false,false,false,false,false] rfl rfl (any_of HT_.out (by kernel_rfl)) (fun _ _ _ h=>h) (Or.inl ⟨by rfl,?_⟩) ?_ ?_;rotate_left
                  ·intro w';go_simp;with_reducible rfl
                  rotate_left
                  ·simp only [Act.put,List.setIfInBounds_toArray,List.set_cons_zero,List.set_cons_succ,i64_w,i32_w];rfl
                  refine pure_ (i:=7) (N:=some 103) (v:=?_) (a':=?_) #[true,false,true,false,false,false,false,true,false,false,false,false,false,false,false,false,false] rfl rfl (any_of HT_.out (by kernel_rfl)) (fun _ _ _ h=>h) (Or.inl ⟨by rfl,?_⟩) ?_ ?_;rotate_left
                  ·intro w';go_simp;with_reducible rfl
                  rotate_left
                  ·simp only [Act.put,List.setIfInBounds_toArray,List.set_cons_zero,List.set_cons_succ,i64_w,i32_w];rfl
                  refine pure_ (i:=9) (N:=some 105) (v:=?_) (a':=?_) #[true,false,true,false,false,false,false,true,false,true,false,false,false,false,false,false,false] rfl rfl (any_of HT_.out (by kernel_rfl)) (fun _ _ _ h=>h) (Or.inl ⟨by rfl,?_⟩) ?_ ?_;rotate_left
                  ·intro w';go_simp;with_reducible rfl
                  rotate_left
                  ·simp only [Act.put,List.setIfInBounds_toArray,List.set_cons_zero,List.set_cons_succ,i64_w,i32_w];rfl
                  refine take_ (i:=1) (N:=some 97) (v:=?_) (a':=?_) #[true,true,true,false,false,false,false,true,false,true,false,false,false,false,false,false,false] rfl rfl (take_ofW HT_.out HW_.out (by kernel_rfl)) (fun _ _ _ h=>h) (Or.inl ⟨by rfl,?_⟩) hHeld ?_ ?_;rotate_left
                  ·rintro w' ⟨s0,s1,s2,s3,s4⟩;go_simp;with_reducible rfl
                  rotate_left
                  ·simp only [Act.put,List.setIfInBounds_toArray,List.set_cons_zero,List.set_cons_succ,i64_w,i32_w];rfl
                  refine pure_ (i:=3) (N:=some 99) (v:=?_) (a':=?_) #[true,true,true,true,false,false,false,true,false,true,false,false,false,false,false,false,false] rfl rfl (any_of HT_.out (by kernel_rfl)) (fun _ _ _ h=>h) (Or.inl ⟨by rfl,?_⟩) ?_ ?_;rotate_left
                  ·intro w';go_simp;with_reducible rfl
                  rotate_left
                  ·simp only [Act.put,List.setIfInBounds_toArray,List.set_cons_zero,List.set_cons_succ,i64_w,i32_w];rfl
                  refine pure_ (i:=4) (N:=some 100) (v:=?_) (a':=?_) #[true,true,true,true,true,false,false,true,false,true,false,false,false,false,false,false,false] rfl rfl (any_of HT_.out (by kernel_rfl)) (fun _ _ _ h=>h) (Or.inl ⟨by rfl,?_⟩) ?_ ?_;rotate_left
                  ·intro w';go_simp;with_reducible rfl
                  rotate_left
                  ·simp only [Act.put,List.setIfInBounds_toArray,List.set_cons_zero,List.set_cons_succ,i64_w,i32_w];rfl
                  refine take_ (i:=5) (N:=some 101) (v:=?_) (a':=?_) #[true,true,true,true,true,true,false,true,false,true,false,false,false,false,false,false,false] rfl rfl (take_ofW HT_.out HW_.out (by kernel_rfl)) (fun _ _ _ h=>h) (Or.inl ⟨by rfl,?_⟩) hHeld ?_ ?_;rotate_left
                  ·rintro w' ⟨s0,s1,s2,s3,s4⟩;go_simp;with_reducible rfl
                  rotate_left
                  ·simp only [Act.put,List.setIfInBounds_toArray,List.set_cons_zero,List.set_cons_succ,i64_w,i32_w];rfl
                  refine take_ (i:=8) (N:=some 104) (v:=?_) (a':=?_) #[true,true,true,true,true,true,false,true,true,true,false,false,false,false,false,false,false] rfl rfl (take_ofW HT_.out HW_.out (by kernel_rfl)) (fun _ _ _ h=>h) (Or.inl ⟨by rfl,?_⟩) hHeld ?_ ?_;rotate_left
                  ·rintro w' ⟨s0,s1,s2,s3,s4⟩;go_simp;with_reducible rfl
                  rotate_left
                  ·simp only [Act.put,List.setIfInBounds_toArray,List.set_cons_zero,List.set_cons_succ,i64_w,i32_w];rfl
                  refine pure_ (i:=10) (N:=some 106) (v:=?_) (a':=?_) #[true,true,true,true,true,true,false,true,true,true,true,false,false,false,false,false,false] rfl rfl (any_of HT_.out (by kernel_rfl)) (fun _ _ _ h=>h) (Or.inl ⟨by rfl,?_⟩) ?_ ?_;rotate_left
                  ·intro w';go_simp;with_reducible rfl
                  rotate_left
                  ·simp only [Act.put,List.setIfInBounds_toArray,List.set_cons_zero,List.set_cons_succ,i64_w,i32_w];rfl
                  refine pure_ (i:=11) (N:=some 107) (v:=?_) (a':=?_) #[true,true,true,true,true,true,false,true,true,true,true,true,false,false,false,false,false] rfl rfl (any_of HT_.out (by kernel_rfl)) (fun _ _ _ h=>h) (Or.inl ⟨by rfl,?_⟩) ?_ ?_;rotate_left
                  ·intro w';go_simp;with_reducible rfl
                  rotate_left
                  ·simp only [Act.put,List.setIfInBounds_toArray,List.set_cons_zero,List.set_cons_succ,i64_w,i32_w];rfl
                  refine take_ (i:=12) (N:=some 108) (v:=?_) (a':=?_) #[true,true,true,true,true,true,false,true,true,true,true,true,true,false,false,false,false] rfl rfl (take_ofW HT_.out HW_.out (by kernel_rfl)) (fun _ _ _ h=>h) (Or.inl ⟨by rfl,?_⟩) hHeld ?_ ?_;rotate_left
                  ·rintro w' ⟨s0,s1,s2,s3,s4⟩;go_simp;with_reducible rfl
                  rotate_left
                  ·simp only [Act.put,List.setIfInBounds_toArray,List.set_cons_zero,List.set_cons_succ,i64_w,i32_w];rfl
                  refine join_ (σ:=Value × Value × Nat) 1 #[true,true,true,true,true,true,true,true,true,true,true,true,true,true,true,true,false] (fun s_=>[(102,s_.1),(109,s_.2.1),(16,.pointer (some ⟨s_.2.2,0,none⟩)),(110,.agg #[.bool ((rd_T133 l0_0 x15_3).f0),s_.2.1])]) (fun s_ w'=>(w'.cell? ⟨gb1571,0,none⟩ = some (.slice (some ad1601) l0_0.length c0_0) ∧ w'.cell? (ad1601.add ((x15_3).toNat * 2)) = some (.bool ((rd_T133 l0_0 x15_3).f0)) ∧ w'.cell? ⟨(ad1601.add ((x15_3).toNat * 2)).block,(ad1601.add ((x15_3).toNat * 2)).off + 1,none⟩ = some (.slice A1601_1 ((rd_T133 l0_0 x15_3).f1).length c1601_1) ∧ w'.cell? (ad1601.add ((x15_3).toNat * 2)) = some (.bool ((rd_T133 l0_0 x15_3).f0)) ∧ w'.cell? ⟨(ad1601.add ((x15_3).toNat * 2)).block,(ad1601.add ((x15_3).toNat * 2)).off + 1,none⟩ = some (.slice A1601_1 ((rd_T133 l0_0 x15_3).f1).length c1601_1)) ∧ (Kd.R (Kd.int .i64) 3 w' w.heap.size (fun k_=>some k_ ≠ (v1597 : Value).ownBlock ∧ some k_ ≠ (v1577 : Value).ownBlock) s_.2.1 y1606) ∧ (Kd.R (Kd.int .i64) 3 w' w.heap.size (fun k_=>some k_ ≠ (s_.2.1 : Value).ownBlock ∧ some k_ ≠ (v1577 : Value).ownBlock) v1597 x13_3) ∧ (Kd.S k133 133 w' w.heap.size (fun k_=>some k_ ≠ (s_.2.1 : Value).ownBlock ∧ some k_ ≠ (v1597 : Value).ownBlock ∧ some k_ ≠ (v1577 : Value).ownBlock ∧ k_ ≠ s_.2.2) u1600000 x1600000_3) ∧ (Kd.R (Kd.int .i64) 3 w' w.heap.size (fun k_=>some k_ ≠ (s_.2.1 : Value).ownBlock ∧ some k_ ≠ (v1597 : Value).ownBlock) v1577 x6_3) ∧ (Kd.R Kd.bool 4 w' w.heap.size (fun _=>True) (.slice (some ad1600) x9_2.length co67) x9_2) ∧ (w'.heap[gb1571]? = some (.cells #[.slice (some ad1601) l0_0.length c0_0] 44 (0,0))) ∧ (w'.heap[gb1572]? = some (.cells #[.slice none 0 0] 44 (0,0))) ∧ (w'.heap[gb1599]? = some (.cells #[u1600000] 44 (0,0))) ∧ (w'.heap[s_.2.2]? = some (.cells #[.bool false,.slice none 0 0] 133 (0,0))) ∧ (w.heap.size ≤ s_.2.2) ∧ (w.heap.size ≤ s_.2.2) ∧ (gb1571 ≠ s_.2.2) ∧ (s_.2.2 ≠ gb1571) ∧ (gb1572 ≠ s_.2.2) ∧ (s_.2.2 ≠ gb1572) ∧ (gb1599 ≠ s_.2.2) ∧ (s_.2.2 ≠ gb1599) ∧ (Below w.heap.size w w')) ?_ ?_;rotate_left
                  ·intro hCont;refine two_ (i:=6) (j:=15) (Ni:=some 102) (Nj:=some 16) #[true,true,true,true,true,true,true,true,true,true,true,true,true,false,false,false,false] #[true,true,true,true,true,true,false,true,true,true,true,true,true,false,false,true,false] rfl rfl rfl rfl (two_of HT_.out (by kernel_rfl)) (by decide) (by decide) (fun K hK=>?_) (fun K hK=>?_)
                   ·skip
                    refine Kd.R_lit_step (Kd.int .i64) _ 3 ?hg (N:=102) ?hd (xs:=([] : List Int)) (inner:=[]) (ok:=fun _=>True) (okp:=fun _=>True) ?hr ?hp (fun _ hk=>hk) trivial (Below.refl _ _) (Nat.le_refl _) (by simp) ?_;(case hd=>rfl);(case hg=>rfl);(case hr=>first | (go_simp;done) | (go_simp;rfl));(case hp=>exact (Reps.none _ _));intro v1603 w69 ho70 hb hg_ hnew_;clear hg_ hnew_
                    (first | rw [← Ny1602.out] at ho70 | (simp only [Int.reduceToNat] at ho70;rw [← Ny1602.out] at ho70))
                    have n0_:=Aside0.mk (Kd.R_elder' (rs HO_6) (Kd.R_base ho70) hb);have n1_:=Aside0.mk (Kd.R_below (rs HO_9) hb);have n2_:=Aside0.mk (Kd.R_elder' (rs HO_13) (Kd.R_base ho70) hb);have n3_:=Aside0.mk (Kd.S_elder' (ss HO_1600000) (Kd.R_base ho70) hb);have n4_:=Aside0.mk (Kd.R_lower (Kd.R_new' (Kd.R_new' ho70 (Kd.R_lt (rs HO_6))) (Kd.R_lt (rs HO_13))) (below_size (hs3 HB GE1571 GE1572 GE1599)));have n5_:=Aside0.mk (blk_below (g:=gb1571) (o:=.cells #[.slice (some ad1601) l0_0.length c0_0] 44 (0,0)) (bs BK1571) hb);have n6_:=Aside0.mk (blk_below (g:=gb1572) (o:=.cells #[.slice none 0 0] 44 (0,0)) (bs BK1572) hb);have n7_:=Aside0.mk (blk_below (g:=gb1599) (o:=.cells #[u1600000] 44 (0,0)) (bs BK1599) hb);have n8_:=Aside0.mk (below_step (hs3 HB GE1571 GE1572 GE1599) hb);clear HO_6;clear HO_9;clear HO_13;clear HO_1600000;clear BK1571;clear BK1572;clear BK1599;clear HB;have HO_6:=n0_;have HO_9:=n1_;have HO_13:=n2_;have HO_1600000:=n3_;have HO1604:=n4_;have BK1571:=n5_;have BK1572:=n6_;have BK1599:=n7_;have HB:=n8_;clear n0_ n1_ n2_ n3_ n4_ n5_ n6_ n7_ n8_;clear hb ho70;refine hK.out _ _ ⟨(blk_cell BK1571.out 0).trans rfl,((HB.out.cell (World.block_lt_of_cell? w _ hw1601_0)).trans hw1601_0),((HB.out.cell (World.block_lt_of_cell? w _ hw1601_1)).trans hw1601_1),((HB.out.cell (World.block_lt_of_cell? w _ hw1605_0)).trans hw1605_0),((HB.out.cell (World.block_lt_of_cell? w _ hw1605_1)).trans hw1605_1)⟩ (fun hHeld=>?_);clear hK K;refine norm_ (a':=?_) ?_ ?_;rotate_left
                    ·show Act.put _ (some 102) _ = _;simp only [Act.put,List.setIfInBounds_toArray,List.set_cons_zero,List.set_cons_succ,i64_w,i32_w];rfl
                    refine two_ (i:=13) (j:=15) (Ni:=some 109) (Nj:=some 16) #[true,true,true,true,true,true,true,true,true,true,true,true,true,true,false,false,false] #[true,true,true,true,true,true,true,true,true,true,true,true,true,false,false,true,false] rfl rfl rfl rfl (two_of HT_.out (by kernel_rfl)) (by decide) (by decide) (fun K hK=>?_) (fun K hK=>?_)
                    ·skip
                     refine Kd.R_append_rows_step (Kd.int .i64) (w0:=w) w.heap.size (by rfl) (.tmp 102) (.tmp 108) 26 3 (.int .i64 0) 8 rfl Try.underlying26 info3 rfl (by decide) (by omega) v1603 y1602 ((rd_T133 l0_0 x15_3).f1) _ _ _ (fun k_=>some k_ ≠ (v1577 : Value).ownBlock ∧ some k_ ≠ (v1597 : Value).ownBlock) (fun _=>False) rfl rfl ?aO ?aR (fun _ _ h=>h) (fun _ h=>h.elim) ?aF ?aB ?aS ?aL ?_
                     (case aR=>repeat (first | exact (Kd.C_below HR1605_1.out HB.out) | (with_reducible refine Kd.C_alloc ?_ _) | (with_reducible refine Kd.C_drewN ?_ _) | (with_reducible refine Kd.C_drew ?_)))
                     (case aB=>exact (hs3 HB GE1571 GE1572 GE1599))
                     (case aF=>exact (fun k_ hk=>⟨Kd.fresh' (Kd.R_lt (rs HO_6)) k_ hk,Kd.fresh' (Kd.R_lt (rs HO_13)) k_ hk⟩))
                     (case aO=>exact (by (with_reducible repeat (first | apply Kd.R_alloc | apply Kd.R_drewN | apply Kd.R_drew));exact Kd.R_mono HO1604.out (fun _ hk=>⟨hk.1.2,hk.2⟩)))
                     (case aS=>exact (below_size (hs3 HB GE1571 GE1572 GE1599)))
                     (case aL=>have:=LMc63.out;omega)
                     intro v1607 w71 ho hb hg hat;rw [← Ny1606.out] at ho;have n0_:=Aside0.mk (Kd.R_after (ok:=(fun k_=>some k_ ≠ (v1597 : Value).ownBlock)) (rs HO_6) hg hat);have n1_:=Aside0.mk (Kd.R_over' (rs HO_9) (Kd.R_typed (rs HO1604)) (by decide) hg);have n2_:=Aside0.mk (Kd.R_after (ok:=(fun k_=>some k_ ≠ (v1577 : Value).ownBlock)) (rs HO_13) hg hat);have n3_:=Aside0.mk (Kd.S_after (ok:=(fun k_=>some k_ ≠ (v1577 : Value).ownBlock ∧ some k_ ≠ (v1597 : Value).ownBlock)) (ss HO_1600000) hg hat);have n4_:=Aside0.mk (blk_grown (g:=gb1571) (o:=.cells #[.slice (some ad1601) l0_0.length c0_0] 44 (0,0)) (bs BK1571) hg (Kd.R_ne HO1604.out BK1571.out (by decide)));have n5_:=Aside0.mk (blk_grown (g:=gb1572) (o:=.cells #[.slice none 0 0] 44 (0,0)) (bs BK1572) hg (Kd.R_ne HO1604.out BK1572.out (by decide)));have n6_:=Aside0.mk (blk_grown (g:=gb1599) (o:=.cells #[u1600000] 44 (0,0)) (bs BK1599) hg (Kd.R_ne HO1604.out BK1599.out (by decide)));have n7_:=Aside0.mk (hb);have n8_:=Aside0.mk (ho);clear HO_6;clear HO_9;clear HO_13;clear HO_1600000;clear BK1571;clear BK1572;clear BK1599;clear HB;clear HO1604;have HO_6:=n0_;have HO_9:=n1_;have HO_13:=n2_;have HO_1600000:=n3_;have BK1571:=n4_;have BK1572:=n5_;have BK1599:=n6_;have HB:=n7_;have HO1608:=n8_;clear n0_ n1_ n2_ n3_ n4_ n5_ n6_ n7_ n8_;clear ho hb hg hat;obtain ⟨Ao72,co72,eo72⟩:=Kd.R_slice HO1608.out
                     (first | subst eo72 | (injection eo72 with f1_ f2_ f3_;have f4_:=f1_.symm;have f5_:=f3_.symm;clear f1_ f2_ f3_;subst f4_;subst f5_))
                     refine hK.out _ _ ⟨(blk_cell BK1571.out 0).trans rfl,((HB.out.cell (World.block_lt_of_cell? w _ hw1601_0)).trans hw1601_0),((HB.out.cell (World.block_lt_of_cell? w _ hw1601_1)).trans hw1601_1),((HB.out.cell (World.block_lt_of_cell? w _ hw1605_0)).trans hw1605_0),((HB.out.cell (World.block_lt_of_cell? w _ hw1605_1)).trans hw1605_1)⟩ (fun hHeld=>?_);clear hK K;refine norm_ (a':=?_) ?_ ?_;rotate_left
                     ·show Act.put _ (some 109) _ = _;simp only [Act.put,List.setIfInBounds_toArray,List.set_cons_zero,List.set_cons_succ,i64_w,i32_w];rfl
                     refine pure_ (i:=14) (N:=some 110) (v:=?_) (a':=?_) #[true,true,true,true,true,true,true,true,true,true,true,true,true,true,true,false,false] rfl rfl (any_of HT_.out (by kernel_rfl)) (fun _ _ _ h=>h) (Or.inl ⟨by rfl,?_⟩) ?_ ?_;rotate_left
                     ·intro w';go_simp;with_reducible rfl
                     rotate_left
                     ·simp only [Act.put,List.setIfInBounds_toArray,List.set_cons_zero,List.set_cons_succ,i64_w,i32_w];rfl
                     refine one_ (i:=15) (N:=some 16) #[true,true,true,true,true,true,true,true,true,true,true,true,true,true,true,true,false] rfl rfl (one_of HT_.out (by kernel_rfl)) (by decide) (fun K hK=>?_);refine box_step ?hg (N:=16) ?hd (cs:=#[.bool false,.slice none 0 0]) (t:=133) ?hr ?_;(case hd=>rfl);(case hg=>rfl);(case hr=>first | (go_simp;done) | (go_simp;rfl));intro gb1609 hg w73 hbox hb;have n0_:=Aside0.mk (Kd.R_below (rs HO_6) hb);have n1_:=Aside0.mk (Kd.R_below (rs HO_9) hb);have n2_:=Aside0.mk (Kd.R_below (rs HO_13) hb);have n3_:=Aside0.mk (Kd.S_below (Kd.S_elderB (ss HO_1600000) gb1609 (Nat.le_of_eq hg.symm)) hb);have n4_:=Aside0.mk (Kd.R_below (rs HO1608) hb);have n5_:=Aside0.mk (blk_below (g:=gb1571) (o:=.cells #[.slice (some ad1601) l0_0.length c0_0] 44 (0,0)) (bs BK1571) hb);have n6_:=Aside0.mk (blk_below (g:=gb1572) (o:=.cells #[.slice none 0 0] 44 (0,0)) (bs BK1572) hb);have n7_:=Aside0.mk (blk_below (g:=gb1599) (o:=.cells #[u1600000] 44 (0,0)) (bs BK1599) hb);have n8_:=Aside0.mk (below_step (hs3 HB GE1571 GE1572 GE1599) hb);have n9_:=Aside0.mk (hbox);have n10_:=Aside0.mk ((by rw [hg];exact (below_size (hs3 HB GE1571 GE1572 GE1599)) : w.heap.size ≤ gb1609));have n11_:=Aside0.mk ((by rw [hg];exact (below_size (hs3 HB GE1571 GE1572 GE1599)) : w.heap.size ≤ gb1609));have n12_:=Aside0.mk ((by rw [hg];exact Nat.ne_of_lt (blk_lt (g:=gb1571) (o:=.cells #[.slice (some ad1601) l0_0.length c0_0] 44 (0,0)) (bs BK1571)) : gb1571 ≠ gb1609));have n13_:=Aside0.mk ((by rw [hg];exact Nat.ne_of_gt (blk_lt (g:=gb1571) (o:=.cells #[.slice (some ad1601) l0_0.length c0_0] 44 (0,0)) (bs BK1571)) : gb1609 ≠ gb1571));have n14_:=Aside0.mk ((by rw [hg];exact Nat.ne_of_lt (blk_lt (g:=gb1572) (o:=.cells #[.slice none 0 0] 44 (0,0)) (bs BK1572)) : gb1572 ≠ gb1609));have n15_:=Aside0.mk ((by rw [hg];exact Nat.ne_of_gt (blk_lt (g:=gb1572) (o:=.cells #[.slice none 0 0] 44 (0,0)) (bs BK1572)) : gb1609 ≠ gb1572));have n16_:=Aside0.mk ((by rw [hg];exact Nat.ne_of_lt (blk_lt (g:=gb1599) (o:=.cells #[u1600000] 44 (0,0)) (bs BK1599)) : gb1599 ≠ gb1609));have n17_:=Aside0.mk ((by rw [hg];exact Nat.ne_of_gt (blk_lt (g:=gb1599) (o:=.cells #[u1600000] 44 (0,0)) (bs BK1599)) : gb1609 ≠ gb1599));clear HO_6;clear HO_9;clear HO_13;clear HO_1600000;clear HO1608;clear BK1571;clear BK1572;clear BK1599;clear HB;have HO_6:=n0_;have HO_9:=n1_;have HO_13:=n2_;have HO_1600000:=n3_;have HO1608:=n4_;have BK1571:=n5_;have BK1572:=n6_;have BK1599:=n7_;have HB:=n8_;have BK1609:=n9_;have GW1609:=n10_;have GE1609:=n11_;have NB1571_1609:=n12_;have NB1609_1571:=n13_;have NB1572_1609:=n14_;have NB1609_1572:=n15_;have NB1599_1609:=n16_;have NB1609_1599:=n17_;clear n0_ n1_ n2_ n3_ n4_ n5_ n6_ n7_ n8_ n9_ n10_ n11_ n12_ n13_ n14_ n15_ n16_ n17_;clear hb hbox hg;refine hK.out _ _ ⟨(blk_cell BK1571.out 0).trans rfl,((HB.out.cell (World.block_lt_of_cell? w _ hw1601_0)).trans hw1601_0),((HB.out.cell (World.block_lt_of_cell? w _ hw1601_1)).trans hw1601_1),((HB.out.cell (World.block_lt_of_cell? w _ hw1605_0)).trans hw1605_0),((HB.out.cell (World.block_lt_of_cell? w _ hw1605_1)).trans hw1605_1)⟩ (fun hHeld=>?_);clear hK K;refine norm_ (a':=?_) ?_ ?_;rotate_left
                     ·show Act.put _ (some 16) _ = _;simp only [Act.put,List.setIfInBounds_toArray,List.set_cons_zero,List.set_cons_succ,i64_w,i32_w];rfl
                     exact norm_ (by simp only [putAll,Act.put,List.setIfInBounds_toArray,List.set_cons_zero,List.set_cons_succ]) (hCont (v1603,.slice Ao72 y1606.length co72,gb1609) _ ⟨hHeld,(by (with_reducible repeat (first | apply Kd.R_alloc | apply Kd.R_drewN | apply Kd.R_drew));exact Kd.R_mono HO1608.out (fun _ hk=>⟨hk.2,hk.1⟩)),(by (with_reducible repeat (first | apply Kd.R_alloc | apply Kd.R_drewN | apply Kd.R_drew));exact Kd.R_mono HO_13.out (fun _ hk=>⟨hk.2,hk.1⟩)),(by (with_reducible repeat (first | apply Kd.S_alloc | apply Kd.S_drewN | apply Kd.S_drew));exact Kd.S_mono HO_1600000.out (fun _ hk=>⟨hk.1.2,⟨hk.1.1.2,⟨hk.1.1.1,hk.2⟩⟩⟩)),(by (with_reducible repeat (first | apply Kd.R_alloc | apply Kd.R_drewN | apply Kd.R_drew));exact Kd.R_mono HO_6.out (fun _ hk=>⟨hk.2,hk.1⟩)),(rs HO_9),(bs BK1571),(bs BK1572),(bs BK1599),(bs BK1609),GW1609.out,GE1609.out,NB1571_1609.out,NB1609_1571.out,NB1572_1609.out,NB1609_1572.out,NB1599_1609.out,NB1609_1599.out,(hs4 HB GE1571 GE1572 GE1599 GE1609)⟩)
                    skip
                    refine box_step ?hg (N:=16) ?hd (cs:=#[.bool false,.slice none 0 0]) (t:=133) ?hr ?_;(case hd=>rfl);(case hg=>rfl);(case hr=>first | (go_simp;done) | (go_simp;rfl));intro gb1609 hg w71 hbox hb;have n0_:=Aside0.mk (Kd.R_below (rs HO_6) hb);have n1_:=Aside0.mk (Kd.R_below (rs HO_9) hb);have n2_:=Aside0.mk (Kd.R_below (rs HO_13) hb);have n3_:=Aside0.mk (Kd.S_below (Kd.S_elderB (ss HO_1600000) gb1609 (Nat.le_of_eq hg.symm)) hb);have n4_:=Aside0.mk (Kd.R_below (rs HO1604) hb);have n5_:=Aside0.mk (blk_below (g:=gb1571) (o:=.cells #[.slice (some ad1601) l0_0.length c0_0] 44 (0,0)) (bs BK1571) hb);have n6_:=Aside0.mk (blk_below (g:=gb1572) (o:=.cells #[.slice none 0 0] 44 (0,0)) (bs BK1572) hb);have n7_:=Aside0.mk (blk_below (g:=gb1599) (o:=.cells #[u1600000] 44 (0,0)) (bs BK1599) hb);have n8_:=Aside0.mk (below_step (hs3 HB GE1571 GE1572 GE1599) hb);have n9_:=Aside0.mk (hbox);have n10_:=Aside0.mk ((by rw [hg];exact (below_size (hs3 HB GE1571 GE1572 GE1599)) : w.heap.size ≤ gb1609));have n11_:=Aside0.mk ((by rw [hg];exact (below_size (hs3 HB GE1571 GE1572 GE1599)) : w.heap.size ≤ gb1609));have n12_:=Aside0.mk ((by rw [hg];exact Nat.ne_of_lt (blk_lt (g:=gb1571) (o:=.cells #[.slice (some ad1601) l0_0.length c0_0] 44 (0,0)) (bs BK1571)) : gb1571 ≠ gb1609));have n13_:=Aside0.mk ((by rw [hg];exact Nat.ne_of_gt (blk_lt (g:=gb1571) (o:=.cells #[.slice (some ad1601) l0_0.length c0_0] 44 (0,0)) (bs BK1571)) : gb1609 ≠ gb1571));have n14_:=Aside0.mk ((by rw [hg];exact Nat.ne_of_lt (blk_lt (g:=gb1572) (o:=.cells #[.slice none 0 0] 44 (0,0)) (bs BK1572)) : gb1572 ≠ gb1609));have n15_:=Aside0.mk ((by rw [hg];exact Nat.ne_of_gt (blk_lt (g:=gb1572) (o:=.cells #[.slice none 0 0] 44 (0,0)) (bs BK1572)) : gb1609 ≠ gb1572));have n16_:=Aside0.mk ((by rw [hg];exact Nat.ne_of_lt (blk_lt (g:=gb1599) (o:=.cells #[u1600000] 44 (0,0)) (bs BK1599)) : gb1599 ≠ gb1609));have n17_:=Aside0.mk ((by rw [hg];exact Nat.ne_of_gt (blk_lt (g:=gb1599) (o:=.cells #[u1600000] 44 (0,0)) (bs BK1599)) : gb1609 ≠ gb1599));clear HO_6;clear HO_9;clear HO_13;clear HO_1600000;clear HO1604;clear BK1571;clear BK1572;clear BK1599;clear HB;have HO_6:=n0_;have HO_9:=n1_;have HO_13:=n2_;have HO_1600000:=n3_;have HO1604:=n4_;have BK1571:=n5_;have BK1572:=n6_;have BK1599:=n7_;have HB:=n8_;have BK1609:=n9_;have GW1609:=n10_;have GE1609:=n11_;have NB1571_1609:=n12_;have NB1609_1571:=n13_;have NB1572_1609:=n14_;have NB1609_1572:=n15_;have NB1599_1609:=n16_;have NB1609_1599:=n17_;clear n0_ n1_ n2_ n3_ n4_ n5_ n6_ n7_ n8_ n9_ n10_ n11_ n12_ n13_ n14_ n15_ n16_ n17_;clear hb hbox hg;refine hK.out _ _ ⟨(blk_cell BK1571.out 0).trans rfl,((HB.out.cell (World.block_lt_of_cell? w _ hw1601_0)).trans hw1601_0),((HB.out.cell (World.block_lt_of_cell? w _ hw1601_1)).trans hw1601_1),((HB.out.cell (World.block_lt_of_cell? w _ hw1605_0)).trans hw1605_0),((HB.out.cell (World.block_lt_of_cell? w _ hw1605_1)).trans hw1605_1)⟩ (fun hHeld=>?_);clear hK K;refine norm_ (a':=?_) ?_ ?_;rotate_left
                    ·show Act.put _ (some 16) _ = _;simp only [Act.put,List.setIfInBounds_toArray,List.set_cons_zero,List.set_cons_succ,i64_w,i32_w];rfl
                    refine one_ (i:=13) (N:=some 109) #[true,true,true,true,true,true,true,true,true,true,true,true,true,true,false,true,false] rfl rfl (one_of HT_.out (by kernel_rfl)) (by decide) (fun K hK=>?_);refine Kd.R_append_rows_step (Kd.int .i64) (w0:=w) w.heap.size (by rfl) (.tmp 102) (.tmp 108) 26 3 (.int .i64 0) 8 rfl Try.underlying26 info3 rfl (by decide) (by omega) v1603 y1602 ((rd_T133 l0_0 x15_3).f1) _ _ _ (fun k_=>some k_ ≠ (v1577 : Value).ownBlock ∧ some k_ ≠ (v1597 : Value).ownBlock) (fun _=>False) rfl rfl ?aO ?aR (fun _ _ h=>h) (fun _ h=>h.elim) ?aF ?aB ?aS ?aL ?_
                    (case aR=>repeat (first | exact (Kd.C_below HR1605_1.out HB.out) | (with_reducible refine Kd.C_alloc ?_ _) | (with_reducible refine Kd.C_drewN ?_ _) | (with_reducible refine Kd.C_drew ?_)))
                    (case aB=>exact (hs4 HB GE1571 GE1572 GE1599 GE1609))
                    (case aF=>exact (fun k_ hk=>⟨Kd.fresh' (Kd.R_lt (rs HO_6)) k_ hk,Kd.fresh' (Kd.R_lt (rs HO_13)) k_ hk⟩))
                    (case aO=>exact (by (with_reducible repeat (first | apply Kd.R_alloc | apply Kd.R_drewN | apply Kd.R_drew));exact Kd.R_mono HO1604.out (fun _ hk=>⟨hk.1.2,hk.2⟩)))
                    (case aS=>exact (below_size (hs4 HB GE1571 GE1572 GE1599 GE1609)))
                    (case aL=>have:=LMc63.out;omega)
                    intro v1607 w72 ho hb hg hat;rw [← Ny1606.out] at ho;have n0_:=Aside0.mk (Kd.R_after (ok:=(fun k_=>some k_ ≠ (v1597 : Value).ownBlock)) (rs HO_6) hg hat);have n1_:=Aside0.mk (Kd.R_over' (rs HO_9) (Kd.R_typed (rs HO1604)) (by decide) hg);have n2_:=Aside0.mk (Kd.R_after (ok:=(fun k_=>some k_ ≠ (v1577 : Value).ownBlock)) (rs HO_13) hg hat);have n3_:=Aside0.mk (Kd.S_after (ok:=(fun k_=>some k_ ≠ (v1577 : Value).ownBlock ∧ some k_ ≠ (v1597 : Value).ownBlock ∧ k_ ≠ gb1609)) (by (with_reducible repeat (first | apply Kd.S_alloc | apply Kd.S_drewN | apply Kd.S_drew));exact Kd.S_mono HO_1600000.out (fun _ hk=>⟨⟨hk.1.1.1,⟨hk.1.1.2,hk.2⟩⟩,hk.1.2⟩)) hg hat);have n4_:=Aside0.mk (blk_grown (g:=gb1571) (o:=.cells #[.slice (some ad1601) l0_0.length c0_0] 44 (0,0)) (bs BK1571) hg (Kd.R_ne HO1604.out BK1571.out (by decide)));have n5_:=Aside0.mk (blk_grown (g:=gb1572) (o:=.cells #[.slice none 0 0] 44 (0,0)) (bs BK1572) hg (Kd.R_ne HO1604.out BK1572.out (by decide)));have n6_:=Aside0.mk (blk_grown (g:=gb1599) (o:=.cells #[u1600000] 44 (0,0)) (bs BK1599) hg (Kd.R_ne HO1604.out BK1599.out (by decide)));have n7_:=Aside0.mk (blk_grown (g:=gb1609) (o:=.cells #[.bool false,.slice none 0 0] 133 (0,0)) (bs BK1609) hg (Kd.R_ne HO1604.out BK1609.out (by decide)));have n8_:=Aside0.mk (hb);have n9_:=Aside0.mk (ho);clear HO_6;clear HO_9;clear HO_13;clear HO_1600000;clear BK1571;clear BK1572;clear BK1599;clear BK1609;clear HB;clear HO1604;have HO_6:=n0_;have HO_9:=n1_;have HO_13:=n2_;have HO_1600000:=n3_;have BK1571:=n4_;have BK1572:=n5_;have BK1599:=n6_;have BK1609:=n7_;have HB:=n8_;have HO1608:=n9_;clear n0_ n1_ n2_ n3_ n4_ n5_ n6_ n7_ n8_ n9_;clear ho hb hg hat;obtain ⟨Ao73,co73,eo73⟩:=Kd.R_slice HO1608.out
                    (first | subst eo73 | (injection eo73 with f1_ f2_ f3_;have f4_:=f1_.symm;have f5_:=f3_.symm;clear f1_ f2_ f3_;subst f4_;subst f5_))
                    refine hK.out _ _ ⟨(blk_cell BK1571.out 0).trans rfl,((HB.out.cell (World.block_lt_of_cell? w _ hw1601_0)).trans hw1601_0),((HB.out.cell (World.block_lt_of_cell? w _ hw1601_1)).trans hw1601_1),((HB.out.cell (World.block_lt_of_cell? w _ hw1605_0)).trans hw1605_0),((HB.out.cell (World.block_lt_of_cell? w _ hw1605_1)).trans hw1605_1)⟩ (fun hHeld=>?_);clear hK K;refine norm_ (a':=?_) ?_ ?_;rotate_left
                    ·show Act.put _ (some 109) _ = _;simp only [Act.put,List.setIfInBounds_toArray,List.set_cons_zero,List.set_cons_succ,i64_w,i32_w];rfl
                    refine pure_ (i:=14) (N:=some 110) (v:=?_) (a':=?_) #[true,true,true,true,true,true,true,true,true,true,true,true,true,true,true,true,false] rfl rfl (any_of HT_.out (by kernel_rfl)) (fun _ _ _ h=>h) (Or.inl ⟨by rfl,?_⟩) ?_ ?_;rotate_left
                    ·intro w';go_simp;with_reducible rfl
                    rotate_left
                    ·simp only [Act.put,List.setIfInBounds_toArray,List.set_cons_zero,List.set_cons_succ,i64_w,i32_w];rfl
                    exact norm_ (by simp only [putAll,Act.put,List.setIfInBounds_toArray,List.set_cons_zero,List.set_cons_succ]) (hCont (v1603,.slice Ao73 y1606.length co73,gb1609) _ ⟨hHeld,(by (with_reducible repeat (first | apply Kd.R_alloc | apply Kd.R_drewN | apply Kd.R_drew));exact Kd.R_mono HO1608.out (fun _ hk=>⟨hk.2,hk.1⟩)),(by (with_reducible repeat (first | apply Kd.R_alloc | apply Kd.R_drewN | apply Kd.R_drew));exact Kd.R_mono HO_13.out (fun _ hk=>⟨hk.2,hk.1⟩)),(by (with_reducible repeat (first | apply Kd.S_alloc | apply Kd.S_drewN | apply Kd.S_drew));exact Kd.S_mono HO_1600000.out (fun _ hk=>⟨hk.2,⟨hk.1.2.1,⟨hk.1.1,hk.1.2.2⟩⟩⟩)),(by (with_reducible repeat (first | apply Kd.R_alloc | apply Kd.R_drewN | apply Kd.R_drew));exact Kd.R_mono HO_6.out (fun _ hk=>⟨hk.2,hk.1⟩)),(rs HO_9),(bs BK1571),(bs BK1572),(bs BK1599),(bs BK1609),GW1609.out,GE1609.out,NB1571_1609.out,NB1609_1571.out,NB1572_1609.out,NB1609_1572.out,NB1599_1609.out,NB1609_1599.out,(hs4 HB GE1571 GE1572 GE1599 GE1609)⟩)
                   skip
                   refine box_step ?hg (N:=16) ?hd (cs:=#[.bool false,.slice none 0 0]) (t:=133) ?hr ?_;(case hd=>rfl);(case hg=>rfl);(case hr=>first | (go_simp;done) | (go_simp;rfl));intro gb1609 hg w69 hbox hb;have n0_:=Aside0.mk (Kd.R_below (rs HO_6) hb);have n1_:=Aside0.mk (Kd.R_below (rs HO_9) hb);have n2_:=Aside0.mk (Kd.R_below (rs HO_13) hb);have n3_:=Aside0.mk (Kd.S_below (Kd.S_elderB (ss HO_1600000) gb1609 (Nat.le_of_eq hg.symm)) hb);have n4_:=Aside0.mk (blk_below (g:=gb1571) (o:=.cells #[.slice (some ad1601) l0_0.length c0_0] 44 (0,0)) (bs BK1571) hb);have n5_:=Aside0.mk (blk_below (g:=gb1572) (o:=.cells #[.slice none 0 0] 44 (0,0)) (bs BK1572) hb);have n6_:=Aside0.mk (blk_below (g:=gb1599) (o:=.cells #[u1600000] 44 (0,0)) (bs BK1599) hb);have n7_:=Aside0.mk (below_step (hs3 HB GE1571 GE1572 GE1599) hb);have n8_:=Aside0.mk (hbox);have n9_:=Aside0.mk ((by rw [hg];exact (below_size (hs3 HB GE1571 GE1572 GE1599)) : w.heap.size ≤ gb1609));have n10_:=Aside0.mk ((by rw [hg];exact (below_size (hs3 HB GE1571 GE1572 GE1599)) : w.heap.size ≤ gb1609));have n11_:=Aside0.mk ((by rw [hg];exact Nat.ne_of_lt (blk_lt (g:=gb1571) (o:=.cells #[.slice (some ad1601) l0_0.length c0_0] 44 (0,0)) (bs BK1571)) : gb1571 ≠ gb1609));have n12_:=Aside0.mk ((by rw [hg];exact Nat.ne_of_gt (blk_lt (g:=gb1571) (o:=.cells #[.slice (some ad1601) l0_0.length c0_0] 44 (0,0)) (bs BK1571)) : gb1609 ≠ gb1571));have n13_:=Aside0.mk ((by rw [hg];exact Nat.ne_of_lt (blk_lt (g:=gb1572) (o:=.cells #[.slice none 0 0] 44 (0,0)) (bs BK1572)) : gb1572 ≠ gb1609));have n14_:=Aside0.mk ((by rw [hg];exact Nat.ne_of_gt (blk_lt (g:=gb1572) (o:=.cells #[.slice none 0 0] 44 (0,0)) (bs BK1572)) : gb1609 ≠ gb1572));have n15_:=Aside0.mk ((by rw [hg];exact Nat.ne_of_lt (blk_lt (g:=gb1599) (o:=.cells #[u1600000] 44 (0,0)) (bs BK1599)) : gb1599 ≠ gb1609));have n16_:=Aside0.mk ((by rw [hg];exact Nat.ne_of_gt (blk_lt (g:=gb1599) (o:=.cells #[u1600000] 44 (0,0)) (bs BK1599)) : gb1609 ≠ gb1599));clear HO_6;clear HO_9;clear HO_13;clear HO_1600000;clear BK1571;clear BK1572;clear BK1599;clear HB;have HO_6:=n0_;have HO_9:=n1_;have HO_13:=n2_;have HO_1600000:=n3_;have BK1571:=n4_;have BK1572:=n5_;have BK1599:=n6_;have HB:=n7_;have BK1609:=n8_;have GW1609:=n9_;have GE1609:=n10_;have NB1571_1609:=n11_;have NB1609_1571:=n12_;have NB1572_1609:=n13_;have NB1609_1572:=n14_;have NB1599_1609:=n15_;have NB1609_1599:=n16_;clear n0_ n1_ n2_ n3_ n4_ n5_ n6_ n7_ n8_ n9_ n10_ n11_ n12_ n13_ n14_ n15_ n16_;clear hb hbox hg;refine hK.out _ _ ⟨(blk_cell BK1571.out 0).trans rfl,((HB.out.cell (World.block_lt_of_cell? w _ hw1601_0)).trans hw1601_0),((HB.out.cell (World.block_lt_of_cell? w _ hw1601_1)).trans hw1601_1),((HB.out.cell (World.block_lt_of_cell? w _ hw1605_0)).trans hw1605_0),((HB.out.cell (World.block_lt_of_cell? w _ hw1605_1)).trans hw1605_1)⟩ (fun hHeld=>?_);clear hK K;refine norm_ (a':=?_) ?_ ?_;rotate_left
                   ·show Act.put _ (some 16) _ = _;simp only [Act.put,List.setIfInBounds_toArray,List.set_cons_zero,List.set_cons_succ,i64_w,i32_w];rfl
                   refine one_ (i:=6) (N:=some 102) #[true,true,true,true,true,true,true,true,true,true,true,true,true,false,false,true,false] rfl rfl (one_of HT_.out (by kernel_rfl)) (by decide) (fun K hK=>?_);refine Kd.R_lit_step (Kd.int .i64) _ 3 ?hg (N:=102) ?hd (xs:=([] : List Int)) (inner:=[]) (ok:=fun _=>True) (okp:=fun _=>True) ?hr ?hp (fun _ hk=>hk) trivial (Below.refl _ _) (Nat.le_refl _) (by simp) ?_;(case hd=>rfl);(case hg=>rfl);(case hr=>first | (go_simp;done) | (go_simp;rfl));(case hp=>exact (Reps.none _ _));intro v1603 w70 ho71 hb hg_ hnew_;clear hg_ hnew_
                   (first | rw [← Ny1602.out] at ho71 | (simp only [Int.reduceToNat] at ho71;rw [← Ny1602.out] at ho71))
                   have n0_:=Aside0.mk (Kd.R_elder' (rs HO_6) (Kd.R_base ho71) hb);have n1_:=Aside0.mk (Kd.R_below (rs HO_9) hb);have n2_:=Aside0.mk (Kd.R_elder' (rs HO_13) (Kd.R_base ho71) hb);have n3_:=Aside0.mk (Kd.S_elder' (ss HO_1600000) (Kd.R_base ho71) hb);have n4_:=Aside0.mk (Kd.R_lower (Kd.R_new' (Kd.R_new' ho71 (Kd.R_lt (rs HO_6))) (Kd.R_lt (rs HO_13))) (below_size (hs4 HB GE1571 GE1572 GE1599 GE1609)));have n5_:=Aside0.mk (blk_below (g:=gb1571) (o:=.cells #[.slice (some ad1601) l0_0.length c0_0] 44 (0,0)) (bs BK1571) hb);have n6_:=Aside0.mk (blk_below (g:=gb1572) (o:=.cells #[.slice none 0 0] 44 (0,0)) (bs BK1572) hb);have n7_:=Aside0.mk (blk_below (g:=gb1599) (o:=.cells #[u1600000] 44 (0,0)) (bs BK1599) hb);have n8_:=Aside0.mk (blk_below (g:=gb1609) (o:=.cells #[.bool false,.slice none 0 0] 133 (0,0)) (bs BK1609) hb);have n9_:=Aside0.mk (below_step (hs4 HB GE1571 GE1572 GE1599 GE1609) hb);clear HO_6;clear HO_9;clear HO_13;clear HO_1600000;clear BK1571;clear BK1572;clear BK1599;clear BK1609;clear HB;have HO_6:=n0_;have HO_9:=n1_;have HO_13:=n2_;have HO_1600000:=n3_;have HO1604:=n4_;have BK1571:=n5_;have BK1572:=n6_;have BK1599:=n7_;have BK1609:=n8_;have HB:=n9_;clear n0_ n1_ n2_ n3_ n4_ n5_ n6_ n7_ n8_ n9_;clear hb ho71;refine hK.out _ _ ⟨(blk_cell BK1571.out 0).trans rfl,((HB.out.cell (World.block_lt_of_cell? w _ hw1601_0)).trans hw1601_0),((HB.out.cell (World.block_lt_of_cell? w _ hw1601_1)).trans hw1601_1),((HB.out.cell (World.block_lt_of_cell? w _ hw1605_0)).trans hw1605_0),((HB.out.cell (World.block_lt_of_cell? w _ hw1605_1)).trans hw1605_1)⟩ (fun hHeld=>?_);clear hK K;refine norm_ (a':=?_) ?_ ?_;rotate_left
                   ·show Act.put _ (some 102) _ = _;simp only [Act.put,List.setIfInBounds_toArray,List.set_cons_zero,List.set_cons_succ,i64_w,i32_w];rfl
                   refine one_ (i:=13) (N:=some 109) #[true,true,true,true,true,true,true,true,true,true,true,true,true,true,false,true,false] rfl rfl (one_of HT_.out (by kernel_rfl)) (by decide) (fun K hK=>?_);refine Kd.R_append_rows_step (Kd.int .i64) (w0:=w) w.heap.size (by rfl) (.tmp 102) (.tmp 108) 26 3 (.int .i64 0) 8 rfl Try.underlying26 info3 rfl (by decide) (by omega) v1603 y1602 ((rd_T133 l0_0 x15_3).f1) _ _ _ (fun k_=>some k_ ≠ (v1577 : Value).ownBlock ∧ some k_ ≠ (v1597 : Value).ownBlock) (fun _=>False) rfl rfl ?aO ?aR (fun _ _ h=>h) (fun _ h=>h.elim) ?aF ?aB ?aS ?aL ?_
                   (case aR=>repeat (first | exact (Kd.C_below HR1605_1.out HB.out) | (with_reducible refine Kd.C_alloc ?_ _) | (with_reducible refine Kd.C_drewN ?_ _) | (with_reducible refine Kd.C_drew ?_)))
                   (case aB=>exact (hs4 HB GE1571 GE1572 GE1599 GE1609))
                   (case aF=>exact (fun k_ hk=>⟨Kd.fresh' (Kd.R_lt (rs HO_6)) k_ hk,Kd.fresh' (Kd.R_lt (rs HO_13)) k_ hk⟩))
                   (case aO=>exact (by (with_reducible repeat (first | apply Kd.R_alloc | apply Kd.R_drewN | apply Kd.R_drew));exact Kd.R_mono HO1604.out (fun _ hk=>⟨hk.1.2,hk.2⟩)))
                   (case aS=>exact (below_size (hs4 HB GE1571 GE1572 GE1599 GE1609)))
                   (case aL=>have:=LMc63.out;omega)
                   intro v1607 w72 ho hb hg hat;rw [← Ny1606.out] at ho;have n0_:=Aside0.mk (Kd.R_after (ok:=(fun k_=>some k_ ≠ (v1597 : Value).ownBlock)) (rs HO_6) hg hat);have n1_:=Aside0.mk (Kd.R_over' (rs HO_9) (Kd.R_typed (rs HO1604)) (by decide) hg);have n2_:=Aside0.mk (Kd.R_after (ok:=(fun k_=>some k_ ≠ (v1577 : Value).ownBlock)) (rs HO_13) hg hat);have n3_:=Aside0.mk (Kd.S_after (ok:=(fun k_=>some k_ ≠ (v1577 : Value).ownBlock ∧ some k_ ≠ (v1597 : Value).ownBlock ∧ k_ ≠ gb1609)) (by (with_reducible repeat (first | apply Kd.S_alloc | apply Kd.S_drewN | apply Kd.S_drew));exact Kd.S_mono HO_1600000.out (fun _ hk=>⟨⟨hk.1.1.1,⟨hk.1.1.2,hk.1.2⟩⟩,hk.2⟩)) hg hat);have n4_:=Aside0.mk (blk_grown (g:=gb1571) (o:=.cells #[.slice (some ad1601) l0_0.length c0_0] 44 (0,0)) (bs BK1571) hg (Kd.R_ne HO1604.out BK1571.out (by decide)));have n5_:=Aside0.mk (blk_grown (g:=gb1572) (o:=.cells #[.slice none 0 0] 44 (0,0)) (bs BK1572) hg (Kd.R_ne HO1604.out BK1572.out (by decide)));have n6_:=Aside0.mk (blk_grown (g:=gb1599) (o:=.cells #[u1600000] 44 (0,0)) (bs BK1599) hg (Kd.R_ne HO1604.out BK1599.out (by decide)));have n7_:=Aside0.mk (blk_grown (g:=gb1609) (o:=.cells #[.bool false,.slice none 0 0] 133 (0,0)) (bs BK1609) hg (Kd.R_ne HO1604.out BK1609.out (by decide)));have n8_:=Aside0.mk (hb);have n9_:=Aside0.mk (ho);clear HO_6;clear HO_9;clear HO_13;clear HO_1600000;clear BK1571;clear BK1572;clear BK1599;clear BK1609;clear HB;clear HO1604;have HO_6:=n0_;have HO_9:=n1_;have HO_13:=n2_;have HO_1600000:=n3_;have BK1571:=n4_;have BK1572:=n5_;have BK1599:=n6_;have BK1609:=n7_;have HB:=n8_;have HO1608:=n9_;clear n0_ n1_ n2_ n3_ n4_ n5_ n6_ n7_ n8_ n9_;clear ho hb hg hat;obtain ⟨Ao73,co73,eo73⟩:=Kd.R_slice HO1608.out
                   (first | subst eo73 | (injection eo73 with f1_ f2_ f3_;have f4_:=f1_.symm;have f5_:=f3_.symm;clear f1_ f2_ f3_;subst f4_;subst f5_))
                   refine hK.out _ _ ⟨(blk_cell BK1571.out 0).trans rfl,((HB.out.cell (World.block_lt_of_cell? w _ hw1601_0)).trans hw1601_0),((HB.out.cell (World.block_lt_of_cell? w _ hw1601_1)).trans hw1601_1),((HB.out.cell (World.block_lt_of_cell? w _ hw1605_0)).trans hw1605_0),((HB.out.cell (World.block_lt_of_cell? w _ hw1605_1)).trans hw1605_1)⟩ (fun hHeld=>?_);clear hK K;refine norm_ (a':=?_) ?_ ?_;rotate_left
                   ·show Act.put _ (some 109) _ = _;simp only [Act.put,List.setIfInBounds_toArray,List.set_cons_zero,List.set_cons_succ,i64_w,i32_w];rfl
                   refine pure_ (i:=14) (N:=some 110) (v:=?_) (a':=?_) #[true,true,true,true,true,true,true,true,true,true,true,true,true,true,true,true,false] rfl rfl (any_of HT_.out (by kernel_rfl)) (fun _ _ _ h=>h) (Or.inl ⟨by rfl,?_⟩) ?_ ?_;rotate_left
                   ·intro w';go_simp;with_reducible rfl
                   rotate_left
                   ·simp only [Act.put,List.setIfInBounds_toArray,List.set_cons_zero,List.set_cons_succ,i64_w,i32_w];rfl
                   exact norm_ (by simp only [putAll,Act.put,List.setIfInBounds_toArray,List.set_cons_zero,List.set_cons_succ]) (hCont (v1603,.slice Ao73 y1606.length co73,gb1609) _ ⟨hHeld,(by (with_reducible repeat (first | apply Kd.R_alloc | apply Kd.R_drewN | apply Kd.R_drew));exact Kd.R_mono HO1608.out (fun _ hk=>⟨hk.2,hk.1⟩)),(by (with_reducible repeat (first | apply Kd.R_alloc | apply Kd.R_drewN | apply Kd.R_drew));exact Kd.R_mono HO_13.out (fun _ hk=>⟨hk.2,hk.1⟩)),(by (with_reducible repeat (first | apply Kd.S_alloc | apply Kd.S_drewN | apply Kd.S_drew));exact Kd.S_mono HO_1600000.out (fun _ hk=>⟨hk.2,⟨hk.1.2.1,⟨hk.1.1,hk.1.2.2⟩⟩⟩)),(by (with_reducible repeat (first | apply Kd.R_alloc | apply Kd.R_drewN | apply Kd.R_drew));exact Kd.R_mono HO_6.out (fun _ hk=>⟨hk.2,hk.1⟩)),(rs HO_9),(bs BK1571),(bs BK1572),(bs BK1599),(bs BK1609),GW1609.out,GE1609.out,NB1571_1609.out,NB1609_1571.out,NB1572_1609.out,NB1609_1572.out,NB1599_1609.out,NB1609_1599.out,(hs4 HB GE1571 GE1572 GE1599 GE1609)⟩)
                  rintro ⟨v1603,v1607,gb1609⟩ w74 ⟨hS_,h0_,h1_,h2_,h3_,h4_,h5_,h6_,h7_,h8_,h9_,h10_,h11_,h12_,h13_,h14_,h15_,h16_,h17_⟩;have n0_ : Aside0 (Kd.R (Kd.int .i64) 3 w74 w.heap.size (fun k_=>some k_ ≠ (v1597 : Value).ownBlock ∧ some k_ ≠ (v1577 : Value).ownBlock) v1607 y1606):=⟨h0_⟩;have n1_ : Aside0 (Kd.R (Kd.int .i64) 3 w74 w.heap.size (fun k_=>some k_ ≠ (v1607 : Value).ownBlock ∧ some k_ ≠ (v1577 : Value).ownBlock) v1597 x13_3):=⟨h1_⟩;have n2_ : Aside0 (Kd.S k133 133 w74 w.heap.size (fun k_=>some k_ ≠ (v1607 : Value).ownBlock ∧ some k_ ≠ (v1597 : Value).ownBlock ∧ some k_ ≠ (v1577 : Value).ownBlock ∧ k_ ≠ gb1609) u1600000 x1600000_3):=⟨h2_⟩;have n3_ : Aside0 (Kd.R (Kd.int .i64) 3 w74 w.heap.size (fun k_=>some k_ ≠ (v1607 : Value).ownBlock ∧ some k_ ≠ (v1597 : Value).ownBlock) v1577 x6_3):=⟨h3_⟩;have n4_ : Aside0 (Kd.R Kd.bool 4 w74 w.heap.size (fun _=>True) (.slice (some ad1600) x9_2.length co67) x9_2):=⟨h4_⟩;have n5_ : Aside0 (w74.heap[gb1571]? = some (.cells #[.slice (some ad1601) l0_0.length c0_0] 44 (0,0))):=⟨h5_⟩;have n6_ : Aside0 (w74.heap[gb1572]? = some (.cells #[.slice none 0 0] 44 (0,0))):=⟨h6_⟩;have n7_ : Aside0 (w74.heap[gb1599]? = some (.cells #[u1600000] 44 (0,0))):=⟨h7_⟩;have n8_ : Aside0 (w74.heap[gb1609]? = some (.cells #[.bool false,.slice none 0 0] 133 (0,0))):=⟨h8_⟩;have n9_ : Aside0 (w.heap.size ≤ gb1609):=⟨h9_⟩;have n10_ : Aside0 (w.heap.size ≤ gb1609):=⟨h10_⟩;have n11_ : Aside0 (gb1571 ≠ gb1609):=⟨h11_⟩;have n12_ : Aside0 (gb1609 ≠ gb1571):=⟨h12_⟩;have n13_ : Aside0 (gb1572 ≠ gb1609):=⟨h13_⟩;have n14_ : Aside0 (gb1609 ≠ gb1572):=⟨h14_⟩;have n15_ : Aside0 (gb1599 ≠ gb1609):=⟨h15_⟩;have n16_ : Aside0 (gb1609 ≠ gb1599):=⟨h16_⟩;have n17_ : Aside0 (Below w.heap.size w w74):=⟨h17_⟩;clear HO_6;clear HO_9;clear HO_13;clear HO_1600000;clear BK1571;clear BK1572;clear BK1599;clear HB;clear h0_ h1_ h2_ h3_ h4_ h5_ h6_ h7_ h8_ h9_ h10_ h11_ h12_ h13_ h14_ h15_ h16_ h17_;have HO1608:=n0_;have HO_13:=n1_;have HO_1600000:=n2_;have HO_6:=n3_;have HO_9:=n4_;have BK1571:=n5_;have BK1572:=n6_;have BK1599:=n7_;have BK1609:=n8_;have GW1609:=n9_;have GE1609:=n10_;have NB1571_1609:=n11_;have NB1609_1571:=n12_;have NB1572_1609:=n13_;have NB1609_1572:=n14_;have NB1599_1609:=n15_;have NB1609_1599:=n16_;have HB:=n17_;clear n0_ n1_ n2_ n3_ n4_ n5_ n6_ n7_ n8_ n9_ n10_ n11_ n12_ n13_ n14_ n15_ n16_ n17_;have hHeld : w74.cell? ⟨gb1571,0,none⟩ = some (.slice (some ad1601) l0_0.length c0_0) ∧ w74.cell? (ad1601.add ((x15_3).toNat * 2)) = some (.bool ((rd_T133 l0_0 x15_3).f0)) ∧ w74.cell? ⟨(ad1601.add ((x15_3).toNat * 2)).block,(ad1601.add ((x15_3).toNat * 2)).off + 1,none⟩ = some (.slice A1601_1 ((rd_T133 l0_0 x15_3).f1).length c1601_1) ∧ w74.cell? (ad1601.add ((x15_3).toNat * 2)) = some (.bool ((rd_T133 l0_0 x15_3).f0)) ∧ w74.cell? ⟨(ad1601.add ((x15_3).toNat * 2)).block,(ad1601.add ((x15_3).toNat * 2)).off + 1,none⟩ = some (.slice A1601_1 ((rd_T133 l0_0 x15_3).f1).length c1601_1):=hS_;obtain ⟨Ao75,co75,eo75⟩:=Kd.R_slice HO1608.out
                  (first | subst eo75 | (injection eo75 with f1_ f2_ f3_;have f4_:=f1_.symm;have f5_:=f3_.symm;clear f1_ f2_ f3_;subst f4_;subst f5_))
                  refine norm_ (a':=?_) ?_ ?_;rotate_left
                  ·simp only [putAll,Act.put,List.setIfInBounds_toArray,List.set_cons_zero,List.set_cons_succ];rfl
                  refine one_ (i:=16) (N:=none) #[true,true,true,true,true,true,true,true,true,true,true,true,true,true,true,true,true] rfl rfl (one_of HT_.out (by kernel_rfl)) (by decide) (fun K hK=>?_);have hs76 : w74.cell? ⟨gb1609,0,none⟩ = some (.bool false):=(blk_cell BK1609.out 0).trans rfl;have hfs76:=blk_frozen BK1609.out 0;have hns76_0:=NB1571_1609.out;have hns76_1:=NB1572_1609.out;have hns76_2:=NB1599_1609.out;have hms76_0:=NB1609_1571.out;have hms76_1:=NB1609_1572.out;have hms76_2:=NB1609_1599.out;have hs77 : w74.cell? ⟨gb1609,1,none⟩ = some (.slice none 0 0):=(blk_cell BK1609.out 1).trans rfl;have hfs77:=blk_frozen BK1609.out 1;have hns77_0:=NB1571_1609.out;have hns77_1:=NB1572_1609.out;have hns77_2:=NB1599_1609.out;have hms77_0:=NB1609_1571.out;have hms77_1:=NB1609_1572.out;have hms77_2:=NB1609_1599.out;refine skip_ (w1:=?_) (by rfl) rfl ?_ ?_;rotate_left
                  ·go_simp;rfl
                  refine hK.out _ _ ⟨((cell_far (p:=⟨gb1609,_,none⟩) NB1571_1609.out _).trans (((cell_far (p:=⟨gb1609,_,none⟩) NB1571_1609.out _).trans (hHeld.1)))),((cell_far (p:=⟨gb1609,_,none⟩) (by first | exact Nat.ne_of_lt (Nat.lt_of_lt_of_le (by have:=World.block_lt_of_cell? _ _ hw1601_0;first | rwa [add_block] at this | exact this) GW1609.out) | (rw [add_block];exact Nat.ne_of_lt (Nat.lt_of_lt_of_le (by have:=World.block_lt_of_cell? _ _ hw1601_0;first | rwa [add_block] at this | exact this) GW1609.out)) | (show (Addr.add _ _).block ≠ _;rw [add_block];exact Nat.ne_of_lt (Nat.lt_of_lt_of_le (by have:=World.block_lt_of_cell? _ _ hw1601_0;first | rwa [add_block] at this | exact this) GW1609.out)) | (dsimp only;exact Nat.ne_of_lt (Nat.lt_of_lt_of_le (by have:=World.block_lt_of_cell? _ _ hw1601_0;first | rwa [add_block] at this | exact this) GW1609.out))) _).trans (((cell_far (p:=⟨gb1609,_,none⟩) (by first | exact Nat.ne_of_lt (Nat.lt_of_lt_of_le (by have:=World.block_lt_of_cell? _ _ hw1601_0;first | rwa [add_block] at this | exact this) GW1609.out) | (rw [add_block];exact Nat.ne_of_lt (Nat.lt_of_lt_of_le (by have:=World.block_lt_of_cell? _ _ hw1601_0;first | rwa [add_block] at this | exact this) GW1609.out)) | (show (Addr.add _ _).block ≠ _;rw [add_block];exact Nat.ne_of_lt (Nat.lt_of_lt_of_le (by have:=World.block_lt_of_cell? _ _ hw1601_0;first | rwa [add_block] at this | exact this) GW1609.out)) | (dsimp only;exact Nat.ne_of_lt (Nat.lt_of_lt_of_le (by have:=World.block_lt_of_cell? _ _ hw1601_0;first | rwa [add_block] at this | exact this) GW1609.out))) _).trans (hHeld.2.1)))),((cell_far (p:=⟨gb1609,_,none⟩) (by first | exact Nat.ne_of_lt (Nat.lt_of_lt_of_le (by have:=World.block_lt_of_cell? _ _ hw1601_1;first | rwa [add_block] at this | exact this) GW1609.out) | (rw [add_block];exact Nat.ne_of_lt (Nat.lt_of_lt_of_le (by have:=World.block_lt_of_cell? _ _ hw1601_1;first | rwa [add_block] at this | exact this) GW1609.out)) | (show (Addr.add _ _).block ≠ _;rw [add_block];exact Nat.ne_of_lt (Nat.lt_of_lt_of_le (by have:=World.block_lt_of_cell? _ _ hw1601_1;first | rwa [add_block] at this | exact this) GW1609.out)) | (dsimp only;exact Nat.ne_of_lt (Nat.lt_of_lt_of_le (by have:=World.block_lt_of_cell? _ _ hw1601_1;first | rwa [add_block] at this | exact this) GW1609.out))) _).trans (((cell_far (p:=⟨gb1609,_,none⟩) (by first | exact Nat.ne_of_lt (Nat.lt_of_lt_of_le (by have:=World.block_lt_of_cell? _ _ hw1601_1;first | rwa [add_block] at this | exact this) GW1609.out) | (rw [add_block];exact Nat.ne_of_lt (Nat.lt_of_lt_of_le (by have:=World.block_lt_of_cell? _ _ hw1601_1;first | rwa [add_block] at this | exact this) GW1609.out)) | (show (Addr.add _ _).block ≠ _;rw [add_block];exact Nat.ne_of_lt (Nat.lt_of_lt_of_le (by have:=World.block_lt_of_cell? _ _ hw1601_1;first | rwa [add_block] at this | exact this) GW1609.out)) | (dsimp only;exact Nat.ne_of_lt (Nat.lt_of_lt_of_le (by have:=World.block_lt_of_cell? _ _ hw1601_1;first | rwa [add_block] at this | exact this) GW1609.out))) _).trans (hHeld.2.2.1)))),((cell_far (p:=⟨gb1609,_,none⟩) (by first | exact Nat.ne_of_lt (Nat.lt_of_lt_of_le (by have:=World.block_lt_of_cell? _ _ hw1605_0;first | rwa [add_block] at this | exact this) GW1609.out) | (rw [add_block];exact Nat.ne_of_lt (Nat.lt_of_lt_of_le (by have:=World.block_lt_of_cell? _ _ hw1605_0;first | rwa [add_block] at this | exact this) GW1609.out)) | (show (Addr.add _ _).block ≠ _;rw [add_block];exact Nat.ne_of_lt (Nat.lt_of_lt_of_le (by have:=World.block_lt_of_cell? _ _ hw1605_0;first | rwa [add_block] at this | exact this) GW1609.out)) | (dsimp only;exact Nat.ne_of_lt (Nat.lt_of_lt_of_le (by have:=World.block_lt_of_cell? _ _ hw1605_0;first | rwa [add_block] at this | exact this) GW1609.out))) _).trans (((cell_far (p:=⟨gb1609,_,none⟩) (by first | exact Nat.ne_of_lt (Nat.lt_of_lt_of_le (by have:=World.block_lt_of_cell? _ _ hw1605_0;first | rwa [add_block] at this | exact this) GW1609.out) | (rw [add_block];exact Nat.ne_of_lt (Nat.lt_of_lt_of_le (by have:=World.block_lt_of_cell? _ _ hw1605_0;first | rwa [add_block] at this | exact this) GW1609.out)) | (show (Addr.add _ _).block ≠ _;rw [add_block];exact Nat.ne_of_lt (Nat.lt_of_lt_of_le (by have:=World.block_lt_of_cell? _ _ hw1605_0;first | rwa [add_block] at this | exact this) GW1609.out)) | (dsimp only;exact Nat.ne_of_lt (Nat.lt_of_lt_of_le (by have:=World.block_lt_of_cell? _ _ hw1605_0;first | rwa [add_block] at this | exact this) GW1609.out))) _).trans (hHeld.2.2.2.1)))),((cell_far (p:=⟨gb1609,_,none⟩) (by first | exact Nat.ne_of_lt (Nat.lt_of_lt_of_le (by have:=World.block_lt_of_cell? _ _ hw1605_1;first | rwa [add_block] at this | exact this) GW1609.out) | (rw [add_block];exact Nat.ne_of_lt (Nat.lt_of_lt_of_le (by have:=World.block_lt_of_cell? _ _ hw1605_1;first | rwa [add_block] at this | exact this) GW1609.out)) | (show (Addr.add _ _).block ≠ _;rw [add_block];exact Nat.ne_of_lt (Nat.lt_of_lt_of_le (by have:=World.block_lt_of_cell? _ _ hw1605_1;first | rwa [add_block] at this | exact this) GW1609.out)) | (dsimp only;exact Nat.ne_of_lt (Nat.lt_of_lt_of_le (by have:=World.block_lt_of_cell? _ _ hw1605_1;first | rwa [add_block] at this | exact this) GW1609.out))) _).trans (((cell_far (p:=⟨gb1609,_,none⟩) (by first | exact Nat.ne_of_lt (Nat.lt_of_lt_of_le (by have:=World.block_lt_of_cell? _ _ hw1605_1;first | rwa [add_block] at this | exact this) GW1609.out) | (rw [add_block];exact Nat.ne_of_lt (Nat.lt_of_lt_of_le (by have:=World.block_lt_of_cell? _ _ hw1605_1;first | rwa [add_block] at this | exact this) GW1609.out)) | (show (Addr.add _ _).block ≠ _;rw [add_block];exact Nat.ne_of_lt (Nat.lt_of_lt_of_le (by have:=World.block_lt_of_cell? _ _ hw1605_1;first | rwa [add_block] at this | exact this) GW1609.out)) | (dsimp only;exact Nat.ne_of_lt (Nat.lt_of_lt_of_le (by have:=World.block_lt_of_cell? _ _ hw1605_1;first | rwa [add_block] at this | exact this) GW1609.out))) _).trans (hHeld.2.2.2.2))))⟩ (fun hHeld=>?_);clear hK K;refine done_ (done_of HT_.out (by kernel_rfl)) ?_
                  try go_wp2
                  (try generalize (Value.agg #[.bool ((rd_T133 l0_0 x15_3).f0),.slice Ao75 y1606.length co75]) = gd110)
                  go_loopg [17] k3 (fun kq v17 w'=>∃ (x6_4 : List Int) (x13_4 : List Int) (x17_4 : Int) (x1610001_4 : List Int) (u1610001 : Value),v17 = .int .i64 x17_4 ∧ Aside0 (spec_SweepArena.l4 kq x6_4 x9_2 x13_4 x15_3 x17_4 l0_0 x1600000_3 ((rd_T133 l0_0 x15_3).f0) x1610001_4 = some (r1,r2)) ∧ Aside0 (kq ≤ k3) ∧ Aside0 (Kd.R (Kd.int .i64) 3 w' w.heap.size (fun k_=>some k_ ≠ (v1597 : Value).ownBlock ∧ some k_ ≠ (u1610001 : Value).ownBlock) v1577 x6_4) ∧ Aside0 (Kd.R Kd.bool 4 w' w.heap.size (fun _=>True) (.slice (some ad1600) x9_2.length co67) x9_2) ∧ Aside0 (Kd.R (Kd.int .i64) 3 w' w.heap.size (fun k_=>some k_ ≠ (v1577 : Value).ownBlock ∧ some k_ ≠ (u1610001 : Value).ownBlock) v1597 x13_4) ∧ Aside0 (Kd.S k133 133 w' w.heap.size (fun k_=>some k_ ≠ (v1577 : Value).ownBlock ∧ some k_ ≠ (v1597 : Value).ownBlock ∧ some k_ ≠ (u1610001 : Value).ownBlock ∧ k_ ≠ gb1609) u1600000 x1600000_3) ∧ Aside0 (Kd.R (Kd.int .i64) 3 w' w.heap.size (fun k_=>some k_ ≠ (v1577 : Value).ownBlock ∧ some k_ ≠ (v1597 : Value).ownBlock) u1610001 x1610001_4) ∧ Aside0 (w'.heap[gb1571]? = some (.cells #[(.slice (some ad1601) l0_0.length c0_0)] 44 (0,0))) ∧ Aside0 (w'.heap[gb1572]? = some (.cells #[(.slice none 0 0)] 44 (0,0))) ∧ Aside0 (w'.heap[gb1599]? = some (.cells #[u1600000] 44 (0,0))) ∧ Aside0 (w'.heap[gb1609]? = some (.cells #[.bool ((rd_T133 l0_0 x15_3).f0),u1610001] 133 (0,0))) ∧ Aside0 (Below w.heap.size w w'));case atStart=>exact ⟨(x6_3),(x13_3),(0),(y1606),(.slice Ao75 y1606.length co75),(by first | rfl | (simp;done) | (simp [*];done)),H',⟨Nat.le_refl _⟩,⟨by (with_reducible repeat (first | apply Kd.R_alloc | apply Kd.R_drewN | apply Kd.R_drew));exact Kd.R_mono (Kd.R_far (p:=⟨gb1609,1,none⟩) (Kd.R_far (p:=⟨gb1609,0,none⟩) (Kd.R_types HO_6.out BK1609.out (by decide)) (fun _ hk=>hk.2) (.bool ((rd_T133 l0_0 x15_3).f0))) (fun _ hk=>hk.2) (.slice Ao75 y1606.length co75)) (fun _ hk=>⟨hk.1.2,hk.1.1⟩)⟩,⟨by (with_reducible repeat (first | apply Kd.R_alloc | apply Kd.R_drewN | apply Kd.R_drew));exact Kd.R_mono (Kd.R_far (p:=⟨gb1609,1,none⟩) (Kd.R_far (p:=⟨gb1609,0,none⟩) (Kd.R_types HO_9.out BK1609.out (by decide)) (fun _ hk=>hk.2) (.bool ((rd_T133 l0_0 x15_3).f0))) (fun _ hk=>hk.2) (.slice Ao75 y1606.length co75)) (fun _ hk=>trivial)⟩,⟨by (with_reducible repeat (first | apply Kd.R_alloc | apply Kd.R_drewN | apply Kd.R_drew));exact Kd.R_mono (Kd.R_far (p:=⟨gb1609,1,none⟩) (Kd.R_far (p:=⟨gb1609,0,none⟩) (Kd.R_types HO_13.out BK1609.out (by decide)) (fun _ hk=>hk.2) (.bool ((rd_T133 l0_0 x15_3).f0))) (fun _ hk=>hk.2) (.slice Ao75 y1606.length co75)) (fun _ hk=>⟨hk.1.2,hk.1.1⟩)⟩,⟨by (with_reducible repeat (first | apply Kd.S_alloc | apply Kd.S_drewN | apply Kd.S_drew));exact Kd.S_mono (Kd.S_far (p:=⟨gb1609,1,none⟩) (Kd.S_far (p:=⟨gb1609,0,none⟩) (Kd.S_mono HO_1600000.out (fun k_ hk=>(⟨hk,hk.2.2.2⟩ : _ ∧ k_ ≠ gb1609))) (fun _ hk=>hk.2) (.bool ((rd_T133 l0_0 x15_3).f0))) (fun _ hk=>hk.2) (.slice Ao75 y1606.length co75)) (fun _ hk=>⟨hk.1.2.2.1,⟨hk.1.2.1,⟨hk.1.1,hk.1.2.2.2⟩⟩⟩)⟩,⟨by (with_reducible repeat (first | apply Kd.R_alloc | apply Kd.R_drewN | apply Kd.R_drew));exact Kd.R_mono (Kd.R_far (p:=⟨gb1609,1,none⟩) (Kd.R_far (p:=⟨gb1609,0,none⟩) (Kd.R_types HO1608.out BK1609.out (by decide)) (fun _ hk=>hk.2) (.bool ((rd_T133 l0_0 x15_3).f0))) (fun _ hk=>hk.2) (.slice Ao75 y1606.length co75)) (fun _ hk=>⟨hk.1.2,hk.1.1⟩)⟩,⟨by (with_reducible repeat (first | refine blk_drewN ?_ _ | refine blk_drew ?_ | refine blk_alloc ?_ _));refine blk_far ?_ NB1571_1609.out _;(with_reducible repeat (first | refine blk_drewN ?_ _ | refine blk_drew ?_ | refine blk_alloc ?_ _));refine blk_far ?_ NB1571_1609.out _;(with_reducible repeat (first | refine blk_drewN ?_ _ | refine blk_drew ?_ | refine blk_alloc ?_ _));exact BK1571.out⟩,⟨by (with_reducible repeat (first | refine blk_drewN ?_ _ | refine blk_drew ?_ | refine blk_alloc ?_ _));refine blk_far ?_ NB1572_1609.out _;(with_reducible repeat (first | refine blk_drewN ?_ _ | refine blk_drew ?_ | refine blk_alloc ?_ _));refine blk_far ?_ NB1572_1609.out _;(with_reducible repeat (first | refine blk_drewN ?_ _ | refine blk_drew ?_ | refine blk_alloc ?_ _));exact BK1572.out⟩,⟨by (with_reducible repeat (first | refine blk_drewN ?_ _ | refine blk_drew ?_ | refine blk_alloc ?_ _));refine blk_far ?_ NB1599_1609.out _;(with_reducible repeat (first | refine blk_drewN ?_ _ | refine blk_drew ?_ | refine blk_alloc ?_ _));refine blk_far ?_ NB1599_1609.out _;(with_reducible repeat (first | refine blk_drewN ?_ _ | refine blk_drew ?_ | refine blk_alloc ?_ _));exact BK1599.out⟩,⟨by (with_reducible repeat (first | refine blk_drewN ?_ _ | refine blk_drew ?_ | refine blk_alloc ?_ _));refine blk_put (cs:=#[.bool ((rd_T133 l0_0 x15_3).f0),.slice none 0 0]) ?_ 1 _ rfl;(with_reducible repeat (first | refine blk_drewN ?_ _ | refine blk_drew ?_ | refine blk_alloc ?_ _));refine blk_put (cs:=#[.bool false,.slice none 0 0]) ?_ 0 _ rfl;(with_reducible repeat (first | refine blk_drewN ?_ _ | refine blk_drew ?_ | refine blk_alloc ?_ _));exact BK1609.out⟩,⟨hs4 HB GE1571 GE1572 GE1599 GE1609⟩⟩
                  case round =>
                   clear H'
                   try clear c1
                   try clear p2
                   try clear c6
                   try clear c16
                   try clear c63
                   obtain ⟨x6_4,x13_4,x17_4,x1610001_4,u1610001,rfl,HA,HK4,HO_6,HO_9,HO_13,HO_1600000,HO_1610001,BK1571,BK1572,BK1599,BK1609,HB⟩:=hrel;cases gk with
                   | zero=>exact absurd HA.out (by simp [spec_SweepArena.l4])
                   | succ k4 =>
                    have H:=HA.out;clear HA;simp only [spec_SweepArena.l4] at H;have HC78:=Aside0.mk H;clear H;go_upto_region 26 with (fail);go_cut [117] (fun v117 wc=>∃ (kq : Nat) (x117_77 : Bool),v117 = .bool x117_77 ∧ Aside0 (spec_SweepArena.j6 kq x6_4 x9_2 x13_4 x15_3 x17_4 x117_77 l0_0 x1600000_3 ((rd_T133 l0_0 x15_3).f0) x1610001_4 = some (r1,r2)) ∧ Aside0 (kq ≤ k4) ∧ Aside0 (Kd.R (Kd.int .i64) 3 wc w.heap.size (fun k_=>some k_ ≠ (v1597 : Value).ownBlock ∧ some k_ ≠ (u1610001 : Value).ownBlock) v1577 x6_4) ∧ Aside0 (Kd.R Kd.bool 4 wc w.heap.size (fun _=>True) (.slice (some ad1600) x9_2.length co67) x9_2) ∧ Aside0 (Kd.R (Kd.int .i64) 3 wc w.heap.size (fun k_=>some k_ ≠ (v1577 : Value).ownBlock ∧ some k_ ≠ (u1610001 : Value).ownBlock) v1597 x13_4) ∧ Aside0 (Kd.S k133 133 wc w.heap.size (fun k_=>some k_ ≠ (v1577 : Value).ownBlock ∧ some k_ ≠ (v1597 : Value).ownBlock ∧ some k_ ≠ (u1610001 : Value).ownBlock ∧ k_ ≠ gb1609) u1600000 x1600000_3) ∧ Aside0 (Kd.R (Kd.int .i64) 3 wc w.heap.size (fun k_=>some k_ ≠ (v1577 : Value).ownBlock ∧ some k_ ≠ (v1597 : Value).ownBlock) u1610001 x1610001_4) ∧ Aside0 (wc.heap[gb1571]? = some (.cells #[(.slice (some ad1601) l0_0.length c0_0)] 44 (0,0))) ∧ Aside0 (wc.heap[gb1572]? = some (.cells #[(.slice none 0 0)] 44 (0,0))) ∧ Aside0 (wc.heap[gb1599]? = some (.cells #[u1600000] 44 (0,0))) ∧ Aside0 (wc.heap[gb1609]? = some (.cells #[.bool ((rd_T133 l0_0 x15_3).f0),u1610001] 133 (0,0))) ∧ Aside0 (Below w.heap.size w wc))
                    case first =>
                     have H:=HC78.out;clear HC78
                     by_cases c79 : x17_4 < 4
                     ·rw [if_pos c79] at H;have c79b0 : decide (x17_4 < 4) = true:=decide_eq_true c79;clear c79
                      (first | rw [c79b0] | (simp only [i64_w,i32_w];rw [c79b0]) | skip)
                      have H':=Aside0.mk H;clear H;have hnb80:=NB1609_1571.out;have hnc80:=NB1571_1609.out;have hnb81:=NB1609_1572.out;have hnc81:=NB1572_1609.out;have hnb82:=NB1609_1599.out;have hnc82:=NB1599_1609.out;have hcz83_0 : wr.cell? ⟨gb1609,0,none⟩ = some (.bool ((rd_T133 l0_0 x15_3).f0)):=(blk_cell BK1609.out 0).trans rfl;have hcz83_1 : wr.cell? ⟨gb1609,1,none⟩ = some (u1610001):=(blk_cell BK1609.out 1).trans rfl;have hfz83_0:=blk_frozen BK1609.out 0;have hfz83_1:=blk_frozen BK1609.out 1
                      go_wp2
                      go_meet
                      case rel=>exact ⟨_,(!((rd_T133 l0_0 x15_3).f0)),(by first | rfl | (simp;done) | (simp [*];done)),H',⟨by have:=HJ4.out;have:=HK2.out;have:=HK3.out;have:=HK4.out;first | omega | exact Nat.le_refl _⟩,⟨rs HO_6⟩,⟨rs HO_9⟩,⟨rs HO_13⟩,⟨ss HO_1600000⟩,⟨rs HO_1610001⟩,⟨bs BK1571⟩,⟨bs BK1572⟩,⟨bs BK1599⟩,⟨bs BK1609⟩,⟨hs4 HB GE1571 GE1572 GE1599 GE1609⟩⟩
                     rw [if_neg c79] at H;have c79b0 : decide (x17_4 < 4) = false:=decide_eq_false c79;clear c79
                     (first | rw [c79b0] | (simp only [i64_w,i32_w];rw [c79b0]) | skip)
                     have H':=Aside0.mk H;clear H
                     go_wp2
                     go_meet
                     case rel=>exact ⟨_,(false),(by first | rfl | (simp;done) | (simp [*];done)),H',⟨by have:=HJ4.out;have:=HK2.out;have:=HK3.out;have:=HK4.out;first | omega | exact Nat.le_refl _⟩,⟨rs HO_6⟩,⟨rs HO_9⟩,⟨rs HO_13⟩,⟨ss HO_1600000⟩,⟨rs HO_1610001⟩,⟨bs BK1571⟩,⟨bs BK1572⟩,⟨bs BK1599⟩,⟨bs BK1609⟩,⟨hs4 HB GE1571 GE1572 GE1599 GE1609⟩⟩
                    case rest =>
                     clear HC78
                     try clear c1
                     try clear p2
                     try clear c6
                     try clear c7
                     try clear c8
                     try clear c16
                     try clear c63
                     try clear c79
                     try clear c79b0
                     try clear c80
                     try clear c81
                     try clear c82
                     try clear hcz83_0
                     try clear hcz83_1
                     try clear hfz83_0
                     try clear hfz83_1
                     try clear p2
                     obtain ⟨kq,x117_77,rfl,HA,HJ77,HO_6,HO_9,HO_13,HO_1600000,HO_1610001,BK1571,BK1572,BK1599,BK1609,HB⟩:=hcut;cases kq with
                     | zero=>exact absurd HA.out (by simp [spec_SweepArena.j6])
                     | succ kj77 =>
                      have H:=HA.out;clear HA;simp only [spec_SweepArena.j6] at H
                      by_cases c84 : x117_77 = true
                      ·subst c84;have H1 : (if 0 ≤ x17_4 then (if x17_4 < (x1610001_4.length : Int) then (if (rd x1610001_4 x17_4) ≥ 0 then (if 0 ≤ (rd x1610001_4 x17_4) then (if (rd x1610001_4 x17_4) < (x13_4.length : Int) then (spec_SweepArena.l4 kj77 x6_4 x9_2 x13_4 x15_3 (wrap64 (x17_4 + 1)) l0_0 x1600000_3 ((rd_T133 l0_0 x15_3).f0) (x1610001_4.set (x17_4 : Int).toNat (rd x13_4 (rd x1610001_4 x17_4)))) else (none)) else (none)) else (spec_SweepArena.l4 kj77 x6_4 x9_2 x13_4 x15_3 (wrap64 (x17_4 + 1)) l0_0 x1600000_3 ((rd_T133 l0_0 x15_3).f0) x1610001_4)) else (none)) else (none)) = some (r1,r2):=by rw [if_pos rfl] at H;exact H
                       clear H;have H:=H1;clear H1
                       by_cases c85 : 0 ≤ x17_4
                       ·rw [if_pos c85] at H;have c85b0 : decide (0 ≤ x17_4) = true:=decide_eq_true c85;clear c85
                        by_cases c86 : x17_4 < (x1610001_4.length : Int)
                        ·rw [if_pos c86] at H;have c86b0 : decide (x17_4 < (x1610001_4.length : Int)) = true:=decide_eq_true c86;clear c86
                         by_cases c87 : (rd x1610001_4 x17_4) ≥ 0
                         ·rw [if_pos c87] at H;have c87b0 : decide (0 ≤ (rd x1610001_4 x17_4)) = true:=decide_eq_true c87;clear c87
                          by_cases c88 : 0 ≤ (rd x1610001_4 x17_4)
                          ·rw [if_pos c88] at H;have c88b0 : decide (0 ≤ (rd x1610001_4 x17_4)) = true:=decide_eq_true c88;clear c88
                           by_cases c89 : (rd x1610001_4 x17_4) < (x13_4.length : Int)
                           ·rw [if_pos c89] at H;have c89b0 : decide ((rd x1610001_4 x17_4) < (x13_4.length : Int)) = true:=decide_eq_true c89;clear c89;obtain ⟨y1613,hy1613⟩ : ∃ y_ : List Int,y_ = (x1610001_4.set (x17_4 : Int).toNat (rd x13_4 (rd x1610001_4 x17_4))):=⟨_,rfl⟩;replace H : (spec_SweepArena.l4 kj77 x6_4 x9_2 x13_4 x15_3 (wrap64 (x17_4 + 1)) l0_0 x1600000_3 ((rd_T133 l0_0 x15_3).f0) y1613) = some (r1,r2):=by first | (rw [hy1613];with_reducible exact H) | (have H2_:=(Option.bind_some _ _).symm.trans H;rw [hy1613];with_reducible exact H2_) | (have H2_:=(Option.bind_some _ _).symm.trans H;with_reducible exact H2_) | with_reducible exact H | (rw [hy1613];exact H) | exact H
                            have Ny1613:=Aside0.mk hy1613;clear hy1613;have H':=Aside0.mk H;clear H;have hnb91:=NB1609_1571.out;have hnc91:=NB1571_1609.out;have hnb92:=NB1609_1572.out;have hnc92:=NB1572_1609.out;have hnb93:=NB1609_1599.out;have hnc93:=NB1599_1609.out;have hcz94_0 : wc.cell? ⟨gb1609,0,none⟩ = some (.bool ((rd_T133 l0_0 x15_3).f0)):=(blk_cell BK1609.out 0).trans rfl;have hcz94_1 : wc.cell? ⟨gb1609,1,none⟩ = some (u1610001):=(blk_cell BK1609.out 1).trans rfl;have hfz94_0:=blk_frozen BK1609.out 0;have hfz94_1:=blk_frozen BK1609.out 1;obtain ⟨Ao95,co95,eo95⟩:=Kd.R_slice HO_1610001.out;subst eo95;have p1610 : 0 ≤ (x17_4 : Int):=of_decide_eq_true (by first | (with_reducible assumption) | assumption);have q1610 : x17_4 < (x1610001_4.length : Int):=of_decide_eq_true (by first | (with_reducible assumption) | assumption);obtain ⟨ad1610,e1610,hx1610_0⟩:=Kd.at_int (Kd.R_reads' HO_1610001.out).2.2 x17_4 p1610 q1610;cases e1610;replace p1610:=eq_true p1610;replace q1610:=eq_true q1610
                            try go_wp2
                            have n0_:=Aside0.mk (Kd.R_drew HO_6.out);have n1_:=Aside0.mk (Kd.R_drew HO_9.out);have n2_:=Aside0.mk (Kd.R_drew HO_13.out);have n3_:=Aside0.mk (Kd.S_drew HO_1600000.out);have n4_:=Aside0.mk (Kd.R_drew HO_1610001.out);have n5_:=Aside0.mk (blk_drew BK1571.out);have n6_:=Aside0.mk (blk_drew BK1572.out);have n7_:=Aside0.mk (blk_drew BK1599.out);have n8_:=Aside0.mk (blk_drew BK1609.out);have n9_:=Aside0.mk (below_drew1 HB.out);clear HO_6;clear HO_9;clear HO_13;clear HO_1600000;clear HO_1610001;clear BK1571;clear BK1572;clear BK1599;clear BK1609;clear HB;have HO_6:=n0_;have HO_9:=n1_;have HO_13:=n2_;have HO_1600000:=n3_;have HO_1610001:=n4_;have BK1571:=n5_;have BK1572:=n6_;have BK1599:=n7_;have BK1609:=n8_;have HB:=n9_;clear n0_ n1_ n2_ n3_ n4_ n5_ n6_ n7_ n8_ n9_;have p1611 : 0 ≤ (x17_4 : Int):=of_decide_eq_true (by first | (with_reducible assumption) | assumption);have q1611 : x17_4 < (x1610001_4.length : Int):=of_decide_eq_true (by first | (with_reducible assumption) | assumption);obtain ⟨ad1611,e1611,hx1611_0⟩:=Kd.at_int (Kd.R_reads' HO_1610001.out).2.2 x17_4 p1611 q1611;obtain rfl : ad1610 = ad1611:=(by injection e1611);replace p1611:=eq_true p1611;replace q1611:=eq_true q1611;obtain ⟨Ao97,co97,eo97⟩:=Kd.R_slice HO_13.out
                            (first | subst eo97 | (injection eo97 with f1_ f2_ f3_;have f4_:=f1_.symm;have f5_:=f3_.symm;clear f1_ f2_ f3_;subst f4_;subst f5_))
                            have p1612 : 0 ≤ ((rd x1610001_4 x17_4) : Int):=of_decide_eq_true (by first | (with_reducible assumption) | assumption);have q1612 : (rd x1610001_4 x17_4) < (x13_4.length : Int):=of_decide_eq_true (by first | (with_reducible assumption) | assumption);obtain ⟨ad1612,e1612,hx1612_0⟩:=Kd.at_int (Kd.R_reads' HO_13.out).2.2 (rd x1610001_4 x17_4) p1612 q1612;cases e1612;replace p1612:=eq_true p1612;replace q1612:=eq_true q1612;have p90 : 0 ≤ (x17_4 : Int):=of_decide_eq_true (by first | (with_reducible assumption) | assumption);have q90 : (x17_4 : Int) < ((x1610001_4.length : Int) : Int):=of_decide_eq_true (by first | (with_reducible assumption) | assumption);obtain ⟨go90,co90,eo90,gb90,gl90,cl90,HG90⟩:=Kd.R_form HO_1610001.out (by omega)
                            (first | cases eo90 | (injection eo90 with ea_ en_ ec_;(first | subst ea_ | (injection ea_ with ea_;subst ea_));subst ec_;clear en_))
                            have GB90:=Aside0.mk gb90;have GG90:=Aside0.mk HG90;clear gb90 gl90 HG90
                            (first | simp only [add_plain] at hx1610_0 | skip)
                            (first | simp only [add_plain] at hx1611_0 | skip)
                            obtain ⟨hx90_0,hf90_0⟩:=Kd.R_celln 0 HO_1610001.out (x17_4 : Int) p90 q90;replace p90:=eq_true p90;replace q90:=eq_true q90;have HP98:=Kd.R_putn HO_1610001.out (x17_4 : Int) (rd x13_4 (rd x1610001_4 x17_4));rw [← Ny1613.out] at HP98;have HQ98:=Aside0.mk HP98;clear HP98;refine start_ (n:=13) (S:=fun w'=>w'.cell? ⟨gb1609,0,none⟩ = some (.bool ((rd_T133 l0_0 x15_3).f0)) ∧ w'.cell? ⟨gb1609,1,none⟩ = some (.slice (some ⟨go90,0,none⟩) x1610001_4.length co95) ∧ w'.cell? ⟨go90,(x17_4).toNat,none⟩ = some (.int .i64 (rd x1610001_4 x17_4)) ∧ w'.cell? (ad1612.add ((rd x1610001_4 x17_4)).toNat) = some (.int .i64 (rd x13_4 (rd x1610001_4 x17_4)))) (ds:=[12]) #[false,false,false,false,false,false,false,false,false,false,false,false,false] (by kernel_rfl) rfl rfl ⟨(blk_cell BK1609.out 0).trans rfl,(blk_cell BK1609.out 1).trans rfl,hx1611_0,hx1612_0⟩ (fun hHeld=>?_);refine with_tabW spec_SweepArena.tab29 spec_SweepArena.bits29 (fun HT_ HW_=>?_);generalize wc.drew = w96 at HO_6 HO_9 HO_13 HO_1600000 HO_1610001 BK1571 BK1572 BK1599 BK1609 HB GG90 HQ98 hf90_0 hx1610_0 hx1611_0 hx1612_0 hx90_0 hHeld ⊢;refine pure_ (i:=0) (N:=some 126) (v:=?_) (a':=?_) #[true,false,false,false,false,false,false,false,false,false,false,false,false] rfl rfl (any_of HT_.out (by kernel_rfl)) (fun _ _ _ h=>h) (Or.inl ⟨by rfl,?_⟩) ?_ ?_;rotate_left
                            ·intro w';go_simp;with_reducible rfl
                            rotate_left
                            ·simp only [Act.put,List.setIfInBounds_toArray,List.set_cons_zero,List.set_cons_succ,i64_w,i32_w];rfl
                            refine pure_ (i:=2) (N:=some 128) (v:=?_) (a':=?_) #[true,false,true,false,false,false,false,false,false,false,false,false,false] rfl rfl (any_of HT_.out (by kernel_rfl)) (fun _ _ _ h=>h) (Or.inl ⟨by rfl,?_⟩) ?_ ?_;rotate_left
                            ·intro w';go_simp;with_reducible rfl
                            rotate_left
                            ·simp only [Act.put,List.setIfInBounds_toArray,List.set_cons_zero,List.set_cons_succ,i64_w,i32_w];rfl
                            refine pure_ (i:=3) (N:=some 129) (v:=?_) (a':=?_) #[true,false,true,true,false,false,false,false,false,false,false,false,false] rfl rfl (any_of HT_.out (by kernel_rfl)) (fun _ _ _ h=>h) (Or.inl ⟨by rfl,?_⟩) ?_ ?_;rotate_left
                            ·intro w';go_simp;with_reducible rfl
                            rotate_left
                            ·simp only [Act.put,List.setIfInBounds_toArray,List.set_cons_zero,List.set_cons_succ,i64_w,i32_w];rfl
                            refine pure_ (i:=4) (N:=some 130) (v:=?_) (a':=?_) #[true,false,true,true,true,false,false,false,false,false,false,false,false] rfl rfl (any_of HT_.out (by kernel_rfl)) (fun _ _ _ h=>h) (Or.inl ⟨by rfl,?_⟩) ?_ ?_;rotate_left
                            ·intro w';go_simp;with_reducible rfl
                            rotate_left
                            ·simp only [Act.put,List.setIfInBounds_toArray,List.set_cons_zero,List.set_cons_succ,i64_w,i32_w];rfl
                            refine pure_ (i:=6) (N:=some 132) (v:=?_) (a':=?_) #[true,false,true,true,true,false,true,false,false,false,false,false,false] rfl rfl (any_of HT_.out (by kernel_rfl)) (fun _ _ _ h=>h) (Or.inl ⟨by rfl,?_⟩) ?_ ?_;rotate_left
                            ·intro w';go_simp;with_reducible rfl
                            rotate_left
                            ·simp only [Act.put,List.setIfInBounds_toArray,List.set_cons_zero,List.set_cons_succ,i64_w,i32_w];rfl
                            refine take_ (i:=1) (N:=some 127) (v:=?_) (a':=?_) #[true,true,true,true,true,false,true,false,false,false,false,false,false] rfl rfl (take_ofW HT_.out HW_.out (by kernel_rfl)) (fun _ _ _ h=>h) (Or.inl ⟨by rfl,?_⟩) hHeld ?_ ?_;rotate_left
                            ·rintro w' ⟨s0,s1,s2,s3⟩;go_simp;with_reducible rfl
                            rotate_left
                            ·simp only [Act.put,List.setIfInBounds_toArray,List.set_cons_zero,List.set_cons_succ,i64_w,i32_w];rfl
                            refine take_ (i:=5) (N:=some 131) (v:=?_) (a':=?_) #[true,true,true,true,true,true,true,false,false,false,false,false,false] rfl rfl (take_ofW HT_.out HW_.out (by kernel_rfl)) (fun _ _ _ h=>h) (Or.inl ⟨by rfl,?_⟩) hHeld ?_ ?_;rotate_left
                            ·rintro w' ⟨s0,s1,s2,s3⟩;go_simp;with_reducible rfl
                            rotate_left
                            ·simp only [Act.put,List.setIfInBounds_toArray,List.set_cons_zero,List.set_cons_succ,i64_w,i32_w];rfl
                            refine pure_ (i:=7) (N:=some 133) (v:=?_) (a':=?_) #[true,true,true,true,true,true,true,true,false,false,false,false,false] rfl rfl (any_of HT_.out (by kernel_rfl)) (fun _ _ _ h=>h) (Or.inl ⟨by rfl,?_⟩) ?_ ?_;rotate_left
                            ·intro w';go_simp;with_reducible rfl
                            rotate_left
                            ·simp only [Act.put,List.setIfInBounds_toArray,List.set_cons_zero,List.set_cons_succ,i64_w,i32_w];rfl
                            refine take_ (i:=8) (N:=some 134) (v:=?_) (a':=?_) #[true,true,true,true,true,true,true,true,true,false,false,false,false] rfl rfl (take_ofW HT_.out HW_.out (by kernel_rfl)) (fun _ _ _ h=>h) (Or.inl ⟨by rfl,?_⟩) hHeld ?_ ?_;rotate_left
                            ·rintro w' ⟨s0,s1,s2,s3⟩;go_simp;with_reducible rfl
                            rotate_left
                            ·simp only [Act.put,List.setIfInBounds_toArray,List.set_cons_zero,List.set_cons_succ,i64_w,i32_w];rfl
                            refine pure_ (i:=9) (N:=some 135) (v:=?_) (a':=?_) #[true,true,true,true,true,true,true,true,true,true,false,false,false] rfl rfl (any_of HT_.out (by kernel_rfl)) (fun _ _ _ h=>h) (Or.inl ⟨by rfl,?_⟩) ?_ ?_;rotate_left
                            ·intro w';go_simp;with_reducible rfl
                            rotate_left
                            ·simp only [Act.put,List.setIfInBounds_toArray,List.set_cons_zero,List.set_cons_succ,i64_w,i32_w];rfl
                            refine take_ (i:=10) (N:=some 136) (v:=?_) (a':=?_) #[true,true,true,true,true,true,true,true,true,true,true,false,false] rfl rfl (take_ofW HT_.out HW_.out (by kernel_rfl)) (fun _ _ _ h=>h) (Or.inl ⟨by rfl,?_⟩) hHeld ?_ ?_;rotate_left
                            ·rintro w' ⟨s0,s1,s2,s3⟩;go_simp;with_reducible rfl
                            rotate_left
                            ·simp only [Act.put,List.setIfInBounds_toArray,List.set_cons_zero,List.set_cons_succ,i64_w,i32_w];rfl
                            refine pure_ (i:=11) (N:=some 137) (v:=?_) (a':=?_) #[true,true,true,true,true,true,true,true,true,true,true,true,false] rfl rfl (any_of HT_.out (by kernel_rfl)) (fun _ _ _ h=>h) (Or.inl ⟨by rfl,?_⟩) ?_ ?_;rotate_left
                            ·intro w';go_simp;with_reducible rfl
                            rotate_left
                            ·simp only [Act.put,List.setIfInBounds_toArray,List.set_cons_zero,List.set_cons_succ,i64_w,i32_w];rfl
                            refine last_ (i:=12) (N:=none) #[true,true,true,true,true,true,true,true,true,true,true,true,true] rfl rfl (one_of HT_.out (by kernel_rfl)) (by decide) (fun K hK=>?_);refine skip_ (w1:=?_) (by rfl) rfl ?_ ?_;rotate_left
                            ·go_simp;rfl
                            refine hK.out _ _ ?_;clear hK K;refine done_ (done_of HT_.out (by kernel_rfl)) ?_
                            try go_wp2
                            go_roundg kj77;case measure=>have:=HJ4.out;have:=HK2.out;have:=HK3.out;have:=HK4.out;have:=HJ77.out;omega
                            case rel=>exact ⟨(x6_4),(x13_4),(wrap64 (x17_4 + 1)),(y1613),(.slice (some ⟨go90,0,none⟩) x1610001_4.length co95),(by first | rfl | (simp;done) | (simp [*];done)),H',⟨by have:=HJ4.out;have:=HK2.out;have:=HK3.out;have:=HK4.out;have:=HJ77.out;omega⟩,⟨by (with_reducible repeat (first | apply Kd.R_alloc | apply Kd.R_drewN | apply Kd.R_drew));exact Kd.R_mono (Kd.R_far (p:=⟨go90,(x17_4 : Int).toNat,none⟩) (Kd.R_mono HO_6.out (fun k_ hk=>(⟨hk,fun e_=>hk.2 (by rw [e_];rfl)⟩ : _ ∧ k_ ≠ go90))) (fun _ hk=>hk.2) (.int .i64 (rd x13_4 (rd x1610001_4 x17_4)))) (fun _ hk=>⟨hk.1.1,hk.1.2⟩)⟩,⟨by (with_reducible repeat (first | apply Kd.R_alloc | apply Kd.R_drewN | apply Kd.R_drew));exact Kd.R_mono (Kd.R_far (p:=⟨go90,(x17_4 : Int).toNat,none⟩) (Kd.R_types HO_9.out GG90.out (by decide)) (fun _ hk=>hk.2) (.int .i64 (rd x13_4 (rd x1610001_4 x17_4)))) (fun _ hk=>trivial)⟩,⟨by (with_reducible repeat (first | apply Kd.R_alloc | apply Kd.R_drewN | apply Kd.R_drew));exact Kd.R_mono (Kd.R_far (p:=⟨go90,(x17_4 : Int).toNat,none⟩) (Kd.R_mono HO_13.out (fun k_ hk=>(⟨hk,fun e_=>hk.2 (by rw [e_];rfl)⟩ : _ ∧ k_ ≠ go90))) (fun _ hk=>hk.2) (.int .i64 (rd x13_4 (rd x1610001_4 x17_4)))) (fun _ hk=>⟨hk.1.1,hk.1.2⟩)⟩,⟨by (with_reducible repeat (first | apply Kd.S_alloc | apply Kd.S_drewN | apply Kd.S_drew));exact Kd.S_mono (Kd.S_far (p:=⟨go90,(x17_4 : Int).toNat,none⟩) (Kd.S_mono HO_1600000.out (fun k_ hk=>(⟨hk,fun e_=>hk.2.2.1 (by rw [e_];rfl)⟩ : _ ∧ k_ ≠ go90))) (fun _ hk=>hk.2) (.int .i64 (rd x13_4 (rd x1610001_4 x17_4)))) (fun _ hk=>⟨hk.1.1,⟨hk.1.2.1,⟨hk.1.2.2.1,hk.1.2.2.2⟩⟩⟩)⟩,⟨rs HQ98⟩,⟨by (with_reducible repeat (first | refine blk_drewN ?_ _ | refine blk_drew ?_ | refine blk_alloc ?_ _));refine blk_far ?_ (by have h_:=Kd.R_ne HO_1610001.out BK1571.out (by decide);intro e_;exact h_ (by rw [e_];rfl)) _;(with_reducible repeat (first | refine blk_drewN ?_ _ | refine blk_drew ?_ | refine blk_alloc ?_ _));exact BK1571.out⟩,⟨by (with_reducible repeat (first | refine blk_drewN ?_ _ | refine blk_drew ?_ | refine blk_alloc ?_ _));refine blk_far ?_ (by have h_:=Kd.R_ne HO_1610001.out BK1572.out (by decide);intro e_;exact h_ (by rw [e_];rfl)) _;(with_reducible repeat (first | refine blk_drewN ?_ _ | refine blk_drew ?_ | refine blk_alloc ?_ _));exact BK1572.out⟩,⟨by (with_reducible repeat (first | refine blk_drewN ?_ _ | refine blk_drew ?_ | refine blk_alloc ?_ _));refine blk_far ?_ (by have h_:=Kd.R_ne HO_1610001.out BK1599.out (by decide);intro e_;exact h_ (by rw [e_];rfl)) _;(with_reducible repeat (first | refine blk_drewN ?_ _ | refine blk_drew ?_ | refine blk_alloc ?_ _));exact BK1599.out⟩,⟨by (with_reducible repeat (first | refine blk_drewN ?_ _ | refine blk_drew ?_ | refine blk_alloc ?_ _));refine blk_far ?_ (by have h_:=Kd.R_ne HO_1610001.out BK1609.out (by decide);intro e_;exact h_ (by rw [e_];rfl)) _;(with_reducible repeat (first | refine blk_drewN ?_ _ | refine blk_drew ?_ | refine blk_alloc ?_ _));exact BK1609.out⟩,⟨hs5 HB GB90 GE1571 GE1572 GE1599 GE1609⟩⟩
                           rw [if_neg c89] at H;exact absurd H (by simp)
                          rw [if_neg c88] at H;exact absurd H (by simp)
                         rw [if_neg c87] at H;have c87b0 : decide (0 ≤ (rd x1610001_4 x17_4)) = false:=decide_eq_false c87;clear c87;have H':=Aside0.mk H;clear H;have hnb99:=NB1609_1571.out;have hnc99:=NB1571_1609.out;have hnb100:=NB1609_1572.out;have hnc100:=NB1572_1609.out;have hnb101:=NB1609_1599.out;have hnc101:=NB1599_1609.out;have hcz102_0 : wc.cell? ⟨gb1609,0,none⟩ = some (.bool ((rd_T133 l0_0 x15_3).f0)):=(blk_cell BK1609.out 0).trans rfl;have hcz102_1 : wc.cell? ⟨gb1609,1,none⟩ = some (u1610001):=(blk_cell BK1609.out 1).trans rfl;have hfz102_0:=blk_frozen BK1609.out 0;have hfz102_1:=blk_frozen BK1609.out 1;obtain ⟨Ao103,co103,eo103⟩:=Kd.R_slice HO_1610001.out;subst eo103;have p1610 : 0 ≤ (x17_4 : Int):=of_decide_eq_true (by first | (with_reducible assumption) | assumption);have q1610 : x17_4 < (x1610001_4.length : Int):=of_decide_eq_true (by first | (with_reducible assumption) | assumption);obtain ⟨ad1610,e1610,hx1610_0⟩:=Kd.at_int (Kd.R_reads' HO_1610001.out).2.2 x17_4 p1610 q1610;cases e1610;replace p1610:=eq_true p1610;replace q1610:=eq_true q1610
                         go_wp2
                         go_roundg kj77;case measure=>have:=HJ4.out;have:=HK2.out;have:=HK3.out;have:=HK4.out;have:=HJ77.out;omega
                         case rel=>exact ⟨(x6_4),(x13_4),(wrap64 (x17_4 + 1)),(x1610001_4),(.slice (some ad1610) x1610001_4.length co103),(by first | rfl | (simp;done) | (simp [*];done)),H',⟨by have:=HJ4.out;have:=HK2.out;have:=HK3.out;have:=HK4.out;have:=HJ77.out;omega⟩,⟨rs HO_6⟩,⟨rs HO_9⟩,⟨rs HO_13⟩,⟨ss HO_1600000⟩,⟨rs HO_1610001⟩,⟨bs BK1571⟩,⟨bs BK1572⟩,⟨bs BK1599⟩,⟨bs BK1609⟩,⟨hs4 HB GE1571 GE1572 GE1599 GE1609⟩⟩
                        rw [if_neg c86] at H;exact absurd H (by simp)
                       rw [if_neg c85] at H;exact absurd H (by simp)
                      replace c84:=Bool.eq_false_iff.mpr c84;subst c84;have H1 : (if 0 ≤ x15_3 then (if x15_3 < (x13_4.length : Int) then (if x1600000_3.length < 4398046511104 then (spec_SweepArena.l3 kj77 x6_4 x9_2 (x13_4.set (x15_3 : Int).toNat (x1600000_3.length : Int)) (wrap64 (x15_3 + 1)) l0_0 (x1600000_3 ++ [(⟨((rd_T133 l0_0 x15_3).f0),x1610001_4⟩ : S133)])) else (none)) else (none)) else (none)) = some (r1,r2):=by rw [if_neg (show ¬ (false = true) by decide)] at H;exact H
                      clear H;have H:=H1;clear H1
                      by_cases c104 : 0 ≤ x15_3
                      ·rw [if_pos c104] at H;have c104b0 : decide (0 ≤ x15_3) = true:=decide_eq_true c104;clear c104
                       by_cases c105 : x15_3 < (x13_4.length : Int)
                       ·rw [if_pos c105] at H;have c105b0 : decide (x15_3 < (x13_4.length : Int)) = true:=decide_eq_true c105;clear c105;obtain ⟨y1614,hy1614⟩ : ∃ y_ : List Int,y_ = (x13_4.set (x15_3 : Int).toNat (x1600000_3.length : Int)):=⟨_,rfl⟩;replace H : (if x1600000_3.length < 4398046511104 then (spec_SweepArena.l3 kj77 x6_4 x9_2 y1614 (wrap64 (x15_3 + 1)) l0_0 (x1600000_3 ++ [(⟨((rd_T133 l0_0 x15_3).f0),x1610001_4⟩ : S133)])) else (none)) = some (r1,r2):=by first | (rw [hy1614];with_reducible exact H) | (have H2_:=(Option.bind_some _ _).symm.trans H;rw [hy1614];with_reducible exact H2_) | (have H2_:=(Option.bind_some _ _).symm.trans H;with_reducible exact H2_) | with_reducible exact H | (rw [hy1614];exact H) | exact H
                        have Ny1614:=Aside0.mk hy1614;clear hy1614
                        by_cases c107 : x1600000_3.length < 4398046511104
                        ·rw [if_pos c107] at H;have LMc107:=Aside0.mk c107;clear c107;obtain ⟨y1615,hy1615⟩ : ∃ y_ : List (S133),y_ = (x1600000_3 ++ [(⟨((rd_T133 l0_0 x15_3).f0),x1610001_4⟩ : S133)]):=⟨_,rfl⟩;replace H : (spec_SweepArena.l3 kj77 x6_4 x9_2 y1614 (wrap64 (x15_3 + 1)) l0_0 y1615) = some (r1,r2):=by first | (rw [hy1615];with_reducible exact H) | (have H2_:=(Option.bind_some _ _).symm.trans H;rw [hy1615];with_reducible exact H2_) | (have H2_:=(Option.bind_some _ _).symm.trans H;with_reducible exact H2_) | with_reducible exact H | (rw [hy1615];exact H) | exact H
                         have Ny1615:=Aside0.mk hy1615;clear hy1615;have H':=Aside0.mk H;clear H;have hnb108:=NB1599_1571.out;have hnc108:=NB1571_1599.out;have hnb109:=NB1599_1572.out;have hnc109:=NB1572_1599.out;have hnb110:=NB1599_1609.out;have hnc110:=NB1609_1599.out;have hcz111_0 : wc.cell? ⟨gb1599,0,none⟩ = some (u1600000):=(blk_cell BK1599.out 0).trans rfl;have hfz111_0:=blk_frozen BK1599.out 0;obtain ⟨Ao112,co112,eo112⟩:=Kd.S_slice HO_1600000.out;subst eo112;have p106 : 0 ≤ (x15_3 : Int):=of_decide_eq_true (by first | (with_reducible assumption) | assumption);have q106 : (x15_3 : Int) < ((x13_4.length : Int) : Int):=of_decide_eq_true (by first | (with_reducible assumption) | assumption);obtain ⟨go106,co106,eo106,gb106,gl106,cl106,HG106⟩:=Kd.R_form HO_13.out (by omega)
                         (first | cases eo106 | (injection eo106 with ea_ en_ ec_;(first | subst ea_ | (injection ea_ with ea_;subst ea_));subst ec_;clear en_))
                         have GB106:=Aside0.mk gb106;have GG106:=Aside0.mk HG106;clear gb106 gl106 HG106;obtain ⟨hx106_0,hf106_0⟩:=Kd.R_celln 0 HO_13.out (x15_3 : Int) p106 q106;replace p106:=eq_true p106;replace q106:=eq_true q106;have HP113:=Kd.R_putg HO_13.out (x15_3 : Int) (x1600000_3.length : Int);go_wp2_with (first | ((with_reducible refine gate_store (t:=3) (p:=143) rfl ?_);refine store_event (t:=3) (p:=143) (v:=?vo_w114) (w1:=(wc.setCell ⟨go106,(x15_3 : Int).toNat,none⟩ (.int .i64 (x1600000_3.length : Int)))) ?hg ?ho ?hn ?hr ?_;(case ho=>rfl);(case hg=>rfl);(case hn=>rfl);(case hr=>first | (go_simp;done) | (go_simp;rfl));intro w114 hw;have hg : wc.grownBy w114 (some go106):=(by rw [hw];exact HP113.2);have hp_ : Kd.R (Kd.int .i64) 3 w114 w.heap.size (fun k_=>some k_ ≠ (v1577 : Value).ownBlock ∧ some k_ ≠ (u1610001 : Value).ownBlock) (.slice (some ⟨go106,0,none⟩) x13_4.length co106) y1614:=(by rw [hw,Ny1614.out];exact HP113.1);clear HP113;have n0_:=Aside0.mk (Kd.R_after (v:=(.slice (some ⟨go106,0,none⟩) x13_4.length co106)) (v1:=(.slice (some ⟨go106,0,none⟩) x13_4.length co106)) (ok:=(fun k_=>some k_ ≠ (u1610001 : Value).ownBlock)) (by (with_reducible repeat (first | apply Kd.R_alloc | apply Kd.R_drewN | apply Kd.R_drew));exact Kd.R_mono HO_6.out (fun _ hk=>⟨hk.2,hk.1⟩)) hg (.inl rfl));have n1_:=Aside0.mk (Kd.R_over' (v:=(.slice (some ⟨go106,0,none⟩) x13_4.length co106)) (rs HO_9) (Kd.R_typed HO_13.out) (by decide) hg);have n2_:=Aside0.mk (hp_);have n3_:=Aside0.mk (Kd.S_after (v:=(.slice (some ⟨go106,0,none⟩) x13_4.length co106)) (v1:=(.slice (some ⟨go106,0,none⟩) x13_4.length co106)) (ok:=(fun k_=>some k_ ≠ (v1577 : Value).ownBlock ∧ some k_ ≠ (u1610001 : Value).ownBlock ∧ k_ ≠ gb1609)) (by (with_reducible repeat (first | apply Kd.S_alloc | apply Kd.S_drewN | apply Kd.S_drew));exact Kd.S_mono HO_1600000.out (fun _ hk=>⟨⟨hk.1,⟨hk.2.2.1,hk.2.2.2⟩⟩,hk.2.1⟩)) hg (.inl rfl));have n4_:=Aside0.mk (Kd.R_after (v:=(.slice (some ⟨go106,0,none⟩) x13_4.length co106)) (v1:=(.slice (some ⟨go106,0,none⟩) x13_4.length co106)) (ok:=(fun k_=>some k_ ≠ (v1577 : Value).ownBlock)) (rs HO_1610001) hg (.inl rfl));have n5_:=Aside0.mk (blk_grown (g:=gb1571) (o:=.cells #[.slice (some ad1601) l0_0.length c0_0] 44 (0,0)) (bs BK1571) hg (Kd.R_ne HO_13.out BK1571.out (by decide)));have n6_:=Aside0.mk (blk_grown (g:=gb1572) (o:=.cells #[.slice none 0 0] 44 (0,0)) (bs BK1572) hg (Kd.R_ne HO_13.out BK1572.out (by decide)));have n7_:=Aside0.mk (blk_grown (g:=gb1599) (o:=.cells #[.slice Ao112 x1600000_3.length co112] 44 (0,0)) (bs BK1599) hg (Kd.R_ne HO_13.out BK1599.out (by decide)));have n8_:=Aside0.mk (blk_grown (g:=gb1609) (o:=.cells #[.bool ((rd_T133 l0_0 x15_3).f0),u1610001] 133 (0,0)) (bs BK1609) hg (Kd.R_ne HO_13.out BK1609.out (by decide)));have n9_:=Aside0.mk ((by rw [hw];exact below_set (HB.out) GB106.out : Below w.heap.size w w114));clear HO_6;clear HO_9;clear HO_13;clear HO_1600000;clear HO_1610001;clear BK1571;clear BK1572;clear BK1599;clear BK1609;clear HB;have HO_6:=n0_;have HO_9:=n1_;have HO_13:=n2_;have HO_1600000:=n3_;have HO_1610001:=n4_;have BK1571:=n5_;have BK1572:=n6_;have BK1599:=n7_;have BK1609:=n8_;have HB:=n9_;clear n0_ n1_ n2_ n3_ n4_ n5_ n6_ n7_ n8_ n9_;clear hg hw hp_;have hcz115_0 : w114.cell? ⟨gb1599,0,none⟩ = some (.slice Ao112 x1600000_3.length co112):=(blk_cell BK1599.out 0).trans rfl;have hfz115_0:=blk_frozen BK1599.out 0;have hnb116:=NB1609_1571.out;have hnc116:=NB1571_1609.out;have hnb117:=NB1609_1572.out;have hnc117:=NB1572_1609.out;have hcz118_0 : w114.cell? ⟨gb1609,0,none⟩ = some (.bool ((rd_T133 l0_0 x15_3).f0)):=(blk_cell BK1609.out 0).trans rfl;have hcz118_1 : w114.cell? ⟨gb1609,1,none⟩ = some (u1610001):=(blk_cell BK1609.out 1).trans rfl;have hfz118_0:=blk_frozen BK1609.out 0;have hfz118_1:=blk_frozen BK1609.out 1;obtain ⟨Ao120,co120,eo120⟩:=Kd.R_slice HO_1610001.out;subst eo120) | ((with_reducible refine gate_builtin (b:=.append) (xs:=#[.tmp 145,.tmp 147]) rfl ?_);at_builtin;refine Kd.S_append k133 (w0:=w) w.heap.size rfl (.tmp 145) (.tmp 147) 42 133 (.agg #[(.bool false),(.slice none 0 0)]) 32 rfl Try.underlying42 info133 rfl (by decide) (by omega) (.slice Ao112 x1600000_3.length co112) x1600000_3 (⟨((rd_T133 l0_0 x15_3).f0),x1610001_4⟩ : S133) [.bool ((rd_T133 l0_0 x15_3).f0),.slice Ao120 x1610001_4.length co120] (fun k_=>some k_ ≠ (v1577 : Value).ownBlock ∧ some k_ ≠ (.slice (some ⟨go106,0,none⟩) x13_4.length co106 : Value).ownBlock ∧ k_ ≠ gb1609) (fun k_=>some k_ = (.slice Ao120 x1610001_4.length co120 : Value).ownBlock) rfl rfl ?aP (fun k_ hk_=>((Kd.R_mono (ok':=fun k_=>((fun k_=>some k_ ≠ (v1577 : Value).ownBlock ∧ some k_ ≠ (.slice (some ⟨go106,0,none⟩) x13_4.length co106 : Value).ownBlock ∧ k_ ≠ gb1609)) k_ ∧ some k_ ≠ (.slice Ao112 x1600000_3.length co112 : Value).ownBlock) (Kd.R_types (Kd.R_apart' (HO_1610001.out) (Kd.S_typed HO_1600000.out) (by decide)) BK1609.out (by decide)) (fun k_ hk=>⟨⟨hk.1.1.1,⟨hk.1.1.2,hk.2⟩⟩,hk.1.2⟩))).1 k_ hk_.symm) ?aF ?aO ?aB ?aS ?aL ?_;(case aP=>exact k133_mkM _ _ _ (⟨((rd_T133 l0_0 x15_3).f0),x1610001_4⟩ : S133) (Kd.R_mono (Kd.R_tight rfl (Kd.R_mono (ok':=fun k_=>((fun k_=>some k_ ≠ (v1577 : Value).ownBlock ∧ some k_ ≠ (.slice (some ⟨go106,0,none⟩) x13_4.length co106 : Value).ownBlock ∧ k_ ≠ gb1609)) k_ ∧ some k_ ≠ (.slice Ao112 x1600000_3.length co112 : Value).ownBlock) (Kd.R_types (Kd.R_apart' (HO_1610001.out) (Kd.S_typed HO_1600000.out) (by decide)) BK1609.out (by decide)) (fun k_ hk=>⟨⟨hk.1.1.1,⟨hk.1.1.2,hk.2⟩⟩,hk.1.2⟩))) (fun _ h_=>h_)));(case aB=>exact (hs4 HB GE1571 GE1572 GE1599 GE1609));(case aF=>exact (fun k_ hk=>⟨Kd.fresh' (Kd.R_lt (rs HO_6)) k_ hk,Kd.fresh' (Kd.R_lt (rs HO_13)) k_ hk,Kd.freshB (g:=gb1609) (o:=.cells #[.bool ((rd_T133 l0_0 x15_3).f0),.slice Ao120 x1610001_4.length co120] 133 (0,0)) (bs BK1609) k_ hk⟩));(case aO=>exact (by (with_reducible repeat (first | apply Kd.S_alloc | apply Kd.S_drewN | apply Kd.S_drew));exact Kd.S_mono HO_1600000.out (fun k_ hk=>⟨⟨hk.1.1,⟨hk.2,hk.1.2.2⟩⟩,fun e_=>hk.1.2.1 e_⟩)));(case aS=>exact (below_size (hs4 HB GE1571 GE1572 GE1599 GE1609)));(case aL=>have:=LMc107.out;omega);intro v1616 w119 ho hb hg hat;rw [← Ny1615.out] at ho;have n0_:=Aside0.mk (Kd.R_over' (rs HO_6) (Kd.S_typed (ss HO_1600000)) (by decide) hg);have n1_:=Aside0.mk (Kd.R_over' (rs HO_9) (Kd.S_typed (ss HO_1600000)) (by decide) hg);have n2_:=Aside0.mk (Kd.R_over' (rs HO_13) (Kd.S_typed (ss HO_1600000)) (by decide) hg);have n3_:=Aside0.mk (blk_grown (g:=gb1571) (o:=.cells #[.slice (some ad1601) l0_0.length c0_0] 44 (0,0)) (bs BK1571) hg (Kd.S_ne HO_1600000.out BK1571.out (by decide)));have n4_:=Aside0.mk (blk_grown (g:=gb1572) (o:=.cells #[.slice none 0 0] 44 (0,0)) (bs BK1572) hg (Kd.S_ne HO_1600000.out BK1572.out (by decide)));have n5_:=Aside0.mk (blk_grown (g:=gb1599) (o:=.cells #[.slice Ao112 x1600000_3.length co112] 44 (0,0)) (bs BK1599) hg (Kd.S_ne HO_1600000.out BK1599.out (by decide)));have n6_:=Aside0.mk (blk_grown (g:=gb1609) (o:=.cells #[.bool ((rd_T133 l0_0 x15_3).f0),.slice Ao120 x1610001_4.length co120] 133 (0,0)) (bs BK1609) hg (Kd.S_away HO_1600000.out (fun _ hk=>hk.1.2.2)));have n7_:=Aside0.mk (hb);have n8_:=Aside0.mk (ho);clear HO_6;clear HO_9;clear HO_13;clear BK1571;clear BK1572;clear BK1599;clear BK1609;clear HB;clear HO_1600000;clear HO_1610001;have HO_6:=n0_;have HO_9:=n1_;have HO_13:=n2_;have BK1571:=n3_;have BK1572:=n4_;have BK1599:=n5_;have BK1609:=n6_;have HB:=n7_;have HO1617:=n8_;clear n0_ n1_ n2_ n3_ n4_ n5_ n6_ n7_ n8_;clear ho hb hg hat;obtain ⟨Ao121,co121,eo121⟩:=Kd.S_slice HO1617.out;subst eo121;have hcz122_0 : w119.cell? ⟨gb1599,0,none⟩ = some (.slice Ao112 x1600000_3.length co112):=(blk_cell BK1599.out 0).trans rfl;have hfz122_0:=blk_frozen BK1599.out 0));go_roundg kj77;case measure=>have:=HJ4.out;have:=HK2.out;have:=HK3.out;have:=HK4.out;have:=HJ77.out;omega
                         case rel=>exact ⟨(x6_4),(y1614),(wrap64 (x15_3 + 1)),(y1615),(.slice Ao121 y1615.length co121),(by first | rfl | (simp;done) | (simp [*];done)),H',⟨by have:=HJ4.out;have:=HK2.out;have:=HK3.out;have:=HK4.out;have:=HJ77.out;omega⟩,⟨by (with_reducible repeat (first | apply Kd.R_alloc | apply Kd.R_drewN | apply Kd.R_drew));exact Kd.R_mono (Kd.R_far (p:=⟨gb1599,0,none⟩) (Kd.R_types HO_6.out BK1599.out (by decide)) (fun _ hk=>hk.2) (.slice Ao121 y1615.length co121)) (fun _ hk=>hk.1.2)⟩,⟨by (with_reducible repeat (first | apply Kd.R_alloc | apply Kd.R_drewN | apply Kd.R_drew));exact Kd.R_mono (Kd.R_far (p:=⟨gb1599,0,none⟩) (Kd.R_types HO_9.out BK1599.out (by decide)) (fun _ hk=>hk.2) (.slice Ao121 y1615.length co121)) (fun _ hk=>trivial)⟩,⟨by (with_reducible repeat (first | apply Kd.R_alloc | apply Kd.R_drewN | apply Kd.R_drew));exact Kd.R_mono (Kd.R_far (p:=⟨gb1599,0,none⟩) (Kd.R_types HO_13.out BK1599.out (by decide)) (fun _ hk=>hk.2) (.slice Ao121 y1615.length co121)) (fun _ hk=>hk.1.1)⟩,⟨by (with_reducible repeat (first | apply Kd.S_alloc | apply Kd.S_drewN | apply Kd.S_drew));exact Kd.S_mono (Kd.S_far (p:=⟨gb1599,0,none⟩) (Kd.S_types HO1617.out BK1599.out (by decide)) (fun _ hk=>hk.2) (.slice Ao121 y1615.length co121)) (fun _ hk=>⟨hk.1.1,hk.1.2.1⟩)⟩,⟨by (with_reducible repeat (first | refine blk_drewN ?_ _ | refine blk_drew ?_ | refine blk_alloc ?_ _));refine blk_far ?_ NB1571_1599.out _;(with_reducible repeat (first | refine blk_drewN ?_ _ | refine blk_drew ?_ | refine blk_alloc ?_ _));exact BK1571.out⟩,⟨by (with_reducible repeat (first | refine blk_drewN ?_ _ | refine blk_drew ?_ | refine blk_alloc ?_ _));refine blk_far ?_ NB1572_1599.out _;(with_reducible repeat (first | refine blk_drewN ?_ _ | refine blk_drew ?_ | refine blk_alloc ?_ _));exact BK1572.out⟩,⟨by (with_reducible repeat (first | refine blk_drewN ?_ _ | refine blk_drew ?_ | refine blk_alloc ?_ _));refine blk_put (cs:=#[.slice Ao112 x1600000_3.length co112]) ?_ 0 _ rfl;(with_reducible repeat (first | refine blk_drewN ?_ _ | refine blk_drew ?_ | refine blk_alloc ?_ _));exact BK1599.out⟩,⟨hs4 HB GE1571 GE1572 GE1599 GE1609⟩⟩
                        rw [if_neg c107] at H;exact absurd H (by simp)
                       rw [if_neg c105] at H;exact absurd H (by simp)
                      rw [if_neg c104] at H;exact absurd H (by simp)
                 rw [if_neg c63] at H;exact absurd H (by simp)
                replace c62:=Bool.eq_false_iff.mpr c62;subst c62;have H1 : (spec_SweepArena.l3 k3 x6_3 x9_2 x13_3 (wrap64 (x15_3 + 1)) l0_0 x1600000_3) = some (r1,r2):=by rw [if_neg (show ¬ (false = true) by decide)] at H;exact H
                clear H;have H:=H1;clear H1;have H':=Aside0.mk H;clear H;have hnb123:=NB1571_1572.out;have hnc123:=NB1572_1571.out;have hnb124:=NB1571_1599.out;have hnc124:=NB1599_1571.out;have hcz125_0 : wr.cell? ⟨gb1571,0,none⟩ = some (.slice A0_0 l0_0.length c0_0):=(blk_cell BK1571.out 0).trans rfl;have hfz125_0:=blk_frozen BK1571.out 0;obtain ⟨Ao126,co126,eo126⟩:=Kd.R_slice HO_9.out;subst eo126;have p1600 : 0 ≤ (x15_3 : Int):=of_decide_eq_true (by first | (with_reducible assumption) | assumption);have q1600 : x15_3 < (x9_2.length : Int):=of_decide_eq_true (by first | (with_reducible assumption) | assumption);obtain ⟨ad1600,e1600,hx1600_0⟩:=Kd.at_bool (Kd.R_reads' HO_9.out).2.2 x15_3 p1600 q1600
                (try rw [← Nbq61.out] at hx1600_0)
                cases e1600;replace p1600:=eq_true p1600;replace q1600:=eq_true q1600
                go_wp2
                go_roundg k3;case measure=>have:=HJ4.out;have:=HK2.out;have:=HK3.out;omega
                case rel=>exact ⟨(x6_3),(x13_3),(wrap64 (x15_3 + 1)),(x1600000_3),(u1600000),(by first | rfl | (simp;done) | (simp [*];done)),H',⟨by have:=HJ4.out;have:=HK2.out;have:=HK3.out;omega⟩,⟨rs HO_6⟩,⟨rs HO_9⟩,⟨rs HO_13⟩,⟨ss HO_1600000⟩,⟨bs BK1571⟩,⟨bs BK1572⟩,⟨bs BK1599⟩,⟨hs3 HB GE1571 GE1572 GE1599⟩⟩
               rw [if_neg c60] at H;exact absurd H (by simp)
              rw [if_neg c59] at H;exact absurd H (by simp)
             rw [if_neg c58] at H;have c58b0 : decide (x15_3 < (l0_0.length : Int)) = false:=decide_eq_false c58;clear c58;have H':=Aside0.mk H;clear H;have hnb127:=NB1571_1572.out;have hnc127:=NB1572_1571.out;have hnb128:=NB1571_1599.out;have hnc128:=NB1599_1571.out;have hcz129_0 : wr.cell? ⟨gb1571,0,none⟩ = some (.slice A0_0 l0_0.length c0_0):=(blk_cell BK1571.out 0).trans rfl;have hfz129_0:=blk_frozen BK1571.out 0
             go_wp2
             go_loopg [18] k3 (fun kq v18 w'=>∃ (x6_4 : List Int) (x18_4 : Int),v18 = .int .i64 x18_4 ∧ Aside0 (spec_SweepArena.l5 kq x6_4 x13_3 x18_4 x1600000_3 = some (r1,r2)) ∧ Aside0 (kq ≤ k3) ∧ Aside0 (Kd.R (Kd.int .i64) 3 w' w.heap.size (fun k_=>some k_ ≠ (v1597 : Value).ownBlock) v1577 x6_4) ∧ Aside0 (Kd.R (Kd.int .i64) 3 w' w.heap.size (fun k_=>some k_ ≠ (v1577 : Value).ownBlock) v1597 x13_3) ∧ Aside0 (Kd.S k133 133 w' w.heap.size (fun k_=>some k_ ≠ (v1577 : Value).ownBlock ∧ some k_ ≠ (v1597 : Value).ownBlock) u1600000 x1600000_3) ∧ Aside0 (w'.heap[gb1571]? = some (.cells #[(.slice A0_0 l0_0.length c0_0)] 44 (0,0))) ∧ Aside0 (w'.heap[gb1572]? = some (.cells #[(.slice none 0 0)] 44 (0,0))) ∧ Aside0 (w'.heap[gb1599]? = some (.cells #[u1600000] 44 (0,0))) ∧ Aside0 (Below w.heap.size w w'));case atStart=>exact ⟨(x6_3),(0),(by first | rfl | (simp;done) | (simp [*];done)),H',⟨Nat.le_refl _⟩,⟨rs HO_6⟩,⟨rs HO_13⟩,⟨ss HO_1600000⟩,⟨bs BK1571⟩,⟨bs BK1572⟩,⟨bs BK1599⟩,⟨hs3 HB GE1571 GE1572 GE1599⟩⟩
             case round =>
              clear H'
              try clear c1
              try clear p1
              try clear q1
              try clear hx1
              try clear p2
              try clear c5
              try clear c6
              try clear p6
              try clear q6
              try clear c7
              try clear c8
              try clear c9
              try clear p9
              try clear q9
              try clear hx9
              try clear hf9
              try clear c10
              try clear p10
              try clear q10
              try clear hx10
              try clear hf10
              try clear c11
              try clear c12
              try clear c16
              try clear p16
              try clear q16
              try clear hx16
              try clear c58
              try clear c58b0
              try clear c59
              try clear c60
              try clear q61
              try clear c62
              try clear c63
              try clear p64
              try clear c79
              try clear c79b0
              try clear c80
              try clear c81
              try clear c82
              try clear c84
              try clear c85
              try clear c85b0
              try clear c86
              try clear c86b0
              try clear c87
              try clear c87b0
              try clear c88
              try clear c88b0
              try clear c89
              try clear c89b0
              try clear p90
              try clear q90
              try clear hx90
              try clear hf90
              try clear c91
              try clear c92
              try clear c93
              try clear c99
              try clear c100
              try clear c101
              try clear c104
              try clear c104b0
              try clear c105
              try clear c105b0
              try clear p106
              try clear q106
              try clear hx106
              try clear hf106
              try clear c107
              try clear c108
              try clear c109
              try clear c110
              try clear c116
              try clear c117
              try clear c123
              try clear c124
              try clear c127
              try clear c128
              try clear hcz102_0
              try clear hcz102_1
              try clear hcz111_0
              try clear hcz115_0
              try clear hcz118_0
              try clear hcz118_1
              try clear hcz122_0
              try clear hcz125_0
              try clear hcz129_0
              try clear hcz83_0
              try clear hcz83_1
              try clear hcz94_0
              try clear hcz94_1
              try clear hfz102_0
              try clear hfz102_1
              try clear hfz111_0
              try clear hfz115_0
              try clear hfz118_0
              try clear hfz118_1
              try clear hfz122_0
              try clear hfz125_0
              try clear hfz129_0
              try clear hfz83_0
              try clear hfz83_1
              try clear hfz94_0
              try clear hfz94_1
              try clear hx106_0
              try clear hx1600_0
              try clear hx1610_0
              try clear hx1611_0
              try clear hx1612_0
              try clear hx90_0
              try clear p106
              try clear p1600
              try clear p1610
              try clear p1611
              try clear p1612
              try clear p2
              try clear p90
              try clear q106
              try clear q1600
              try clear q1610
              try clear q1611
              try clear q1612
              try clear q90
              obtain ⟨x6_4,x18_4,rfl,HA,HK4,HO_6,HO_13,HO_1600000,BK1571,BK1572,BK1599,HB⟩:=hrel;cases gk with
              | zero=>exact absurd HA.out (by simp [spec_SweepArena.l5])
              | succ k4 =>
               have H:=HA.out;clear HA;simp only [spec_SweepArena.l5] at H
               by_cases c130 : x18_4 < (x6_4.length : Int)
               ·rw [if_pos c130] at H;have c130b0 : decide (x18_4 < (x6_4.length : Int)) = true:=decide_eq_true c130;clear c130
                by_cases c131 : 0 ≤ x18_4
                ·rw [if_pos c131] at H;have c131b0 : decide (0 ≤ x18_4) = true:=decide_eq_true c131;clear c131
                 by_cases c132 : (rd x6_4 x18_4) ≥ 0
                 ·rw [if_pos c132] at H;have c132b0 : decide (0 ≤ (rd x6_4 x18_4)) = true:=decide_eq_true c132;clear c132
                  by_cases c133 : 0 ≤ (rd x6_4 x18_4)
                  ·rw [if_pos c133] at H;have c133b0 : decide (0 ≤ (rd x6_4 x18_4)) = true:=decide_eq_true c133;clear c133
                   by_cases c134 : (rd x6_4 x18_4) < (x13_3.length : Int)
                   ·rw [if_pos c134] at H;have c134b0 : decide ((rd x6_4 x18_4) < (x13_3.length : Int)) = true:=decide_eq_true c134;clear c134;obtain ⟨y1621,hy1621⟩ : ∃ y_ : List Int,y_ = (x6_4.set (x18_4 : Int).toNat (rd x13_3 (rd x6_4 x18_4))):=⟨_,rfl⟩;replace H : (spec_SweepArena.l5 k4 y1621 x13_3 (wrap64 (x18_4 + 1)) x1600000_3) = some (r1,r2):=by first | (rw [hy1621];with_reducible exact H) | (have H2_:=(Option.bind_some _ _).symm.trans H;rw [hy1621];with_reducible exact H2_) | (have H2_:=(Option.bind_some _ _).symm.trans H;with_reducible exact H2_) | with_reducible exact H | (rw [hy1621];exact H) | exact H
                    have Ny1621:=Aside0.mk hy1621;clear hy1621;have H':=Aside0.mk H;clear H;obtain ⟨Ao136,co136,eo136⟩:=Kd.R_slice HO_6.out;subst eo136;have p1618 : 0 ≤ (x18_4 : Int):=of_decide_eq_true (by first | (with_reducible assumption) | assumption);have q1618 : x18_4 < (x6_4.length : Int):=of_decide_eq_true (by first | (with_reducible assumption) | assumption);obtain ⟨ad1618,e1618,hx1618_0⟩:=Kd.at_int (Kd.R_reads' HO_6.out).2.2 x18_4 p1618 q1618;cases e1618;replace p1618:=eq_true p1618;replace q1618:=eq_true q1618;have p1619 : 0 ≤ (x18_4 : Int):=of_decide_eq_true (by first | (with_reducible assumption) | assumption);have q1619 : x18_4 < (x6_4.length : Int):=of_decide_eq_true (by first | (with_reducible assumption) | assumption);obtain ⟨ad1619,e1619,hx1619_0⟩:=Kd.at_int (Kd.R_reads' HO_6.out).2.2 x18_4 p1619 q1619;obtain rfl : ad1618 = ad1619:=(by injection e1619);replace p1619:=eq_true p1619;replace q1619:=eq_true q1619;obtain ⟨Ao137,co137,eo137⟩:=Kd.R_slice HO_13.out;subst eo137;have p1620 : 0 ≤ ((rd x6_4 x18_4) : Int):=of_decide_eq_true (by first | (with_reducible assumption) | assumption);have q1620 : (rd x6_4 x18_4) < (x13_3.length : Int):=of_decide_eq_true (by first | (with_reducible assumption) | assumption);obtain ⟨ad1620,e1620,hx1620_0⟩:=Kd.at_int (Kd.R_reads' HO_13.out).2.2 (rd x6_4 x18_4) p1620 q1620;cases e1620;replace p1620:=eq_true p1620;replace q1620:=eq_true q1620;have p135 : 0 ≤ (x18_4 : Int):=of_decide_eq_true (by first | (with_reducible assumption) | assumption);have q135 : (x18_4 : Int) < ((x6_4.length : Int) : Int):=of_decide_eq_true (by first | (with_reducible assumption) | assumption);obtain ⟨go135,co135,eo135,gb135,gl135,cl135,HG135⟩:=Kd.R_form HO_6.out (by omega)
                    (first | cases eo135 | (injection eo135 with ea_ en_ ec_;(first | subst ea_ | (injection ea_ with ea_;subst ea_));subst ec_;clear en_))
                    have GB135:=Aside0.mk gb135;have GG135:=Aside0.mk HG135;clear gb135 gl135 HG135
                    (first | simp only [add_plain] at hx1618_0 | skip)
                    (first | simp only [add_plain] at hx1619_0 | skip)
                    obtain ⟨hx135_0,hf135_0⟩:=Kd.R_celln 0 HO_6.out (x18_4 : Int) p135 q135;replace p135:=eq_true p135;replace q135:=eq_true q135;have HP138:=Kd.R_putg HO_6.out (x18_4 : Int) (rd x13_3 (rd x6_4 x18_4));go_wp2_with (first | ((with_reducible refine gate_store (t:=3) (p:=170) rfl ?_);refine store_event (t:=3) (p:=170) (v:=?vo_w139) (w1:=(wr.setCell ⟨go135,(x18_4 : Int).toNat,none⟩ (.int .i64 (rd x13_3 (rd x6_4 x18_4))))) ?hg ?ho ?hn ?hr ?_;(case ho=>rfl);(case hg=>rfl);(case hn=>rfl);(case hr=>first | (go_simp;done) | (go_simp;rfl));intro w139 hw;have hg : wr.grownBy w139 (some go135):=(by rw [hw];exact HP138.2);have hp_ : Kd.R (Kd.int .i64) 3 w139 w.heap.size (fun k_=>some k_ ≠ (.slice (some ad1620) x13_3.length co137 : Value).ownBlock) (.slice (some ⟨go135,0,none⟩) x6_4.length co136) y1621:=(by rw [hw,Ny1621.out];exact HP138.1);clear HP138;have n0_:=Aside0.mk (hp_);have n1_:=Aside0.mk (Kd.R_after (v:=(.slice (some ⟨go135,0,none⟩) x6_4.length co136)) (v1:=(.slice (some ⟨go135,0,none⟩) x6_4.length co136)) (ok:=(fun _=>True)) (by (with_reducible repeat (first | apply Kd.R_alloc | apply Kd.R_drewN | apply Kd.R_drew));exact Kd.R_mono HO_13.out (fun _ hk=>⟨trivial,hk⟩)) hg (.inl rfl));have n2_:=Aside0.mk (Kd.S_after (v:=(.slice (some ⟨go135,0,none⟩) x6_4.length co136)) (v1:=(.slice (some ⟨go135,0,none⟩) x6_4.length co136)) (ok:=(fun k_=>some k_ ≠ (.slice (some ad1620) x13_3.length co137 : Value).ownBlock)) (by (with_reducible repeat (first | apply Kd.S_alloc | apply Kd.S_drewN | apply Kd.S_drew));exact Kd.S_mono HO_1600000.out (fun _ hk=>⟨hk.2,hk.1⟩)) hg (.inl rfl));have n3_:=Aside0.mk (blk_grown (g:=gb1571) (o:=.cells #[.slice A0_0 l0_0.length c0_0] 44 (0,0)) (bs BK1571) hg (Kd.R_ne HO_6.out BK1571.out (by decide)));have n4_:=Aside0.mk (blk_grown (g:=gb1572) (o:=.cells #[.slice none 0 0] 44 (0,0)) (bs BK1572) hg (Kd.R_ne HO_6.out BK1572.out (by decide)));have n5_:=Aside0.mk (blk_grown (g:=gb1599) (o:=.cells #[u1600000] 44 (0,0)) (bs BK1599) hg (Kd.R_ne HO_6.out BK1599.out (by decide)));have n6_:=Aside0.mk ((by rw [hw];exact below_set (HB.out) GB135.out : Below w.heap.size w w139));clear HO_6;clear HO_13;clear HO_1600000;clear BK1571;clear BK1572;clear BK1599;clear HB;have HO_6:=n0_;have HO_13:=n1_;have HO_1600000:=n2_;have BK1571:=n3_;have BK1572:=n4_;have BK1599:=n5_;have HB:=n6_;clear n0_ n1_ n2_ n3_ n4_ n5_ n6_;clear hg hw hp_));go_roundg k4;case measure=>have:=HJ4.out;have:=HK2.out;have:=HK3.out;have:=HK4.out;omega
                    case rel=>exact ⟨(y1621),(wrap64 (x18_4 + 1)),(by first | rfl | (simp;done) | (simp [*];done)),H',⟨by have:=HJ4.out;have:=HK2.out;have:=HK3.out;have:=HK4.out;omega⟩,⟨rs HO_6⟩,⟨by (with_reducible repeat (first | apply Kd.R_alloc | apply Kd.R_drewN | apply Kd.R_drew));exact Kd.R_mono HO_13.out (fun _ hk=>hk.2)⟩,⟨by (with_reducible repeat (first | apply Kd.S_alloc | apply Kd.S_drewN | apply Kd.S_drew));exact Kd.S_mono HO_1600000.out (fun _ hk=>⟨hk.2,hk.1⟩)⟩,⟨bs BK1571⟩,⟨bs BK1572⟩,⟨bs BK1599⟩,⟨hs3 HB GE1571 GE1572 GE1599⟩⟩
                   rw [if_neg c134] at H;exact absurd H (by simp)
                  rw [if_neg c133] at H;exact absurd H (by simp)
                 rw [if_neg c132] at H;have c132b0 : decide (0 ≤ (rd x6_4 x18_4)) = false:=decide_eq_false c132;clear c132;have H':=Aside0.mk H;clear H;obtain ⟨Ao140,co140,eo140⟩:=Kd.R_slice HO_6.out;subst eo140;have p1618 : 0 ≤ (x18_4 : Int):=of_decide_eq_true (by first | (with_reducible assumption) | assumption);have q1618 : x18_4 < (x6_4.length : Int):=of_decide_eq_true (by first | (with_reducible assumption) | assumption);obtain ⟨ad1618,e1618,hx1618_0⟩:=Kd.at_int (Kd.R_reads' HO_6.out).2.2 x18_4 p1618 q1618;cases e1618;replace p1618:=eq_true p1618;replace q1618:=eq_true q1618
                 go_wp2
                 go_roundg k4;case measure=>have:=HJ4.out;have:=HK2.out;have:=HK3.out;have:=HK4.out;omega
                 case rel=>exact ⟨(x6_4),(wrap64 (x18_4 + 1)),(by first | rfl | (simp;done) | (simp [*];done)),H',⟨by have:=HJ4.out;have:=HK2.out;have:=HK3.out;have:=HK4.out;omega⟩,⟨rs HO_6⟩,⟨rs HO_13⟩,⟨ss HO_1600000⟩,⟨bs BK1571⟩,⟨bs BK1572⟩,⟨bs BK1599⟩,⟨hs3 HB GE1571 GE1572 GE1599⟩⟩
                rw [if_neg c131] at H;exact absurd H (by simp)
               rw [if_neg c130] at H;have c130b0 : decide (x18_4 < (x6_4.length : Int)) = false:=decide_eq_false c130;clear c130;simp only [Option.some.injEq,Prod.mk.injEq] at H;obtain ⟨rfl,rfl⟩:=H;obtain ⟨Ao141,co141,eo141⟩:=Kd.R_slice HO_6.out;subst eo141;have hnb142:=NB1599_1571.out;have hnc142:=NB1571_1599.out;have hnb143:=NB1599_1572.out;have hnc143:=NB1572_1599.out;have hcz144_0 : wr.cell? ⟨gb1599,0,none⟩ = some (u1600000):=(blk_cell BK1599.out 0).trans rfl;have hfz144_0:=blk_frozen BK1599.out 0;obtain ⟨Ao145,co145,eo145⟩:=Kd.S_slice HO_1600000.out;subst eo145;have hnb146:=NB1572_1571.out;have hnc146:=NB1571_1572.out;have hcz147_0 : wr.cell? ⟨gb1572,0,none⟩ = some (.slice none 0 0):=(blk_cell BK1572.out 0).trans rfl;have hfz147_0:=blk_frozen BK1572.out 0
               go_wp2
               refine bodyPost_ret (results_ct rfl _ _ gb1572 44 #[.slice Ao145 x1600000_3.length co145] (0,0) _ rfl (by (with_reducible repeat (first | refine blk_drewN ?_ _ | refine blk_drew ?_ | refine blk_alloc ?_ _));refine blk_put (cs:=#[.slice none 0 0]) ?_ 0 _ rfl;(with_reducible repeat (first | refine blk_drewN ?_ _ | refine blk_drew ?_ | refine blk_alloc ?_ _));exact BK1572.out) Try.underlying44 rfl (by kernel_rfl)) rfl ?_;exact ⟨_,_,by first | rfl | (simp [errW_none,errW_some] <;> rfl) | (simp [*,errW_none,errW_some] <;> rfl),by (with_reducible repeat (first | apply Kd.S_alloc | apply Kd.S_drewN | apply Kd.S_drew));exact Kd.S_mono (Kd.S_far (p:=⟨gb1572,0,none⟩) (Kd.S_types HO_1600000.out BK1572.out (by decide)) (fun _ hk=>hk.2) (.slice Ao145 x1600000_3.length co145)) (fun _ hk=>hk.1.1),by (with_reducible repeat (first | apply Kd.R_alloc | apply Kd.R_drewN | apply Kd.R_drew));exact Kd.R_mono (Kd.R_far (p:=⟨gb1572,0,none⟩) (Kd.R_types HO_6.out BK1572.out (by decide)) (fun _ hk=>hk.2) (.slice Ao145 x1600000_3.length co145)) (fun _ hk=>trivial),hs3 HB GE1571 GE1572 GE1599⟩
          rw [if_neg c49] at H;exact absurd H (by simp)
         rw [if_neg c48] at H;exact absurd H (by simp)
      rw [if_neg c22] at H;exact absurd H (by simp)
     rw [if_neg c21] at H;exact absurd H (by simp)
    replace c20:=Bool.eq_false_iff.mpr c20;subst c20;have H1 : ((spec_l11Copy.f kj4 l0_0).bind fun t1582=>(some (t1582,y1576))) = some (r1,r2):=by rw [if_neg (show ¬ (false = true) by decide)] at H;exact H
    clear H;have H:=H1;clear H1;replace H:=Option.bind_eq_some_iff.mp H;obtain ⟨t1582,A1480,H⟩:=H;replace H : (some (t1582,y1576)) = some (r1,r2):=H;have A148:=Aside0.mk A1480;clear A1480;simp only [Option.some.injEq,Prod.mk.injEq] at H;obtain ⟨rfl,rfl⟩:=H;have hnb149:=NB1571_1572.out;have hnc149:=NB1572_1571.out;have hcz150_0 : wc.cell? ⟨gb1571,0,none⟩ = some (.slice A0_0 l0_0.length c0_0):=(blk_cell BK1571.out 0).trans rfl;have hfz150_0:=blk_frozen BK1571.out 0;go_wp2_with (first | ((with_reducible refine gate_callee (f:=98) rfl ?_);refine goesL_ (some 42) rfl rfl Try.func98 (by kernel_rfl) rfl #[.agg #[.slice A0_0 l0_0.length c0_0]] rfl (by (try simp only [List.map_toArray,List.map_cons,List.map_nil]);first | done | rfl | (simp only [List.length_drop,List.length_take];rfl)) ?_;(with_reducible refine (spec_l11Copy.calls kj4 _ _ l0_0 t1582 _ ?side1 ?side2 A148.out).mono ?_);(case side1=>repeat (first | exact (Kd.C_below HR0_0.out HB.out) | (with_reducible refine Kd.C_alloc ?_ _) | (with_reducible refine Kd.C_drewN ?_ _) | (with_reducible refine Kd.C_drew ?_)));(case side2=>exact HC0_0.out);rintro e w151 ⟨v1583,rfl,ho0,hb⟩;refine ⟨_,rfl,?_⟩;have n0_:=Aside0.mk (Kd.R_below (rs HO_6) hb);have n1_:=Aside0.mk (Kd.S_lower (Kd.S_new' ho0 (Kd.R_lt (rs HO_6))) (below_size (hs2 HB GE1571 GE1572)));have n2_:=Aside0.mk (blk_below (g:=gb1571) (o:=.cells #[.slice A0_0 l0_0.length c0_0] 44 (0,0)) (bs BK1571) hb);have n3_:=Aside0.mk (blk_below (g:=gb1572) (o:=.cells #[.slice none 0 0] 44 (0,0)) (bs BK1572) hb);have n4_:=Aside0.mk (below_step (hs2 HB GE1571 GE1572) hb);clear HO_6;clear BK1571;clear BK1572;clear HB;have HO_6:=n0_;have HO1584:=n1_;have BK1571:=n2_;have BK1572:=n3_;have HB:=n4_;clear n0_ n1_ n2_ n3_ n4_;(try clear hb);(try clear hb2);(try clear hk);(try clear hi);(try clear ho0);obtain ⟨Ao152,co152,eo152⟩:=Kd.S_slice HO1584.out;subst eo152;have hcz153_0 : w151.cell? ⟨gb1572,0,none⟩ = some (.slice none 0 0):=(blk_cell BK1572.out 0).trans rfl;have hfz153_0:=blk_frozen BK1572.out 0));refine bodyPost_ret (results_ct rfl _ _ gb1572 44 #[.slice Ao152 t1582.length co152] (0,0) _ rfl (by (with_reducible repeat (first | refine blk_drewN ?_ _ | refine blk_drew ?_ | refine blk_alloc ?_ _));refine blk_put (cs:=#[.slice none 0 0]) ?_ 0 _ rfl;(with_reducible repeat (first | refine blk_drewN ?_ _ | refine blk_drew ?_ | refine blk_alloc ?_ _));exact BK1572.out) Try.underlying44 rfl (by kernel_rfl)) rfl ?_;exact ⟨_,_,by first | rfl | (simp [errW_none,errW_some] <;> rfl) | (simp [*,errW_none,errW_some] <;> rfl),by (with_reducible repeat (first | apply Kd.S_alloc | apply Kd.S_drewN | apply Kd.S_drew));exact Kd.S_mono (Kd.S_far (p:=⟨gb1572,0,none⟩) (Kd.S_types HO1584.out BK1572.out (by decide)) (fun _ hk=>hk.2) (.slice Ao152 t1582.length co152)) (fun _ hk=>hk.1.2),by (with_reducible repeat (first | apply Kd.R_alloc | apply Kd.R_drewN | apply Kd.R_drew));exact Kd.R_mono (Kd.R_far (p:=⟨gb1572,0,none⟩) (Kd.R_types HO_6.out BK1572.out (by decide)) (fun _ hk=>hk.2) (.slice Ao152 t1582.length co152)) (fun _ hk=>trivial),hs2 HB GE1571 GE1572⟩
 rw [if_neg c3] at H;exact absurd H (by simp)
end Go.Proofs.Ytdolplcbokioaaa.PB

namespace Go.Proofs.Ytdolplcbokioaaa.PB
open Go.RowKit Go.Proofs.YtdolplcbokioaaaW.PrintWords Go.Proofs.YtdolplcbokioaaaW.PrintLast Go.Proofs.YtdolplcbokioaaaW.PrintMore
attribute [local go_sem] max2_int min2_int max_two min_two max_three min_three max_four min_four   -- for this text's walks alone
set_option linter.unusedVariables false
set_option linter.unusedSimpArgs false
def impl_hasInt.l0 : Nat → Int → List Int → Int → Int → Option (Bool)
 | 0,_,_,_,_=>none
 | k + 1,x1,x7,x8,x9=>if x9 < x8 then (if 0 ≤ x9 then (if x9 < (x7.length : Int) then (if (rd x7 x9) = x1 then (some true) else (impl_hasInt.l0 k x1 x7 x8 (wrap64 (x9 + 1)))) else (none)) else (none)) else (some false)
def impl_hasInt.f (k : Nat) (l0 : List Int) (a1 : Int) : Option (Bool):=impl_hasInt.l0 k a1 l0 (l0.length : Int) 0
theorem impl_hasInt.mono_l : ∀ k,(∀ y0 y1 y2 y3,LeO (impl_hasInt.l0 k y0 y1 y2 y3) (impl_hasInt.l0 (k + 1) y0 y1 y2 y3))
 | 0=>fun _ _ _ _ r h=>by simp [impl_hasInt.l0] at h
 | k + 1=>by
  have ih0:=impl_hasInt.mono_l k;intro y0 y1 y2 y3;unfold impl_hasInt.l0
  repeat' first
  | (with_reducible exact ih0 _ _ _ _)
  | (with_reducible exact LeO.refl _)
  | (with_reducible exact LeO.none _)
  | (with_reducible refine LeO.ite ?_ ?_)
  | (with_reducible refine LeO.bind ?_ (fun _=>?_))
  | exact ih0 _ _ _ _
  | exact LeO.none _
  | refine LeO.ite ?_ ?_
  | refine LeO.bind ?_ (fun _=>?_)
theorem impl_hasInt.mono : ∀ a0 a1 k,LeO (impl_hasInt.f k a0 a1) (impl_hasInt.f (k + 1) a0 a1):=by
 intro a0 a1 k;have ih0:=impl_hasInt.mono_l k;unfold impl_hasInt.f
 repeat' first
   | (with_reducible exact ih0 _ _ _ _)
   | (with_reducible exact LeO.refl _)
   | (with_reducible exact LeO.none _)
   | (with_reducible refine LeO.ite ?_ ?_)
   | (with_reducible refine LeO.bind ?_ (fun _=>?_))
   | exact ih0 _ _ _ _
   | exact LeO.none _
   | refine LeO.ite ?_ ?_
   | refine LeO.bind ?_ (fun _=>?_)
set_option maxHeartbeats 8000000 in
set_option maxRecDepth 100000 in
theorem impl_hasInt.calls (k : Nat) (A0 : Option Addr) (c0 : Nat) (l0 : List Int) (a1 : Int) (r : Bool) (w : World) (hr0 : Kd.C (Kd.int .i64) w A0 l0.length l0) (hc0 : l0.length ≤ c0) (h : impl_hasInt.f k l0 a1 = some r) :
  Calls Try.prog 87 #[.slice A0 l0.length c0,.int .i64 a1] w fun e w'=>e = .returned (.bool r) ∧ Drawn0 w w':=by
 have HR0:=Aside0.mk hr0;have HC0:=Aside0.mk hc0;clear hr0 hc0;have H : (impl_hasInt.l0 k a1 l0 (l0.length : Int) 0) = some r:=h;clear h;have H':=Aside0.mk H;clear H
 go_enter Try.func87,Try.ntmps87
 go_wp2
 go_loopg [9] k (fun kq v9 w'=>∃ (x9_1 : Int),v9 = .int .i64 x9_1 ∧ Aside0 (impl_hasInt.l0 kq a1 l0 (l0.length : Int) x9_1 = some r) ∧ Aside0 (kq ≤ k) ∧ Drawn0 w w');case atStart=>exact ⟨(0),(by first | rfl | (simp;done) | (simp [*];done)),H',⟨Nat.le_refl _⟩,by repeat (first | exact Drawn0.refl _ | apply Drawn0.step)⟩
 case round =>
  clear H'
  try clear p2
  obtain ⟨x9_1,rfl,HA,HK1,⟨m1,rfl⟩⟩:=hrel;cases gk with
  | zero=>exact absurd HA.out (by simp [impl_hasInt.l0])
  | succ k1 =>
   have H:=HA.out;clear HA;simp only [impl_hasInt.l0] at H
   by_cases c3 : x9_1 < (l0.length : Int)
   ·rw [if_pos c3] at H;have c3b0 : decide (x9_1 < (l0.length : Int)) = true:=decide_eq_true c3;clear c3
    by_cases c4 : 0 ≤ x9_1
    ·rw [if_pos c4] at H;have c4b0 : decide (0 ≤ x9_1) = true:=decide_eq_true c4;clear c4
     by_cases c5 : x9_1 < (l0.length : Int)
     ·rw [if_pos c5] at H;have c5b0 : decide (x9_1 < (l0.length : Int)) = true:=decide_eq_true c5;clear c5
      by_cases c6 : (rd l0 x9_1) = a1
      ·rw [if_pos c6] at H;have c6b0 : ((rd l0 x9_1) == a1) = true:=beq_iff_eq.mpr c6;have c6b1 : ((rd l0 x9_1) != a1) = false:=bne_eq_false_iff_eq.mpr c6;clear c6;obtain rfl:=Option.some.inj H;have p298 : 0 ≤ (x9_1 : Int):=of_decide_eq_true (by first | (with_reducible assumption) | assumption);have q298 : x9_1 < (l0.length : Int):=of_decide_eq_true (by first | (with_reducible assumption) | assumption);obtain ⟨ad298,e298,hx298_0⟩:=Kd.at_int HR0.out x9_1 p298 q298;cases e298;replace p298:=eq_true p298;replace q298:=eq_true q298
       go_wp2
       go_ret
       exact ⟨by first | rfl | (simp;done) | (simp [*];done),by repeat (first | exact Drawn0.refl _ | apply Drawn0.step)⟩
      rw [if_neg c6] at H;have c6b0 : ((rd l0 x9_1) == a1) = false:=beq_eq_false_iff_ne.mpr c6;have c6b1 : ((rd l0 x9_1) != a1) = true:=bne_iff_ne.mpr c6;have H':=Aside0.mk H;clear H;have p298 : 0 ≤ (x9_1 : Int):=of_decide_eq_true (by first | (with_reducible assumption) | assumption);have q298 : x9_1 < (l0.length : Int):=of_decide_eq_true (by first | (with_reducible assumption) | assumption);obtain ⟨ad298,e298,hx298_0⟩:=Kd.at_int HR0.out x9_1 p298 q298;cases e298;replace p298:=eq_true p298;replace q298:=eq_true q298
      go_wp2
      go_roundg k1;case measure=>have:=HK1.out;omega
      case rel=>exact ⟨(wrap64 (x9_1 + 1)),(by first | rfl | (simp;done) | (simp [*];done)),H',⟨by have:=HK1.out;omega⟩,by repeat (first | exact Drawn0.refl _ | apply Drawn0.step)⟩
     rw [if_neg c5] at H;exact absurd H (by simp)
    rw [if_neg c4] at H;exact absurd H (by simp)
   rw [if_neg c3] at H;have c3b0 : decide (x9_1 < (l0.length : Int)) = false:=decide_eq_false c3;clear c3;obtain rfl:=Option.some.inj H
   go_wp2
   go_ret
   exact ⟨by first | rfl | (simp;done) | (simp [*];done),by repeat (first | exact Drawn0.refl _ | apply Drawn0.step)⟩
end Go.Proofs.Ytdolplcbokioaaa.PB

namespace Go.Proofs.Ytdolplcbokioaaa.PB
open Go.RowKit Go.Proofs.YtdolplcbokioaaaW.PrintWords Go.Proofs.YtdolplcbokioaaaW.PrintLast Go.Proofs.YtdolplcbokioaaaW.PrintMore
attribute [local go_sem] max2_int min2_int max_two min_two max_three min_three max_four min_four   -- for this text's walks alone
set_option linter.unusedVariables false
set_option linter.unusedSimpArgs false
def impl_in.f (a0 : Int) (a1 : Int) (a2 : Int) : Option (Bool):=if a0 ≥ a1 then (some (decide (a0 ≤ a2))) else (some false)
set_option maxHeartbeats 8000000 in
set_option maxRecDepth 100000 in
theorem impl_in.calls (a0 : Int) (a1 : Int) (a2 : Int) (r : Bool) (w : World) (h : impl_in.f a0 a1 a2 = some r) :
  Calls Try.prog 84 #[.int .i64 a0,.int .i64 a1,.int .i64 a2] w fun e w'=>e = .returned (.bool r) ∧ Drawn0 w w':=by
 have H : (if a0 ≥ a1 then (some (decide (a0 ≤ a2))) else (some false)) = some r:=h;clear h
 by_cases c4 : a0 ≥ a1
 ·rw [if_pos c4] at H;have c4b0 : decide (a1 ≤ a0) = true:=decide_eq_true c4;clear c4;obtain rfl:=Option.some.inj H
  go_enter Try.func84,Try.ntmps84
  go_wp2
  go_ret
  exact ⟨by first | rfl | (simp;done) | (simp [*];done),by repeat (first | exact Drawn0.refl _ | apply Drawn0.step)⟩
 rw [if_neg c4] at H;have c4b0 : decide (a1 ≤ a0) = false:=decide_eq_false c4;clear c4;obtain rfl:=Option.some.inj H
 go_enter Try.func84,Try.ntmps84
 go_wp2
 go_ret
 exact ⟨by first | rfl | (simp;done) | (simp [*];done),by repeat (first | exact Drawn0.refl _ | apply Drawn0.step)⟩
end Go.Proofs.Ytdolplcbokioaaa.PB

namespace Go.Proofs.Ytdolplcbokioaaa.PB
open Go.RowKit Go.Proofs.YtdolplcbokioaaaW.PrintWords Go.Proofs.YtdolplcbokioaaaW.PrintLast Go.Proofs.YtdolplcbokioaaaW.PrintMore
attribute [local go_sem] max2_int min2_int max_two min_two max_three min_three max_four min_four   -- for this text's walks alone
set_option linter.unusedVariables false
set_option linter.unusedSimpArgs false
mutual
def impl_ArenaOk.l0 : Nat → List (S133) → Int → Int → List (S133) → Option (Bool)
 | 0,_,_,_,_=>none
 | k + 1,x8,x9,x10,x607000=>if x10 < x9 then (if 0 ≤ x10 then (if x10 < (x8.length : Int) then (if (((rd_T133 x8 x10).f1).length : Int) = 4 then (impl_ArenaOk.l1 k x10 x8 x9 x10 ((rd_T133 x8 x10).f1) (((rd_T133 x8 x10).f1).length : Int) 0 x607000 ((rd_T133 x8 x10).f0) ((rd_T133 x8 x10).f1)) else (some false)) else (none)) else (none)) else (some true)
def impl_ArenaOk.l1 : Nat → Int → List (S133) → Int → Int → List Int → Int → Int → List (S133) → Bool → List Int → Option (Bool)
 | 0,_,_,_,_,_,_,_,_,_,_=>none
 | k + 1,x3,x8,x9,x10,x20,x21,x22,x607000,x609000,x609001=>if x22 < x21 then (if 0 ≤ x22 then (if x22 < (x20.length : Int) then (if x609000 = true then (if (rd x20 x22) < 0 then (some false) else (impl_ArenaOk.l1 k x3 x8 x9 x10 x20 x21 (wrap64 (x22 + 1)) x607000 x609000 x609001)) else (if (rd x20 x22) = (-1) then (impl_ArenaOk.l1 k x3 x8 x9 x10 x20 x21 (wrap64 (x22 + 1)) x607000 x609000 x609001) else ((impl_in.f (rd x20 x22) 0 (wrap64 (x3 - 1))).bind fun t610=>(if t610 = true then (if 0 ≤ (rd x20 x22) then (if (rd x20 x22) < (x607000.length : Int) then (if ((rd_T133 x607000 (rd x20 x22)).f0 = true) then (impl_ArenaOk.l1 k x3 x8 x9 x10 x20 x21 (wrap64 (x22 + 1)) x607000 x609000 x609001) else (some false)) else (none)) else (none)) else (some false))))) else (none)) else (none)) else (impl_ArenaOk.l0 k x8 x9 (wrap64 (x10 + 1)) x607000)
end
def impl_ArenaOk.f (k : Nat) (l0_0 : List (S133)) : Option (Bool):=impl_ArenaOk.l0 k l0_0 (l0_0.length : Int) 0 l0_0
theorem impl_ArenaOk.mono_l : ∀ k,(∀ y0 y1 y2 y3,LeO (impl_ArenaOk.l0 k y0 y1 y2 y3) (impl_ArenaOk.l0 (k + 1) y0 y1 y2 y3)) ∧ (∀ y0 y1 y2 y3 y4 y5 y6 y7 y8 y9,LeO (impl_ArenaOk.l1 k y0 y1 y2 y3 y4 y5 y6 y7 y8 y9) (impl_ArenaOk.l1 (k + 1) y0 y1 y2 y3 y4 y5 y6 y7 y8 y9))
 | 0=>⟨fun _ _ _ _ r h=>by simp [impl_ArenaOk.l0] at h,fun _ _ _ _ _ _ _ _ _ _ r h=>by simp [impl_ArenaOk.l1] at h⟩
 | k + 1=>by
  obtain ⟨ih0,ih1⟩:=impl_ArenaOk.mono_l k;refine ⟨?_,?_⟩
  ·intro y0 y1 y2 y3;unfold impl_ArenaOk.l0
   repeat' first
   | (with_reducible exact ih0 _ _ _ _)
   | (with_reducible exact ih1 _ _ _ _ _ _ _ _ _ _)
   | (with_reducible exact LeO.refl _)
   | (with_reducible exact LeO.none _)
   | (with_reducible refine LeO.ite ?_ ?_)
   | (with_reducible refine LeO.bind ?_ (fun _=>?_))
   | exact ih0 _ _ _ _
   | exact ih1 _ _ _ _ _ _ _ _ _ _
   | exact LeO.none _
   | refine LeO.ite ?_ ?_
   | refine LeO.bind ?_ (fun _=>?_)
  intro y0 y1 y2 y3 y4 y5 y6 y7 y8 y9;unfold impl_ArenaOk.l1
  repeat' first
  | (with_reducible exact ih0 _ _ _ _)
  | (with_reducible exact ih1 _ _ _ _ _ _ _ _ _ _)
  | (with_reducible exact LeO.refl _)
  | (with_reducible exact LeO.none _)
  | (with_reducible refine LeO.ite ?_ ?_)
  | (with_reducible refine LeO.bind ?_ (fun _=>?_))
  | exact ih0 _ _ _ _
  | exact ih1 _ _ _ _ _ _ _ _ _ _
  | exact LeO.none _
  | refine LeO.ite ?_ ?_
  | refine LeO.bind ?_ (fun _=>?_)
theorem impl_ArenaOk.mono : ∀ a0 k,LeO (impl_ArenaOk.f k a0) (impl_ArenaOk.f (k + 1) a0):=by
 intro a0 k;obtain ⟨ih0,ih1⟩:=impl_ArenaOk.mono_l k;unfold impl_ArenaOk.f
 repeat' first
   | (with_reducible exact ih0 _ _ _ _)
   | (with_reducible exact ih1 _ _ _ _ _ _ _ _ _ _)
   | (with_reducible exact LeO.refl _)
   | (with_reducible exact LeO.none _)
   | (with_reducible refine LeO.ite ?_ ?_)
   | (with_reducible refine LeO.bind ?_ (fun _=>?_))
   | exact ih0 _ _ _ _
   | exact ih1 _ _ _ _ _ _ _ _ _ _
   | exact LeO.none _
   | refine LeO.ite ?_ ?_
   | refine LeO.bind ?_ (fun _=>?_)
set_option maxHeartbeats 8000000 in
set_option maxRecDepth 100000 in
theorem impl_ArenaOk.calls (k : Nat) (A0_0 : Option Addr) (c0_0 : Nat) (l0_0 : List (S133)) (r : Bool) (w : World) (hr0_0 : Kd.C k133 w A0_0 l0_0.length l0_0) (hc0_0 : l0_0.length ≤ c0_0) (h : impl_ArenaOk.f k l0_0 = some r) :
  Calls Try.prog 25 #[.agg #[.slice A0_0 l0_0.length c0_0]] w fun e w'=>e = .returned (.bool r) ∧ Below w.heap.size w w':=by
 have hu44:=Try.underlying44;have hu133:=Try.underlying133;have HR0_0:=Aside0.mk hr0_0;have HC0_0:=Aside0.mk hc0_0;clear hr0_0 hc0_0;have HB:=Aside0.mk (Below.refl w.heap.size w);have H : (impl_ArenaOk.l0 k l0_0 (l0_0.length : Int) 0 l0_0) = some r:=h;clear h;have H':=Aside0.mk H;clear H
 go_enter Try.func25,Try.ntmps25
 go_wp2_with (first | ((with_reducible refine gate_dst (N:=1) rfl ?_);refine box_event ?hg (N:=1) ?hd (cs:=#[.slice A0_0 l0_0.length c0_0]) (t:=44) ?hr ?_;(case hd=>rfl);(case hg=>rfl);(case hr=>first | (go_simp;done) | (go_simp;rfl));intro gb606 hg w2 hbox hb;have n0_:=Aside0.mk (below_step (hs HB) hb);have n1_:=Aside0.mk (hbox);have n2_:=Aside0.mk ((by rw [hg];exact (below_size (hs HB)) : w.heap.size ≤ gb606));have n3_:=Aside0.mk ((by rw [hg];exact (below_size (hs HB)) : w.heap.size ≤ gb606));clear HB;have HB:=n0_;have BK606:=n1_;have GW606:=n2_;have GE606:=n3_;clear n0_ n1_ n2_ n3_;clear hb hbox hg;have hcz3_0 : w2.cell? ⟨gb606,0,none⟩ = some (.slice A0_0 l0_0.length c0_0):=(blk_cell BK606.out 0).trans rfl;have hfz3_0:=blk_frozen BK606.out 0));go_loopg [10] k (fun kq v10 w'=>∃ (x10_1 : Int),v10 = .int .i64 x10_1 ∧ Aside0 (impl_ArenaOk.l0 kq l0_0 (l0_0.length : Int) x10_1 l0_0 = some r) ∧ Aside0 (kq ≤ k) ∧ Aside0 (w'.heap[gb606]? = some (.cells #[(.slice A0_0 l0_0.length c0_0)] 44 (0,0))) ∧ Aside0 (Below w.heap.size w w'));case atStart=>exact ⟨(0),(by first | rfl | (simp;done) | (simp [*];done)),H',⟨Nat.le_refl _⟩,⟨bs BK606⟩,⟨hs1 HB GE606⟩⟩
 case round =>
  clear H'
  try clear c2
  try clear p2
  try clear hcz3_0
  try clear hfz3_0
  obtain ⟨x10_1,rfl,HA,HK1,BK606,HB⟩:=hrel;cases gk with
  | zero=>exact absurd HA.out (by simp [impl_ArenaOk.l0])
  | succ k1 =>
   have H:=HA.out;clear HA;simp only [impl_ArenaOk.l0] at H
   by_cases c4 : x10_1 < (l0_0.length : Int)
   ·rw [if_pos c4] at H;have c4b0 : decide (x10_1 < (l0_0.length : Int)) = true:=decide_eq_true c4;clear c4
    by_cases c5 : 0 ≤ x10_1
    ·rw [if_pos c5] at H;have c5b0 : decide (0 ≤ x10_1) = true:=decide_eq_true c5;clear c5
     by_cases c6 : x10_1 < (l0_0.length : Int)
     ·rw [if_pos c6] at H;have c6b0 : decide (x10_1 < (l0_0.length : Int)) = true:=decide_eq_true c6;clear c6
      by_cases c7 : (((rd_T133 l0_0 x10_1).f1).length : Int) = 4
      ·rw [if_pos c7] at H;have c7b0 : ((((rd_T133 l0_0 x10_1).f1).length : Int) == 4) = true:=beq_iff_eq.mpr c7;have c7b1 : ((((rd_T133 l0_0 x10_1).f1).length : Int) != 4) = false:=bne_eq_false_iff_eq.mpr c7;clear c7;have H':=Aside0.mk H;clear H;have p607 : 0 ≤ (x10_1 : Int):=of_decide_eq_true (by first | (with_reducible assumption) | assumption);have q607 : x10_1 < (l0_0.length : Int):=of_decide_eq_true (by first | (with_reducible assumption) | assumption);obtain ⟨ad607,A607_1,c607_1,e607,hx607_0,hx607_1,hl607_1,hi607_1⟩:=at_T133 HR0_0.out x10_1 p607 q607;cases e607;replace hx607_0:=(HB.out.cell (World.block_lt_of_cell? w _ hx607_0)).trans hx607_0;replace hx607_1:=(HB.out.cell (World.block_lt_of_cell? w _ hx607_1)).trans hx607_1;have HR607_1:=Aside0.mk hi607_1;have HC607_1:=Aside0.mk hl607_1;clear hi607_1 hl607_1;replace p607:=eq_true p607;replace q607:=eq_true q607;go_wp2_with (first | ((with_reducible refine gate_dst (N:=4) rfl ?_);refine box_event ?hg (N:=4) ?hd (cs:=#[.bool false,.slice none 0 0]) (t:=133) ?hr ?_;(case hd=>rfl);(case hg=>rfl);(case hr=>first | (go_simp;done) | (go_simp;rfl));intro gb608 hg w8 hbox hb;have n0_:=Aside0.mk (blk_below (g:=gb606) (o:=.cells #[.slice (some ad607) l0_0.length c0_0] 44 (0,0)) (bs BK606) hb);have n1_:=Aside0.mk (below_step (hs1 HB GE606) hb);have n2_:=Aside0.mk (hbox);have n3_:=Aside0.mk ((by rw [hg];exact (below_size (hs1 HB GE606)) : w.heap.size ≤ gb608));have n4_:=Aside0.mk ((by rw [hg];exact (below_size (hs1 HB GE606)) : w.heap.size ≤ gb608));have n5_:=Aside0.mk ((by rw [hg];exact Nat.ne_of_lt (blk_lt (g:=gb606) (o:=.cells #[.slice (some ad607) l0_0.length c0_0] 44 (0,0)) (bs BK606)) : gb606 ≠ gb608));have n6_:=Aside0.mk ((by rw [hg];exact Nat.ne_of_gt (blk_lt (g:=gb606) (o:=.cells #[.slice (some ad607) l0_0.length c0_0] 44 (0,0)) (bs BK606)) : gb608 ≠ gb606));clear BK606;clear HB;have BK606:=n0_;have HB:=n1_;have BK608:=n2_;have GW608:=n3_;have GE608:=n4_;have NB606_608:=n5_;have NB608_606:=n6_;clear n0_ n1_ n2_ n3_ n4_ n5_ n6_;clear hb hbox hg;have hnb9:=NB608_606.out;have hnc9:=NB606_608.out;have hcz10_0 : w8.cell? ⟨gb608,0,none⟩ = some (.bool false):=(blk_cell BK608.out 0).trans rfl;have hcz10_1 : w8.cell? ⟨gb608,1,none⟩ = some (.slice none 0 0):=(blk_cell BK608.out 1).trans rfl;have hfz10_0:=blk_frozen BK608.out 0;have hfz10_1:=blk_frozen BK608.out 1))
       (try generalize (Value.agg #[.bool ((rd_T133 l0_0 x10_1).f0),.slice A607_1 ((rd_T133 l0_0 x10_1).f1).length c607_1]) = gd14)
       go_loopg [22] k1 (fun kq v22 w'=>∃ (x22_2 : Int),v22 = .int .i64 x22_2 ∧ Aside0 (impl_ArenaOk.l1 kq x10_1 l0_0 (l0_0.length : Int) x10_1 ((rd_T133 l0_0 x10_1).f1) (((rd_T133 l0_0 x10_1).f1).length : Int) x22_2 l0_0 ((rd_T133 l0_0 x10_1).f0) ((rd_T133 l0_0 x10_1).f1) = some r) ∧ Aside0 (kq ≤ k1) ∧ Aside0 (w'.heap[gb606]? = some (.cells #[(.slice (some ad607) l0_0.length c0_0)] 44 (0,0))) ∧ Aside0 (w'.heap[gb608]? = some (.cells #[.bool ((rd_T133 l0_0 x10_1).f0),(.slice A607_1 ((rd_T133 l0_0 x10_1).f1).length c607_1)] 133 (0,0))) ∧ Aside0 (Below w.heap.size w w'));case atStart=>exact ⟨(0),(by first | rfl | (simp;done) | (simp [*];done)),H',⟨Nat.le_refl _⟩,⟨by (with_reducible repeat (first | refine blk_drewN ?_ _ | refine blk_drew ?_ | refine blk_alloc ?_ _));refine blk_far ?_ NB606_608.out _;(with_reducible repeat (first | refine blk_drewN ?_ _ | refine blk_drew ?_ | refine blk_alloc ?_ _));refine blk_far ?_ NB606_608.out _;(with_reducible repeat (first | refine blk_drewN ?_ _ | refine blk_drew ?_ | refine blk_alloc ?_ _));exact BK606.out⟩,⟨by (with_reducible repeat (first | refine blk_drewN ?_ _ | refine blk_drew ?_ | refine blk_alloc ?_ _));refine blk_put (cs:=#[.bool ((rd_T133 l0_0 x10_1).f0),.slice none 0 0]) ?_ 1 _ rfl;(with_reducible repeat (first | refine blk_drewN ?_ _ | refine blk_drew ?_ | refine blk_alloc ?_ _));refine blk_put (cs:=#[.bool false,.slice none 0 0]) ?_ 0 _ rfl;(with_reducible repeat (first | refine blk_drewN ?_ _ | refine blk_drew ?_ | refine blk_alloc ?_ _));exact BK608.out⟩,⟨hs2 HB GE606 GE608⟩⟩
       case round =>
        clear H'
        try clear c2
        try clear p2
        try clear c4
        try clear c4b0
        try clear c5
        try clear c5b0
        try clear c6
        try clear c6b0
        try clear p6
        try clear q6
        try clear hx6
        try clear c7
        try clear c7b0
        try clear c7b1
        try clear c9
        try clear hcz10_0
        try clear hcz10_1
        try clear hcz3_0
        try clear hfz10_0
        try clear hfz10_1
        try clear hfz3_0
        try clear hx607_0
        try clear hx607_1
        try clear p2
        try clear p607
        try clear q607
        obtain ⟨x22_2,rfl,HA,HK2,BK606,BK608,HB⟩:=hrel;cases gk with
        | zero=>exact absurd HA.out (by simp [impl_ArenaOk.l1])
        | succ k2 =>
         have H:=HA.out;clear HA;simp only [impl_ArenaOk.l1] at H
         by_cases c11 : x22_2 < (((rd_T133 l0_0 x10_1).f1).length : Int)
         ·rw [if_pos c11] at H;have c11b0 : decide (x22_2 < (((rd_T133 l0_0 x10_1).f1).length : Int)) = true:=decide_eq_true c11;clear c11
          by_cases c12 : 0 ≤ x22_2
          ·rw [if_pos c12] at H;have c12b0 : decide (0 ≤ x22_2) = true:=decide_eq_true c12;clear c12
           by_cases c13 : x22_2 < (((rd_T133 l0_0 x10_1).f1).length : Int)
           ·rw [if_pos c13] at H;have c13b0 : decide (x22_2 < (((rd_T133 l0_0 x10_1).f1).length : Int)) = true:=decide_eq_true c13;clear c13
            by_cases c14 : ((rd_T133 l0_0 x10_1).f0) = true
            ·rw [if_pos c14] at H;have c14b0 : ((rd_T133 l0_0 x10_1).f0) = true:=c14;clear c14
             by_cases c15 : (rd ((rd_T133 l0_0 x10_1).f1) x22_2) < 0
             ·rw [if_pos c15] at H;have c15b0 : decide ((rd ((rd_T133 l0_0 x10_1).f1) x22_2) < 0) = true:=decide_eq_true c15;clear c15;obtain rfl:=Option.some.inj H;have p609 : 0 ≤ (x22_2 : Int):=of_decide_eq_true (by first | (with_reducible assumption) | assumption);have q609 : x22_2 < (((rd_T133 l0_0 x10_1).f1).length : Int):=of_decide_eq_true (by first | (with_reducible assumption) | assumption);obtain ⟨ad609,e609,hx609_0⟩:=Kd.at_int HR607_1.out x22_2 p609 q609;cases e609;replace hx609_0:=(HB.out.cell (World.block_lt_of_cell? w _ hx609_0)).trans hx609_0;replace p609:=eq_true p609;replace q609:=eq_true q609;have hnb16:=NB608_606.out;have hnc16:=NB606_608.out;have hcz17_0 : wr.cell? ⟨gb608,0,none⟩ = some (.bool ((rd_T133 l0_0 x10_1).f0)):=(blk_cell BK608.out 0).trans rfl;have hcz17_1 : wr.cell? ⟨gb608,1,none⟩ = some (.slice (some ad609) ((rd_T133 l0_0 x10_1).f1).length c607_1):=(blk_cell BK608.out 1).trans rfl;have hfz17_0:=blk_frozen BK608.out 0;have hfz17_1:=blk_frozen BK608.out 1
              go_wp2
              go_ret
              exact ⟨by first | rfl | (simp [errW_none,errW_some] <;> rfl) | (simp [*,errW_none,errW_some] <;> rfl),hs2 HB GE606 GE608⟩
             rw [if_neg c15] at H;have c15b0 : decide ((rd ((rd_T133 l0_0 x10_1).f1) x22_2) < 0) = false:=decide_eq_false c15;clear c15;have H':=Aside0.mk H;clear H;have p609 : 0 ≤ (x22_2 : Int):=of_decide_eq_true (by first | (with_reducible assumption) | assumption);have q609 : x22_2 < (((rd_T133 l0_0 x10_1).f1).length : Int):=of_decide_eq_true (by first | (with_reducible assumption) | assumption);obtain ⟨ad609,e609,hx609_0⟩:=Kd.at_int HR607_1.out x22_2 p609 q609;cases e609;replace hx609_0:=(HB.out.cell (World.block_lt_of_cell? w _ hx609_0)).trans hx609_0;replace p609:=eq_true p609;replace q609:=eq_true q609;have hnb18:=NB608_606.out;have hnc18:=NB606_608.out;have hcz19_0 : wr.cell? ⟨gb608,0,none⟩ = some (.bool ((rd_T133 l0_0 x10_1).f0)):=(blk_cell BK608.out 0).trans rfl;have hcz19_1 : wr.cell? ⟨gb608,1,none⟩ = some (.slice (some ad609) ((rd_T133 l0_0 x10_1).f1).length c607_1):=(blk_cell BK608.out 1).trans rfl;have hfz19_0:=blk_frozen BK608.out 0;have hfz19_1:=blk_frozen BK608.out 1
             go_wp2
             go_roundg k2;case measure=>have:=HK1.out;have:=HK2.out;omega
             case rel=>exact ⟨(wrap64 (x22_2 + 1)),(by first | rfl | (simp;done) | (simp [*];done)),H',⟨by have:=HK1.out;have:=HK2.out;omega⟩,⟨bs BK606⟩,⟨bs BK608⟩,⟨hs2 HB GE606 GE608⟩⟩
            rw [if_neg c14] at H;have c14b0 : ((rd_T133 l0_0 x10_1).f0) = false:=by simpa using c14
            clear c14
            by_cases c20 : (rd ((rd_T133 l0_0 x10_1).f1) x22_2) = (-1)
            ·rw [if_pos c20] at H;have c20b0 : ((rd ((rd_T133 l0_0 x10_1).f1) x22_2) == (-1)) = true:=beq_iff_eq.mpr c20;have c20b1 : ((rd ((rd_T133 l0_0 x10_1).f1) x22_2) != (-1)) = false:=bne_eq_false_iff_eq.mpr c20;clear c20;have H':=Aside0.mk H;clear H;have p609 : 0 ≤ (x22_2 : Int):=of_decide_eq_true (by first | (with_reducible assumption) | assumption);have q609 : x22_2 < (((rd_T133 l0_0 x10_1).f1).length : Int):=of_decide_eq_true (by first | (with_reducible assumption) | assumption);obtain ⟨ad609,e609,hx609_0⟩:=Kd.at_int HR607_1.out x22_2 p609 q609;cases e609;replace hx609_0:=(HB.out.cell (World.block_lt_of_cell? w _ hx609_0)).trans hx609_0;replace p609:=eq_true p609;replace q609:=eq_true q609;have hnb21:=NB608_606.out;have hnc21:=NB606_608.out;have hcz22_0 : wr.cell? ⟨gb608,0,none⟩ = some (.bool ((rd_T133 l0_0 x10_1).f0)):=(blk_cell BK608.out 0).trans rfl;have hcz22_1 : wr.cell? ⟨gb608,1,none⟩ = some (.slice (some ad609) ((rd_T133 l0_0 x10_1).f1).length c607_1):=(blk_cell BK608.out 1).trans rfl;have hfz22_0:=blk_frozen BK608.out 0;have hfz22_1:=blk_frozen BK608.out 1
             go_wp2
             go_roundg k2;case measure=>have:=HK1.out;have:=HK2.out;omega
             case rel=>exact ⟨(wrap64 (x22_2 + 1)),(by first | rfl | (simp;done) | (simp [*];done)),H',⟨by have:=HK1.out;have:=HK2.out;omega⟩,⟨bs BK606⟩,⟨bs BK608⟩,⟨hs2 HB GE606 GE608⟩⟩
            rw [if_neg c20] at H;have c20b0 : ((rd ((rd_T133 l0_0 x10_1).f1) x22_2) == (-1)) = false:=beq_eq_false_iff_ne.mpr c20;have c20b1 : ((rd ((rd_T133 l0_0 x10_1).f1) x22_2) != (-1)) = true:=bne_iff_ne.mpr c20;replace H:=Option.bind_eq_some_iff.mp H;obtain ⟨t610,A230,H⟩:=H;replace H : (if t610 = true then (if 0 ≤ (rd ((rd_T133 l0_0 x10_1).f1) x22_2) then (if (rd ((rd_T133 l0_0 x10_1).f1) x22_2) < (l0_0.length : Int) then (if ((rd_T133 l0_0 (rd ((rd_T133 l0_0 x10_1).f1) x22_2)).f0 = true) then (impl_ArenaOk.l1 k2 x10_1 l0_0 (l0_0.length : Int) x10_1 ((rd_T133 l0_0 x10_1).f1) (((rd_T133 l0_0 x10_1).f1).length : Int) (wrap64 (x22_2 + 1)) l0_0 ((rd_T133 l0_0 x10_1).f0) ((rd_T133 l0_0 x10_1).f1)) else (some false)) else (none)) else (none)) else (some false)) = some r:=H;have A23:=Aside0.mk A230;clear A230
            by_cases c24 : t610 = true
            ·subst c24;have H1 : (if 0 ≤ (rd ((rd_T133 l0_0 x10_1).f1) x22_2) then (if (rd ((rd_T133 l0_0 x10_1).f1) x22_2) < (l0_0.length : Int) then (if ((rd_T133 l0_0 (rd ((rd_T133 l0_0 x10_1).f1) x22_2)).f0 = true) then (impl_ArenaOk.l1 k2 x10_1 l0_0 (l0_0.length : Int) x10_1 ((rd_T133 l0_0 x10_1).f1) (((rd_T133 l0_0 x10_1).f1).length : Int) (wrap64 (x22_2 + 1)) l0_0 ((rd_T133 l0_0 x10_1).f0) ((rd_T133 l0_0 x10_1).f1)) else (some false)) else (none)) else (none)) = some r:=by rw [if_pos rfl] at H;exact H
             clear H;have H:=H1;clear H1
             by_cases c25 : 0 ≤ (rd ((rd_T133 l0_0 x10_1).f1) x22_2)
             ·rw [if_pos c25] at H;have c25b0 : decide (0 ≤ (rd ((rd_T133 l0_0 x10_1).f1) x22_2)) = true:=decide_eq_true c25;clear c25
              by_cases c26 : (rd ((rd_T133 l0_0 x10_1).f1) x22_2) < (l0_0.length : Int)
              ·rw [if_pos c26] at H;have c26b0 : decide ((rd ((rd_T133 l0_0 x10_1).f1) x22_2) < (l0_0.length : Int)) = true:=decide_eq_true c26;clear c26;obtain ⟨bq27,hbq27⟩ : ∃ b_ : Bool,b_ = ((rd_T133 l0_0 (rd ((rd_T133 l0_0 x10_1).f1) x22_2)).f0):=⟨_,rfl⟩;replace H : (if (bq27 = true) then (impl_ArenaOk.l1 k2 x10_1 l0_0 (l0_0.length : Int) x10_1 ((rd_T133 l0_0 x10_1).f1) (((rd_T133 l0_0 x10_1).f1).length : Int) (wrap64 (x22_2 + 1)) l0_0 ((rd_T133 l0_0 x10_1).f0) ((rd_T133 l0_0 x10_1).f1)) else (some false)) = some r:=by rw [← hbq27] at H;exact H
               have Nbq27:=Aside0.mk hbq27;clear hbq27
               (try rw [← Nbq27.out] at A23)
               by_cases c28 : (bq27 = true)
               ·subst c28;have H1 : (impl_ArenaOk.l1 k2 x10_1 l0_0 (l0_0.length : Int) x10_1 ((rd_T133 l0_0 x10_1).f1) (((rd_T133 l0_0 x10_1).f1).length : Int) (wrap64 (x22_2 + 1)) l0_0 ((rd_T133 l0_0 x10_1).f0) ((rd_T133 l0_0 x10_1).f1)) = some r:=by rw [if_pos rfl] at H;exact H
                clear H;have H:=H1;clear H1;have H':=Aside0.mk H;clear H;have p609 : 0 ≤ (x22_2 : Int):=of_decide_eq_true (by first | (with_reducible assumption) | assumption);have q609 : x22_2 < (((rd_T133 l0_0 x10_1).f1).length : Int):=of_decide_eq_true (by first | (with_reducible assumption) | assumption);obtain ⟨ad609,e609,hx609_0⟩:=Kd.at_int HR607_1.out x22_2 p609 q609;cases e609;replace hx609_0:=(HB.out.cell (World.block_lt_of_cell? w _ hx609_0)).trans hx609_0;replace p609:=eq_true p609;replace q609:=eq_true q609;have hnb29:=NB608_606.out;have hnc29:=NB606_608.out;have hcz30_0 : wr.cell? ⟨gb608,0,none⟩ = some (.bool ((rd_T133 l0_0 x10_1).f0)):=(blk_cell BK608.out 0).trans rfl;have hcz30_1 : wr.cell? ⟨gb608,1,none⟩ = some (.slice (some ad609) ((rd_T133 l0_0 x10_1).f1).length c607_1):=(blk_cell BK608.out 1).trans rfl;have hfz30_0:=blk_frozen BK608.out 0;have hfz30_1:=blk_frozen BK608.out 1;go_wp2_with (first | (go_at_call 84;(with_reducible refine (impl_in.calls (rd ((rd_T133 l0_0 x10_1).f1) x22_2) 0 (wrap64 (x10_1 - 1)) true _ A23.out).mono ?_);rintro e w' ⟨rfl,⟨nd,rfl⟩⟩;have hcz31_0 : wr.cell? ⟨gb606,0,none⟩ = some (.slice (some ad607) l0_0.length c0_0):=(blk_cell BK606.out 0).trans rfl;have hfz31_0:=blk_frozen BK606.out 0;have p611 : 0 ≤ ((rd ((rd_T133 l0_0 x10_1).f1) x22_2) : Int):=of_decide_eq_true (by first | (with_reducible assumption) | assumption);have q611 : (rd ((rd_T133 l0_0 x10_1).f1) x22_2) < (l0_0.length : Int):=of_decide_eq_true (by first | (with_reducible assumption) | assumption);obtain ⟨ad611,A611_1,c611_1,e611,hx611_0,hx611_1,hl611_1,hi611_1⟩:=at_T133 HR0_0.out (rd ((rd_T133 l0_0 x10_1).f1) x22_2) p611 q611;(try rw [← Nbq27.out] at hx611_0);obtain rfl : ad607 = ad611:=(by injection e611);replace hx611_0:=(HB.out.cell (World.block_lt_of_cell? w _ hx611_0)).trans hx611_0;replace hx611_1:=(HB.out.cell (World.block_lt_of_cell? w _ hx611_1)).trans hx611_1;have HR611_1:=Aside0.mk hi611_1;have HC611_1:=Aside0.mk hl611_1;clear hi611_1 hl611_1;replace p611:=eq_true p611;replace q611:=eq_true q611));go_roundg k2;case measure=>have:=HK1.out;have:=HK2.out;omega
                case rel=>exact ⟨(wrap64 (x22_2 + 1)),(by first | rfl | (simp;done) | (simp [*];done)),H',⟨by have:=HK1.out;have:=HK2.out;omega⟩,⟨bs BK606⟩,⟨bs BK608⟩,⟨hs2 HB GE606 GE608⟩⟩
               replace c28:=Bool.eq_false_iff.mpr c28;subst c28;have H1 : (some false) = some r:=by rw [if_neg (show ¬ (false = true) by decide)] at H;exact H
               clear H;have H:=H1;clear H1;obtain rfl:=Option.some.inj H;have p609 : 0 ≤ (x22_2 : Int):=of_decide_eq_true (by first | (with_reducible assumption) | assumption);have q609 : x22_2 < (((rd_T133 l0_0 x10_1).f1).length : Int):=of_decide_eq_true (by first | (with_reducible assumption) | assumption);obtain ⟨ad609,e609,hx609_0⟩:=Kd.at_int HR607_1.out x22_2 p609 q609;cases e609;replace hx609_0:=(HB.out.cell (World.block_lt_of_cell? w _ hx609_0)).trans hx609_0;replace p609:=eq_true p609;replace q609:=eq_true q609;have hnb32:=NB608_606.out;have hnc32:=NB606_608.out;have hcz33_0 : wr.cell? ⟨gb608,0,none⟩ = some (.bool ((rd_T133 l0_0 x10_1).f0)):=(blk_cell BK608.out 0).trans rfl;have hcz33_1 : wr.cell? ⟨gb608,1,none⟩ = some (.slice (some ad609) ((rd_T133 l0_0 x10_1).f1).length c607_1):=(blk_cell BK608.out 1).trans rfl;have hfz33_0:=blk_frozen BK608.out 0;have hfz33_1:=blk_frozen BK608.out 1;go_wp2_with (first | (go_at_call 84;(with_reducible refine (impl_in.calls (rd ((rd_T133 l0_0 x10_1).f1) x22_2) 0 (wrap64 (x10_1 - 1)) true _ A23.out).mono ?_);rintro e w' ⟨rfl,⟨nd,rfl⟩⟩;have hcz34_0 : wr.cell? ⟨gb606,0,none⟩ = some (.slice (some ad607) l0_0.length c0_0):=(blk_cell BK606.out 0).trans rfl;have hfz34_0:=blk_frozen BK606.out 0;have p611 : 0 ≤ ((rd ((rd_T133 l0_0 x10_1).f1) x22_2) : Int):=of_decide_eq_true (by first | (with_reducible assumption) | assumption);have q611 : (rd ((rd_T133 l0_0 x10_1).f1) x22_2) < (l0_0.length : Int):=of_decide_eq_true (by first | (with_reducible assumption) | assumption);obtain ⟨ad611,A611_1,c611_1,e611,hx611_0,hx611_1,hl611_1,hi611_1⟩:=at_T133 HR0_0.out (rd ((rd_T133 l0_0 x10_1).f1) x22_2) p611 q611;(try rw [← Nbq27.out] at hx611_0);obtain rfl : ad607 = ad611:=(by injection e611);replace hx611_0:=(HB.out.cell (World.block_lt_of_cell? w _ hx611_0)).trans hx611_0;replace hx611_1:=(HB.out.cell (World.block_lt_of_cell? w _ hx611_1)).trans hx611_1;have HR611_1:=Aside0.mk hi611_1;have HC611_1:=Aside0.mk hl611_1;clear hi611_1 hl611_1;replace p611:=eq_true p611;replace q611:=eq_true q611))
               go_ret
               exact ⟨by first | rfl | (simp [errW_none,errW_some] <;> rfl) | (simp [*,errW_none,errW_some] <;> rfl),hs2 HB GE606 GE608⟩
              rw [if_neg c26] at H;exact absurd H (by simp)
             rw [if_neg c25] at H;exact absurd H (by simp)
            replace c24:=Bool.eq_false_iff.mpr c24;subst c24;have H1 : (some false) = some r:=by rw [if_neg (show ¬ (false = true) by decide)] at H;exact H
            clear H;have H:=H1;clear H1;obtain rfl:=Option.some.inj H;have p609 : 0 ≤ (x22_2 : Int):=of_decide_eq_true (by first | (with_reducible assumption) | assumption);have q609 : x22_2 < (((rd_T133 l0_0 x10_1).f1).length : Int):=of_decide_eq_true (by first | (with_reducible assumption) | assumption);obtain ⟨ad609,e609,hx609_0⟩:=Kd.at_int HR607_1.out x22_2 p609 q609;cases e609;replace hx609_0:=(HB.out.cell (World.block_lt_of_cell? w _ hx609_0)).trans hx609_0;replace p609:=eq_true p609;replace q609:=eq_true q609;have hnb35:=NB608_606.out;have hnc35:=NB606_608.out;have hcz36_0 : wr.cell? ⟨gb608,0,none⟩ = some (.bool ((rd_T133 l0_0 x10_1).f0)):=(blk_cell BK608.out 0).trans rfl;have hcz36_1 : wr.cell? ⟨gb608,1,none⟩ = some (.slice (some ad609) ((rd_T133 l0_0 x10_1).f1).length c607_1):=(blk_cell BK608.out 1).trans rfl;have hfz36_0:=blk_frozen BK608.out 0;have hfz36_1:=blk_frozen BK608.out 1;go_wp2_with (first | (go_at_call 84;(with_reducible refine (impl_in.calls (rd ((rd_T133 l0_0 x10_1).f1) x22_2) 0 (wrap64 (x10_1 - 1)) false _ A23.out).mono ?_);rintro e w' ⟨rfl,⟨nd,rfl⟩⟩))
            go_ret
            exact ⟨by first | rfl | (simp [errW_none,errW_some] <;> rfl) | (simp [*,errW_none,errW_some] <;> rfl),hs2 HB GE606 GE608⟩
           rw [if_neg c13] at H;exact absurd H (by simp)
          rw [if_neg c12] at H;exact absurd H (by simp)
         rw [if_neg c11] at H;have c11b0 : decide (x22_2 < (((rd_T133 l0_0 x10_1).f1).length : Int)) = false:=decide_eq_false c11;clear c11;have H':=Aside0.mk H;clear H
         go_wp2
         go_roundg k2;case measure=>have:=HK1.out;have:=HK2.out;omega
         case rel=>exact ⟨(wrap64 (x10_1 + 1)),(by first | rfl | (simp;done) | (simp [*];done)),H',⟨by have:=HK1.out;have:=HK2.out;omega⟩,⟨bs BK606⟩,⟨hs2 HB GE606 GE608⟩⟩
      rw [if_neg c7] at H;have c7b0 : ((((rd_T133 l0_0 x10_1).f1).length : Int) == 4) = false:=beq_eq_false_iff_ne.mpr c7;have c7b1 : ((((rd_T133 l0_0 x10_1).f1).length : Int) != 4) = true:=bne_iff_ne.mpr c7;obtain rfl:=Option.some.inj H;have p607 : 0 ≤ (x10_1 : Int):=of_decide_eq_true (by first | (with_reducible assumption) | assumption);have q607 : x10_1 < (l0_0.length : Int):=of_decide_eq_true (by first | (with_reducible assumption) | assumption);obtain ⟨ad607,A607_1,c607_1,e607,hx607_0,hx607_1,hl607_1,hi607_1⟩:=at_T133 HR0_0.out x10_1 p607 q607;cases e607;replace hx607_0:=(HB.out.cell (World.block_lt_of_cell? w _ hx607_0)).trans hx607_0;replace hx607_1:=(HB.out.cell (World.block_lt_of_cell? w _ hx607_1)).trans hx607_1;have HR607_1:=Aside0.mk hi607_1;have HC607_1:=Aside0.mk hl607_1;clear hi607_1 hl607_1;replace p607:=eq_true p607;replace q607:=eq_true q607;go_wp2_with (first | ((with_reducible refine gate_dst (N:=4) rfl ?_);refine box_event ?hg (N:=4) ?hd (cs:=#[.bool false,.slice none 0 0]) (t:=133) ?hr ?_;(case hd=>rfl);(case hg=>rfl);(case hr=>first | (go_simp;done) | (go_simp;rfl));intro gb608 hg w37 hbox hb;have n0_:=Aside0.mk (blk_below (g:=gb606) (o:=.cells #[.slice (some ad607) l0_0.length c0_0] 44 (0,0)) (bs BK606) hb);have n1_:=Aside0.mk (below_step (hs1 HB GE606) hb);have n2_:=Aside0.mk (hbox);have n3_:=Aside0.mk ((by rw [hg];exact (below_size (hs1 HB GE606)) : w.heap.size ≤ gb608));have n4_:=Aside0.mk ((by rw [hg];exact (below_size (hs1 HB GE606)) : w.heap.size ≤ gb608));have n5_:=Aside0.mk ((by rw [hg];exact Nat.ne_of_lt (blk_lt (g:=gb606) (o:=.cells #[.slice (some ad607) l0_0.length c0_0] 44 (0,0)) (bs BK606)) : gb606 ≠ gb608));have n6_:=Aside0.mk ((by rw [hg];exact Nat.ne_of_gt (blk_lt (g:=gb606) (o:=.cells #[.slice (some ad607) l0_0.length c0_0] 44 (0,0)) (bs BK606)) : gb608 ≠ gb606));clear BK606;clear HB;have BK606:=n0_;have HB:=n1_;have BK608:=n2_;have GW608:=n3_;have GE608:=n4_;have NB606_608:=n5_;have NB608_606:=n6_;clear n0_ n1_ n2_ n3_ n4_ n5_ n6_;clear hb hbox hg;have hnb38:=NB608_606.out;have hnc38:=NB606_608.out;have hcz39_0 : w37.cell? ⟨gb608,0,none⟩ = some (.bool false):=(blk_cell BK608.out 0).trans rfl;have hcz39_1 : w37.cell? ⟨gb608,1,none⟩ = some (.slice none 0 0):=(blk_cell BK608.out 1).trans rfl;have hfz39_0:=blk_frozen BK608.out 0;have hfz39_1:=blk_frozen BK608.out 1))
      go_ret
      exact ⟨by first | rfl | (simp [errW_none,errW_some] <;> rfl) | (simp [*,errW_none,errW_some] <;> rfl),hs2 HB GE606 GE608⟩
     rw [if_neg c6] at H;exact absurd H (by simp)
    rw [if_neg c5] at H;exact absurd H (by simp)
   rw [if_neg c4] at H;have c4b0 : decide (x10_1 < (l0_0.length : Int)) = false:=decide_eq_false c4;clear c4;obtain rfl:=Option.some.inj H
   go_wp2
   go_ret
   exact ⟨by first | rfl | (simp [errW_none,errW_some] <;> rfl) | (simp [*,errW_none,errW_some] <;> rfl),hs1 HB GE606⟩
end Go.Proofs.Ytdolplcbokioaaa.PB

namespace Go.Proofs.Ytdolplcbokioaaa.PB
open Go.RowKit Go.Proofs.YtdolplcbokioaaaW.PrintWords Go.Proofs.YtdolplcbokioaaaW.PrintLast Go.Proofs.YtdolplcbokioaaaW.PrintMore
attribute [local go_sem] max2_int min2_int max_two min_two max_three min_three max_four min_four   -- for this text's walks alone
set_option linter.unusedVariables false
set_option linter.unusedSimpArgs false
def impl_copyInts.f (l0 : List Int) : Option (List Int):=if ([] : List Int).length + l0.length < 17592186044416 then (some (([] : List Int) ++ l0)) else (none)
set_option maxHeartbeats 8000000 in
set_option maxRecDepth 100000 in
theorem impl_copyInts.calls (A0 : Option Addr) (c0 : Nat) (l0 : List Int) (r : List Int) (w : World) (hr0 : Kd.C (Kd.int .i64) w A0 l0.length l0) (hc0 : l0.length ≤ c0) (h : impl_copyInts.f l0 = some r) :
  Calls Try.prog 91 #[.slice A0 l0.length c0] w fun e w'=>∃ v0_ : Value,e = .returned (v0_) ∧ Kd.R (Kd.int .i64) 3 w' w.heap.size (fun _=>True) v0_ r ∧ Below w.heap.size w w':=by
 have HR0:=Aside0.mk hr0;have HC0:=Aside0.mk hc0;clear hr0 hc0;have HB:=Aside0.mk (Below.refl w.heap.size w);have H : (if ([] : List Int).length + l0.length < 17592186044416 then (some (([] : List Int) ++ l0)) else (none)) = some r:=h;clear h
 by_cases c2 : ([] : List Int).length + l0.length < 17592186044416
 ·rw [if_pos c2] at H;have LMc2:=Aside0.mk c2;clear c2;obtain ⟨y612,hy612⟩ : ∃ y_ : List Int,y_ = (([] : List Int) ++ l0):=⟨_,rfl⟩;replace H : (some y612) = some r:=by first | (rw [hy612];with_reducible exact H) | (have H2_:=(Option.bind_some _ _).symm.trans H;rw [hy612];with_reducible exact H2_) | (have H2_:=(Option.bind_some _ _).symm.trans H;with_reducible exact H2_) | with_reducible exact H | (rw [hy612];exact H) | exact H
  have Ny612:=Aside0.mk hy612;clear hy612;obtain rfl:=Option.some.inj H
  go_enter Try.func91,Try.ntmps91
  go_wp2_with (first | ((with_reducible refine gate_builtin (b:=.append) (xs:=#[(.const (.slice none 0 0)),.tmp 3]) rfl ?_);at_builtin;refine Kd.R_append_rows (Kd.int .i64) (w0:=w) w.heap.size rfl (.const (.slice none 0 0)) (.tmp 3) 26 3 (.int .i64 0) 8 rfl Try.underlying26 info3 rfl (by decide) (by omega) (.slice none 0 0) ([] : List Int) l0 _ _ _ (fun _=>True) (fun _=>False) rfl rfl ?aO ?aR (fun _ _ h=>h) (fun _ h=>h.elim) ?aF ?aB ?aS ?aL ?_;(case aR=>repeat (first | exact HR0.out | (with_reducible refine Kd.C_alloc ?_ _) | (with_reducible refine Kd.C_drewN ?_ _) | (with_reducible refine Kd.C_drew ?_)));(case aB=>exact (hs HB));(case aF=>exact (fun _ _=>trivial));(case aO=>exact ((Kd.R_nil _ _ _ _ (fun _=>True))));(case aS=>exact (below_size (hs HB)));(case aL=>have:=LMc2.out;omega);intro v613 w3 ho hb hg hat;rw [← Ny612.out] at ho;have n0_:=Aside0.mk (hb);have n1_:=Aside0.mk (ho);clear HB;have HB:=n0_;have HO614:=n1_;clear n0_ n1_;clear ho hb hg hat))
  go_ret
  exact ⟨_,by first | rfl | (simp [errW_none,errW_some] <;> rfl) | (simp [*,errW_none,errW_some] <;> rfl),rs HO614,hs HB⟩
 rw [if_neg c2] at H;exact absurd H (by simp)
end Go.Proofs.Ytdolplcbokioaaa.PB

namespace Go.Proofs.Ytdolplcbokioaaa.PB
open Go.RowKit Go.Proofs.YtdolplcbokioaaaW.PrintWords Go.Proofs.YtdolplcbokioaaaW.PrintLast Go.Proofs.YtdolplcbokioaaaW.PrintMore
attribute [local go_sem] max2_int min2_int max_two min_two max_three min_three max_four min_four   -- for this text's walks alone
set_option linter.unusedVariables false
set_option linter.unusedSimpArgs false
def impl_isRoot.f (l0_0 : List (S133)) (a1 : Int) : Option (Bool):=(impl_in.f a1 0 (wrap64 ((l0_0.length : Int) - 1))).bind fun t616=>(if t616 = true then (if 0 ≤ a1 then (if a1 < (l0_0.length : Int) then (some (!((rd_T133 l0_0 a1).f0))) else (none)) else (none)) else (some false))
set_option maxHeartbeats 8000000 in
set_option maxRecDepth 100000 in
theorem impl_isRoot.calls (A0_0 : Option Addr) (c0_0 : Nat) (l0_0 : List (S133)) (a1 : Int) (r : Bool) (w : World) (hr0_0 : Kd.C k133 w A0_0 l0_0.length l0_0) (hc0_0 : l0_0.length ≤ c0_0) (h : impl_isRoot.f l0_0 a1 = some r) :
  Calls Try.prog 92 #[.agg #[.slice A0_0 l0_0.length c0_0],.int .i64 a1] w fun e w'=>e = .returned (.bool r) ∧ Below w.heap.size w w':=by
 have hu44:=Try.underlying44;have HR0_0:=Aside0.mk hr0_0;have HC0_0:=Aside0.mk hc0_0;clear hr0_0 hc0_0;have HB:=Aside0.mk (Below.refl w.heap.size w);have H : ((impl_in.f a1 0 (wrap64 ((l0_0.length : Int) - 1))).bind fun t616=>(if t616 = true then (if 0 ≤ a1 then (if a1 < (l0_0.length : Int) then (some (!((rd_T133 l0_0 a1).f0))) else (none)) else (none)) else (some false))) = some r:=h;clear h;replace H:=Option.bind_eq_some_iff.mp H;obtain ⟨t616,A30,H⟩:=H;replace H : (if t616 = true then (if 0 ≤ a1 then (if a1 < (l0_0.length : Int) then (some (!((rd_T133 l0_0 a1).f0))) else (none)) else (none)) else (some false)) = some r:=H;have A3:=Aside0.mk A30;clear A30
 by_cases c4 : t616 = true
 ·subst c4;have H1 : (if 0 ≤ a1 then (if a1 < (l0_0.length : Int) then (some (!((rd_T133 l0_0 a1).f0))) else (none)) else (none)) = some r:=by rw [if_pos rfl] at H;exact H
  clear H;have H:=H1;clear H1
  by_cases c5 : 0 ≤ a1
  ·rw [if_pos c5] at H;have c5b0 : decide (0 ≤ a1) = true:=decide_eq_true c5;clear c5
   by_cases c6 : a1 < (l0_0.length : Int)
   ·rw [if_pos c6] at H;have c6b0 : decide (a1 < (l0_0.length : Int)) = true:=decide_eq_true c6;clear c6;obtain rfl:=Option.some.inj H
    go_enter Try.func92,Try.ntmps92
    go_wp2_with (first | ((with_reducible refine gate_dst (N:=2) rfl ?_);refine box_event ?hg (N:=2) ?hd (cs:=#[.slice A0_0 l0_0.length c0_0]) (t:=44) ?hr ?_;(case hd=>rfl);(case hg=>rfl);(case hr=>first | (go_simp;done) | (go_simp;rfl));intro gb615 hg w7 hbox hb;have n0_:=Aside0.mk (below_step (hs HB) hb);have n1_:=Aside0.mk (hbox);have n2_:=Aside0.mk ((by rw [hg];exact (below_size (hs HB)) : w.heap.size ≤ gb615));have n3_:=Aside0.mk ((by rw [hg];exact (below_size (hs HB)) : w.heap.size ≤ gb615));clear HB;have HB:=n0_;have BK615:=n1_;have GW615:=n2_;have GE615:=n3_;clear n0_ n1_ n2_ n3_;clear hb hbox hg;have hcz8_0 : w7.cell? ⟨gb615,0,none⟩ = some (.slice A0_0 l0_0.length c0_0):=(blk_cell BK615.out 0).trans rfl;have hfz8_0:=blk_frozen BK615.out 0) | ((with_reducible refine gate_callee (f:=84) rfl ?_);refine goesL_ (some 10) rfl rfl Try.func84 (by kernel_rfl) rfl #[.int .i64 a1,.int .i64 0,.int .i64 (wrap64 ((l0_0.length : Int) - 1))] rfl (by (try simp only [List.map_toArray,List.map_cons,List.map_nil]);first | done | rfl | (simp only [List.length_drop,List.length_take];rfl)) ?_;(with_reducible refine (impl_in.calls a1 0 (wrap64 ((l0_0.length : Int) - 1)) true _ A3.out).mono ?_);rintro e w' ⟨rfl,⟨nd,rfl⟩⟩;refine ⟨_,rfl,?_⟩;have p617 : 0 ≤ (a1 : Int):=of_decide_eq_true (by first | (with_reducible assumption) | assumption);have q617 : a1 < (l0_0.length : Int):=of_decide_eq_true (by first | (with_reducible assumption) | assumption);obtain ⟨ad617,A617_1,c617_1,e617,hx617_0,hx617_1,hl617_1,hi617_1⟩:=at_T133 HR0_0.out a1 p617 q617;cases e617;replace hx617_0:=(HB.out.cell (World.block_lt_of_cell? w _ hx617_0)).trans hx617_0;replace hx617_1:=(HB.out.cell (World.block_lt_of_cell? w _ hx617_1)).trans hx617_1;have HR617_1:=Aside0.mk hi617_1;have HC617_1:=Aside0.mk hl617_1;clear hi617_1 hl617_1;replace p617:=eq_true p617;replace q617:=eq_true q617))
    go_ret
    exact ⟨by first | rfl | (simp [errW_none,errW_some] <;> rfl) | (simp [*,errW_none,errW_some] <;> rfl),hs1 HB GE615⟩
   rw [if_neg c6] at H;exact absurd H (by simp)
  rw [if_neg c5] at H;exact absurd H (by simp)
 replace c4:=Bool.eq_false_iff.mpr c4;subst c4;have H1 : (some false) = some r:=by rw [if_neg (show ¬ (false = true) by decide)] at H;exact H
 clear H;have H:=H1;clear H1;obtain rfl:=Option.some.inj H
 go_enter Try.func92,Try.ntmps92
 go_wp2_with (first | ((with_reducible refine gate_dst (N:=2) rfl ?_);refine box_event ?hg (N:=2) ?hd (cs:=#[.slice A0_0 l0_0.length c0_0]) (t:=44) ?hr ?_;(case hd=>rfl);(case hg=>rfl);(case hr=>first | (go_simp;done) | (go_simp;rfl));intro gb615 hg w9 hbox hb;have n0_:=Aside0.mk (below_step (hs HB) hb);have n1_:=Aside0.mk (hbox);have n2_:=Aside0.mk ((by rw [hg];exact (below_size (hs HB)) : w.heap.size ≤ gb615));have n3_:=Aside0.mk ((by rw [hg];exact (below_size (hs HB)) : w.heap.size ≤ gb615));clear HB;have HB:=n0_;have BK615:=n1_;have GW615:=n2_;have GE615:=n3_;clear n0_ n1_ n2_ n3_;clear hb hbox hg;have hcz10_0 : w9.cell? ⟨gb615,0,none⟩ = some (.slice A0_0 l0_0.length c0_0):=(blk_cell BK615.out 0).trans rfl;have hfz10_0:=blk_frozen BK615.out 0) | ((with_reducible refine gate_callee (f:=84) rfl ?_);refine goesL_ (some 10) rfl rfl Try.func84 (by kernel_rfl) rfl #[.int .i64 a1,.int .i64 0,.int .i64 (wrap64 ((l0_0.length : Int) - 1))] rfl (by (try simp only [List.map_toArray,List.map_cons,List.map_nil]);first | done | rfl | (simp only [List.length_drop,List.length_take];rfl)) ?_;(with_reducible refine (impl_in.calls a1 0 (wrap64 ((l0_0.length : Int) - 1)) false _ A3.out).mono ?_);rintro e w' ⟨rfl,⟨nd,rfl⟩⟩;refine ⟨_,rfl,?_⟩))
 go_ret
 exact ⟨by first | rfl | (simp [errW_none,errW_some] <;> rfl) | (simp [*,errW_none,errW_some] <;> rfl),hs1 HB GE615⟩
end Go.Proofs.Ytdolplcbokioaaa.PB

namespace Go.Proofs.Ytdolplcbokioaaa.PB
open Go.RowKit Go.Proofs.YtdolplcbokioaaaW.PrintWords Go.Proofs.YtdolplcbokioaaaW.PrintLast Go.Proofs.YtdolplcbokioaaaW.PrintMore
attribute [local go_sem] max2_int min2_int max_two min_two max_three min_three max_four min_four   -- for this text's walks alone
set_option linter.unusedVariables false
set_option linter.unusedSimpArgs false
def impl_copyArena.l0 : Nat → List (S133) → Int → Int → List (S133) → Option ((List (S133)))
 | 0,_,_,_,_=>none
 | k + 1,x7,x8,x9,x621000=>if x9 < x8 then (if 0 ≤ x9 then (if x9 < (x7.length : Int) then ((impl_copyInts.f ((rd_T133 x7 x9).f1)).bind fun t623=>(if x621000.length < 4398046511104 then (impl_copyArena.l0 k x7 x8 (wrap64 (x9 + 1)) (x621000 ++ [(⟨(rd_T133 x7 x9).f0,t623⟩ : S133)])) else (none))) else (none)) else (none)) else (some x621000)
def impl_copyArena.f (k : Nat) (l0_0 : List (S133)) : Option ((List (S133))):=impl_copyArena.l0 k l0_0 (l0_0.length : Int) 0 ([] : List (S133))
theorem impl_copyArena.mono_l : ∀ k,(∀ y0 y1 y2 y3,LeO (impl_copyArena.l0 k y0 y1 y2 y3) (impl_copyArena.l0 (k + 1) y0 y1 y2 y3))
 | 0=>fun _ _ _ _ r h=>by simp [impl_copyArena.l0] at h
 | k + 1=>by
  have ih0:=impl_copyArena.mono_l k;intro y0 y1 y2 y3;unfold impl_copyArena.l0
  repeat' first
  | (with_reducible exact ih0 _ _ _ _)
  | (with_reducible exact LeO.refl _)
  | (with_reducible exact LeO.none _)
  | (with_reducible refine LeO.ite ?_ ?_)
  | (with_reducible refine LeO.bind ?_ (fun _=>?_))
  | exact ih0 _ _ _ _
  | exact LeO.none _
  | refine LeO.ite ?_ ?_
  | refine LeO.bind ?_ (fun _=>?_)
theorem impl_copyArena.mono : ∀ a0 k,LeO (impl_copyArena.f k a0) (impl_copyArena.f (k + 1) a0):=by
 intro a0 k;have ih0:=impl_copyArena.mono_l k;unfold impl_copyArena.f
 repeat' first
   | (with_reducible exact ih0 _ _ _ _)
   | (with_reducible exact LeO.refl _)
   | (with_reducible exact LeO.none _)
   | (with_reducible refine LeO.ite ?_ ?_)
   | (with_reducible refine LeO.bind ?_ (fun _=>?_))
   | exact ih0 _ _ _ _
   | exact LeO.none _
   | refine LeO.ite ?_ ?_
   | refine LeO.bind ?_ (fun _=>?_)
set_option maxHeartbeats 8000000 in
set_option maxRecDepth 100000 in
theorem impl_copyArena.calls (k : Nat) (A0_0 : Option Addr) (c0_0 : Nat) (l0_0 : List (S133)) (r : List (S133)) (w : World) (hr0_0 : Kd.C k133 w A0_0 l0_0.length l0_0) (hc0_0 : l0_0.length ≤ c0_0) (h : impl_copyArena.f k l0_0 = some r) :
  Calls Try.prog 93 #[.agg #[.slice A0_0 l0_0.length c0_0]] w fun e w'=>∃ v0_ : Value,e = .returned (.agg #[v0_]) ∧ Kd.S k133 133 w' w.heap.size (fun _=>True) v0_ r ∧ Below w.heap.size w w':=by
 have hu44:=Try.underlying44;have hu133:=Try.underlying133;have HR0_0:=Aside0.mk hr0_0;have HC0_0:=Aside0.mk hc0_0;clear hr0_0 hc0_0;have HB:=Aside0.mk (Below.refl w.heap.size w);have H : (impl_copyArena.l0 k l0_0 (l0_0.length : Int) 0 ([] : List (S133))) = some r:=h;clear h;have H':=Aside0.mk H;clear H
 go_enter Try.func93,Try.ntmps93
 go_wp2_with (first | ((with_reducible refine gate_dst (N:=1) rfl ?_);refine box_event ?hg (N:=1) ?hd (cs:=#[.slice A0_0 l0_0.length c0_0]) (t:=44) ?hr ?_;(case hd=>rfl);(case hg=>rfl);(case hr=>first | (go_simp;done) | (go_simp;rfl));intro gb618 hg w2 hbox hb;have n0_:=Aside0.mk (below_step (hs HB) hb);have n1_:=Aside0.mk (hbox);have n2_:=Aside0.mk ((by rw [hg];exact (below_size (hs HB)) : w.heap.size ≤ gb618));have n3_:=Aside0.mk ((by rw [hg];exact (below_size (hs HB)) : w.heap.size ≤ gb618));clear HB;have HB:=n0_;have BK618:=n1_;have GW618:=n2_;have GE618:=n3_;clear n0_ n1_ n2_ n3_;clear hb hbox hg) | ((with_reducible refine gate_dst (N:=2) rfl ?_);refine box_event ?hg (N:=2) ?hd (cs:=#[.slice none 0 0]) (t:=44) ?hr ?_;(case hd=>rfl);(case hg=>rfl);(case hr=>first | (go_simp;done) | (go_simp;rfl));intro gb619 hg w3 hbox hb;have n0_:=Aside0.mk (blk_below (g:=gb618) (o:=.cells #[.slice A0_0 l0_0.length c0_0] 44 (0,0)) (bs BK618) hb);have n1_:=Aside0.mk (below_step (hs1 HB GE618) hb);have n2_:=Aside0.mk (hbox);have n3_:=Aside0.mk ((by rw [hg];exact (below_size (hs1 HB GE618)) : w.heap.size ≤ gb619));have n4_:=Aside0.mk ((by rw [hg];exact (below_size (hs1 HB GE618)) : w.heap.size ≤ gb619));have n5_:=Aside0.mk ((by rw [hg];exact Nat.ne_of_lt (blk_lt (g:=gb618) (o:=.cells #[.slice A0_0 l0_0.length c0_0] 44 (0,0)) (bs BK618)) : gb618 ≠ gb619));have n6_:=Aside0.mk ((by rw [hg];exact Nat.ne_of_gt (blk_lt (g:=gb618) (o:=.cells #[.slice A0_0 l0_0.length c0_0] 44 (0,0)) (bs BK618)) : gb619 ≠ gb618));clear BK618;clear HB;have BK618:=n0_;have HB:=n1_;have BK619:=n2_;have GW619:=n3_;have GE619:=n4_;have NB618_619:=n5_;have NB619_618:=n6_;clear n0_ n1_ n2_ n3_ n4_ n5_ n6_;clear hb hbox hg) | ((with_reducible refine gate_dst (N:=3) rfl ?_);refine box_event ?hg (N:=3) ?hd (cs:=#[.slice none 0 0]) (t:=44) ?hr ?_;(case hd=>rfl);(case hg=>rfl);(case hr=>first | (go_simp;done) | (go_simp;rfl));intro gb620 hg w4 hbox hb;have n0_:=Aside0.mk (blk_below (g:=gb618) (o:=.cells #[.slice A0_0 l0_0.length c0_0] 44 (0,0)) (bs BK618) hb);have n1_:=Aside0.mk (blk_below (g:=gb619) (o:=.cells #[.slice none 0 0] 44 (0,0)) (bs BK619) hb);have n2_:=Aside0.mk (below_step (hs2 HB GE618 GE619) hb);have n3_:=Aside0.mk (hbox);have n4_:=Aside0.mk ((by rw [hg];exact (below_size (hs2 HB GE618 GE619)) : w.heap.size ≤ gb620));have n5_:=Aside0.mk ((by rw [hg];exact (below_size (hs2 HB GE618 GE619)) : w.heap.size ≤ gb620));have n6_:=Aside0.mk ((by rw [hg];exact Nat.ne_of_lt (blk_lt (g:=gb618) (o:=.cells #[.slice A0_0 l0_0.length c0_0] 44 (0,0)) (bs BK618)) : gb618 ≠ gb620));have n7_:=Aside0.mk ((by rw [hg];exact Nat.ne_of_gt (blk_lt (g:=gb618) (o:=.cells #[.slice A0_0 l0_0.length c0_0] 44 (0,0)) (bs BK618)) : gb620 ≠ gb618));have n8_:=Aside0.mk ((by rw [hg];exact Nat.ne_of_lt (blk_lt (g:=gb619) (o:=.cells #[.slice none 0 0] 44 (0,0)) (bs BK619)) : gb619 ≠ gb620));have n9_:=Aside0.mk ((by rw [hg];exact Nat.ne_of_gt (blk_lt (g:=gb619) (o:=.cells #[.slice none 0 0] 44 (0,0)) (bs BK619)) : gb620 ≠ gb619));clear BK618;clear BK619;clear HB;have BK618:=n0_;have BK619:=n1_;have HB:=n2_;have BK620:=n3_;have GW620:=n4_;have GE620:=n5_;have NB618_620:=n6_;have NB620_618:=n7_;have NB619_620:=n8_;have NB620_619:=n9_;clear n0_ n1_ n2_ n3_ n4_ n5_ n6_ n7_ n8_ n9_;clear hb hbox hg;have hnb5:=NB618_619.out;have hnc5:=NB619_618.out;have hnb6:=NB618_620.out;have hnc6:=NB620_618.out;have hcz7_0 : w4.cell? ⟨gb618,0,none⟩ = some (.slice A0_0 l0_0.length c0_0):=(blk_cell BK618.out 0).trans rfl;have hfz7_0:=blk_frozen BK618.out 0));go_loopg [9] k (fun kq v9 w'=>∃ (x9_1 : Int) (x621000_1 : List (S133)) (u621000 : Value),v9 = .int .i64 x9_1 ∧ Aside0 (impl_copyArena.l0 kq l0_0 (l0_0.length : Int) x9_1 x621000_1 = some r) ∧ Aside0 (kq ≤ k) ∧ Aside0 (Kd.S k133 133 w' w.heap.size (fun _=>True) u621000 x621000_1) ∧ Aside0 (w'.heap[gb618]? = some (.cells #[(.slice A0_0 l0_0.length c0_0)] 44 (0,0))) ∧ Aside0 (w'.heap[gb619]? = some (.cells #[(.slice none 0 0)] 44 (0,0))) ∧ Aside0 (w'.heap[gb620]? = some (.cells #[u621000] 44 (0,0))) ∧ Aside0 (Below w.heap.size w w'));case atStart=>exact ⟨(0),(([] : List (S133))),(.slice none 0 0),(by first | rfl | (simp;done) | (simp [*];done)),H',⟨Nat.le_refl _⟩,⟨by first | exact Kd.S_nil _ _ _ _ _ | exact Kd.N_nil _ _ _ _ _ | exact Kd.V_nil _ _ _ _ _ | exact Kd.Q_nil _ _ _ _ _ | exact Kd.R_nil _ _ _ _ _⟩,⟨bs BK618⟩,⟨bs BK619⟩,⟨bs BK620⟩,⟨hs3 HB GE618 GE619 GE620⟩⟩
 case round =>
  clear H'
  try clear p2
  try clear c5
  try clear c6
  try clear hcz7_0
  try clear hfz7_0
  obtain ⟨x9_1,x621000_1,u621000,rfl,HA,HK1,HO_621000,BK618,BK619,BK620,HB⟩:=hrel;cases gk with
  | zero=>exact absurd HA.out (by simp [impl_copyArena.l0])
  | succ k1 =>
   have H:=HA.out;clear HA;simp only [impl_copyArena.l0] at H
   by_cases c8 : x9_1 < (l0_0.length : Int)
   ·rw [if_pos c8] at H;have c8b0 : decide (x9_1 < (l0_0.length : Int)) = true:=decide_eq_true c8;clear c8
    by_cases c9 : 0 ≤ x9_1
    ·rw [if_pos c9] at H;have c9b0 : decide (0 ≤ x9_1) = true:=decide_eq_true c9;clear c9
     by_cases c10 : x9_1 < (l0_0.length : Int)
     ·rw [if_pos c10] at H;have c10b0 : decide (x9_1 < (l0_0.length : Int)) = true:=decide_eq_true c10;clear c10;replace H:=Option.bind_eq_some_iff.mp H;obtain ⟨t623,A110,H⟩:=H;replace H : (if x621000_1.length < 4398046511104 then (impl_copyArena.l0 k1 l0_0 (l0_0.length : Int) (wrap64 (x9_1 + 1)) (x621000_1 ++ [(⟨(rd_T133 l0_0 x9_1).f0,t623⟩ : S133)])) else (none)) = some r:=H;have A11:=Aside0.mk A110;clear A110
      by_cases c12 : x621000_1.length < 4398046511104
      ·rw [if_pos c12] at H;have LMc12:=Aside0.mk c12;clear c12;obtain ⟨y626,hy626⟩ : ∃ y_ : List (S133),y_ = (x621000_1 ++ [(⟨(rd_T133 l0_0 x9_1).f0,t623⟩ : S133)]):=⟨_,rfl⟩;replace H : (impl_copyArena.l0 k1 l0_0 (l0_0.length : Int) (wrap64 (x9_1 + 1)) y626) = some r:=by first | (rw [hy626];with_reducible exact H) | (have H2_:=(Option.bind_some _ _).symm.trans H;rw [hy626];with_reducible exact H2_) | (have H2_:=(Option.bind_some _ _).symm.trans H;with_reducible exact H2_) | with_reducible exact H | (rw [hy626];exact H) | exact H
       have Ny626:=Aside0.mk hy626;clear hy626;have H':=Aside0.mk H;clear H;have p621 : 0 ≤ (x9_1 : Int):=of_decide_eq_true (by first | (with_reducible assumption) | assumption);have q621 : x9_1 < (l0_0.length : Int):=of_decide_eq_true (by first | (with_reducible assumption) | assumption);obtain ⟨ad621,A621_1,c621_1,e621,hx621_0,hx621_1,hl621_1,hi621_1⟩:=at_T133 HR0_0.out x9_1 p621 q621;cases e621;replace hx621_0:=(HB.out.cell (World.block_lt_of_cell? w _ hx621_0)).trans hx621_0;replace hx621_1:=(HB.out.cell (World.block_lt_of_cell? w _ hx621_1)).trans hx621_1;have HR621_1:=Aside0.mk hi621_1;have HC621_1:=Aside0.mk hl621_1;clear hi621_1 hl621_1;replace p621:=eq_true p621;replace q621:=eq_true q621;go_wp2_with (first | ((with_reducible refine gate_dst (N:=5) rfl ?_);refine box_event ?hg (N:=5) ?hd (cs:=#[.bool false,.slice none 0 0]) (t:=133) ?hr ?_;(case hd=>rfl);(case hg=>rfl);(case hr=>first | (go_simp;done) | (go_simp;rfl));intro gb622 hg w13 hbox hb;have n0_:=Aside0.mk (Kd.S_below (Kd.S_elderB (ss HO_621000) gb622 (Nat.le_of_eq hg.symm)) hb);have n1_:=Aside0.mk (blk_below (g:=gb618) (o:=.cells #[.slice (some ad621) l0_0.length c0_0] 44 (0,0)) (bs BK618) hb);have n2_:=Aside0.mk (blk_below (g:=gb619) (o:=.cells #[.slice none 0 0] 44 (0,0)) (bs BK619) hb);have n3_:=Aside0.mk (blk_below (g:=gb620) (o:=.cells #[u621000] 44 (0,0)) (bs BK620) hb);have n4_:=Aside0.mk (below_step (hs3 HB GE618 GE619 GE620) hb);have n5_:=Aside0.mk (hbox);have n6_:=Aside0.mk ((by rw [hg];exact (below_size (hs3 HB GE618 GE619 GE620)) : w.heap.size ≤ gb622));have n7_:=Aside0.mk ((by rw [hg];exact (below_size (hs3 HB GE618 GE619 GE620)) : w.heap.size ≤ gb622));have n8_:=Aside0.mk ((by rw [hg];exact Nat.ne_of_lt (blk_lt (g:=gb618) (o:=.cells #[.slice (some ad621) l0_0.length c0_0] 44 (0,0)) (bs BK618)) : gb618 ≠ gb622));have n9_:=Aside0.mk ((by rw [hg];exact Nat.ne_of_gt (blk_lt (g:=gb618) (o:=.cells #[.slice (some ad621) l0_0.length c0_0] 44 (0,0)) (bs BK618)) : gb622 ≠ gb618));have n10_:=Aside0.mk ((by rw [hg];exact Nat.ne_of_lt (blk_lt (g:=gb619) (o:=.cells #[.slice none 0 0] 44 (0,0)) (bs BK619)) : gb619 ≠ gb622));have n11_:=Aside0.mk ((by rw [hg];exact Nat.ne_of_gt (blk_lt (g:=gb619) (o:=.cells #[.slice none 0 0] 44 (0,0)) (bs BK619)) : gb622 ≠ gb619));have n12_:=Aside0.mk ((by rw [hg];exact Nat.ne_of_lt (blk_lt (g:=gb620) (o:=.cells #[u621000] 44 (0,0)) (bs BK620)) : gb620 ≠ gb622));have n13_:=Aside0.mk ((by rw [hg];exact Nat.ne_of_gt (blk_lt (g:=gb620) (o:=.cells #[u621000] 44 (0,0)) (bs BK620)) : gb622 ≠ gb620));clear HO_621000;clear BK618;clear BK619;clear BK620;clear HB;have HO_621000:=n0_;have BK618:=n1_;have BK619:=n2_;have BK620:=n3_;have HB:=n4_;have BK622:=n5_;have GW622:=n6_;have GE622:=n7_;have NB618_622:=n8_;have NB622_618:=n9_;have NB619_622:=n10_;have NB622_619:=n11_;have NB620_622:=n12_;have NB622_620:=n13_;clear n0_ n1_ n2_ n3_ n4_ n5_ n6_ n7_ n8_ n9_ n10_ n11_ n12_ n13_;clear hb hbox hg;have hnb14:=NB622_618.out;have hnc14:=NB618_622.out;have hnb15:=NB622_619.out;have hnc15:=NB619_622.out;have hnb16:=NB622_620.out;have hnc16:=NB620_622.out;have hcz17_0 : w13.cell? ⟨gb622,0,none⟩ = some (.bool false):=(blk_cell BK622.out 0).trans rfl;have hcz17_1 : w13.cell? ⟨gb622,1,none⟩ = some (.slice none 0 0):=(blk_cell BK622.out 1).trans rfl;have hfz17_0:=blk_frozen BK622.out 0;have hfz17_1:=blk_frozen BK622.out 1) | ((with_reducible refine gate_callee (f:=91) rfl ?_);refine goesL_ (some 15) rfl rfl Try.func91 (by kernel_rfl) rfl #[.slice A621_1 ((rd_T133 l0_0 x9_1).f1).length c621_1] rfl (by (try simp only [List.map_toArray,List.map_cons,List.map_nil]);first | done | rfl | (simp only [List.length_drop,List.length_take];rfl)) ?_;(with_reducible refine (impl_copyInts.calls _ _ ((rd_T133 l0_0 x9_1).f1) t623 _ ?side1 ?side2 A11.out).mono ?_);(case side1=>exact Kd.C_below HR621_1.out (hs4 HB GE618 GE619 GE620 GE622));(case side2=>exact HC621_1.out);rintro e w18 ⟨v624,rfl,ho0,hb⟩;refine ⟨_,rfl,?_⟩;have n0_:=Aside0.mk (Kd.S_elder' (by (with_reducible repeat (first | apply Kd.S_alloc | apply Kd.S_drewN | apply Kd.S_drew));exact (Kd.S_mono (Kd.S_far (p:=⟨gb622,1,none⟩) (Kd.S_far (p:=⟨gb622,0,none⟩) (Kd.S_mono HO_621000.out (fun k_ hk=>(⟨hk,hk.2⟩ : _ ∧ k_ ≠ gb622))) (fun _ hk=>hk.2) (.bool ((rd_T133 l0_0 x9_1).f0))) (fun _ hk=>hk.2) (.slice A621_1 ((rd_T133 l0_0 x9_1).f1).length c621_1)) (fun _ h_=>h_.1))) (Kd.R_base ho0) hb);have n1_:=Aside0.mk (Kd.R_lower ho0 (below_size (hs4 HB GE618 GE619 GE620 GE622)));have n2_:=Aside0.mk (blk_below (g:=gb618) (o:=.cells #[.slice (some ad621) l0_0.length c0_0] 44 (0,0)) (by (with_reducible repeat (first | refine blk_drewN ?_ _ | refine blk_drew ?_ | refine blk_alloc ?_ _));refine blk_far ?_ NB618_622.out _;(with_reducible repeat (first | refine blk_drewN ?_ _ | refine blk_drew ?_ | refine blk_alloc ?_ _));refine blk_far ?_ NB618_622.out _;(with_reducible repeat (first | refine blk_drewN ?_ _ | refine blk_drew ?_ | refine blk_alloc ?_ _));exact BK618.out) hb);have n3_:=Aside0.mk (blk_below (g:=gb619) (o:=.cells #[.slice none 0 0] 44 (0,0)) (by (with_reducible repeat (first | refine blk_drewN ?_ _ | refine blk_drew ?_ | refine blk_alloc ?_ _));refine blk_far ?_ NB619_622.out _;(with_reducible repeat (first | refine blk_drewN ?_ _ | refine blk_drew ?_ | refine blk_alloc ?_ _));refine blk_far ?_ NB619_622.out _;(with_reducible repeat (first | refine blk_drewN ?_ _ | refine blk_drew ?_ | refine blk_alloc ?_ _));exact BK619.out) hb);have n4_:=Aside0.mk (blk_below (g:=gb620) (o:=.cells #[u621000] 44 (0,0)) (by (with_reducible repeat (first | refine blk_drewN ?_ _ | refine blk_drew ?_ | refine blk_alloc ?_ _));refine blk_far ?_ NB620_622.out _;(with_reducible repeat (first | refine blk_drewN ?_ _ | refine blk_drew ?_ | refine blk_alloc ?_ _));refine blk_far ?_ NB620_622.out _;(with_reducible repeat (first | refine blk_drewN ?_ _ | refine blk_drew ?_ | refine blk_alloc ?_ _));exact BK620.out) hb);have n5_:=Aside0.mk (blk_below (g:=gb622) (o:=.cells #[.bool ((rd_T133 l0_0 x9_1).f0),.slice A621_1 ((rd_T133 l0_0 x9_1).f1).length c621_1] 133 (0,0)) (by (with_reducible repeat (first | refine blk_drewN ?_ _ | refine blk_drew ?_ | refine blk_alloc ?_ _));refine blk_put (cs:=#[.bool ((rd_T133 l0_0 x9_1).f0),.slice none 0 0]) ?_ 1 _ rfl;(with_reducible repeat (first | refine blk_drewN ?_ _ | refine blk_drew ?_ | refine blk_alloc ?_ _));refine blk_put (cs:=#[.bool false,.slice none 0 0]) ?_ 0 _ rfl;(with_reducible repeat (first | refine blk_drewN ?_ _ | refine blk_drew ?_ | refine blk_alloc ?_ _));exact BK622.out) hb);have n6_:=Aside0.mk (below_step (hs4 HB GE618 GE619 GE620 GE622) hb);clear HO_621000;clear BK618;clear BK619;clear BK620;clear BK622;clear HB;have HO_621000:=n0_;have HO625:=n1_;have BK618:=n2_;have BK619:=n3_;have BK620:=n4_;have BK622:=n5_;have HB:=n6_;clear n0_ n1_ n2_ n3_ n4_ n5_ n6_;(try clear hb);(try clear hb2);(try clear hk);(try clear hi);(try clear ho0);obtain ⟨Ao19,co19,eo19⟩:=Kd.R_slice HO625.out;subst eo19;have hcz20_0 : w18.cell? ⟨gb622,0,none⟩ = some (.bool ((rd_T133 l0_0 x9_1).f0)):=(blk_cell BK622.out 0).trans rfl;have hcz20_1 : w18.cell? ⟨gb622,1,none⟩ = some (.slice A621_1 ((rd_T133 l0_0 x9_1).f1).length c621_1):=(blk_cell BK622.out 1).trans rfl;have hfz20_0:=blk_frozen BK622.out 0;have hfz20_1:=blk_frozen BK622.out 1) | ((with_reducible refine gate_store (t:=26) (p:=16) rfl ?_);refine store_event (t:=26) (p:=16) (v:=?vo_w21) (w1:=(w18.setCell ⟨gb622,1,none⟩ (.slice Ao19 t623.length co19))) ?hg ?ho ?hn ?hr ?_;(case ho=>rfl);(case hg=>rfl);(case hn=>rfl);(case hr=>first | (go_simp;done) | (go_simp;rfl));intro w21 hw;have n0_ : Aside0 (Kd.S k133 133 w21 w.heap.size (fun k_=>some k_ ≠ (.slice Ao19 t623.length co19 : Value).ownBlock ∧ k_ ≠ gb622) u621000 x621000_1):=⟨(by rw [hw];exact (by (with_reducible repeat (first | apply Kd.S_alloc | apply Kd.S_drewN | apply Kd.S_drew));exact Kd.S_mono (Kd.S_far (p:=⟨gb622,1,none⟩) (Kd.S_mono HO_621000.out (fun k_ hk=>(⟨hk,hk.1.2⟩ : _ ∧ k_ ≠ gb622))) (fun _ hk=>hk.2) (.slice Ao19 t623.length co19)) (fun _ hk=>⟨hk.1.2,hk.1.1.2⟩)))⟩;have n1_ : Aside0 (Kd.R (Kd.int .i64) 3 w21 w.heap.size (fun _=>True) (.slice Ao19 t623.length co19) t623):=⟨(by rw [hw];exact (by (with_reducible repeat (first | apply Kd.R_alloc | apply Kd.R_drewN | apply Kd.R_drew));exact Kd.R_mono (Kd.R_far (p:=⟨gb622,1,none⟩) (Kd.R_types HO625.out BK622.out (by decide)) (fun _ hk=>hk.2) (.slice Ao19 t623.length co19)) (fun _ hk=>trivial)))⟩;have n2_ : Aside0 (w21.heap[gb618]? = some (.cells #[.slice (some ad621) l0_0.length c0_0] 44 (0,0))):=⟨(by rw [hw];exact (by (with_reducible repeat (first | refine blk_drewN ?_ _ | refine blk_drew ?_ | refine blk_alloc ?_ _));refine blk_far ?_ NB618_622.out _;(with_reducible repeat (first | refine blk_drewN ?_ _ | refine blk_drew ?_ | refine blk_alloc ?_ _));exact BK618.out))⟩;have n3_ : Aside0 (w21.heap[gb619]? = some (.cells #[.slice none 0 0] 44 (0,0))):=⟨(by rw [hw];exact (by (with_reducible repeat (first | refine blk_drewN ?_ _ | refine blk_drew ?_ | refine blk_alloc ?_ _));refine blk_far ?_ NB619_622.out _;(with_reducible repeat (first | refine blk_drewN ?_ _ | refine blk_drew ?_ | refine blk_alloc ?_ _));exact BK619.out))⟩;have n4_ : Aside0 (w21.heap[gb620]? = some (.cells #[u621000] 44 (0,0))):=⟨(by rw [hw];exact (by (with_reducible repeat (first | refine blk_drewN ?_ _ | refine blk_drew ?_ | refine blk_alloc ?_ _));refine blk_far ?_ NB620_622.out _;(with_reducible repeat (first | refine blk_drewN ?_ _ | refine blk_drew ?_ | refine blk_alloc ?_ _));exact BK620.out))⟩;have n5_ : Aside0 (w21.heap[gb622]? = some (.cells #[.bool ((rd_T133 l0_0 x9_1).f0),.slice Ao19 t623.length co19] 133 (0,0))):=⟨(by rw [hw];exact (by (with_reducible repeat (first | refine blk_drewN ?_ _ | refine blk_drew ?_ | refine blk_alloc ?_ _));refine blk_put (cs:=#[.bool ((rd_T133 l0_0 x9_1).f0),.slice A621_1 ((rd_T133 l0_0 x9_1).f1).length c621_1]) ?_ 1 _ rfl;(with_reducible repeat (first | refine blk_drewN ?_ _ | refine blk_drew ?_ | refine blk_alloc ?_ _));exact BK622.out))⟩;have n6_ : Aside0 (Below w.heap.size w w21):=⟨(by rw [hw];exact (hs4 HB GE618 GE619 GE620 GE622))⟩;clear hw;clear HO_621000;clear HO625;clear BK618;clear BK619;clear BK620;clear BK622;clear HB;have HO_621000:=n0_;have HO625:=n1_;have BK618:=n2_;have BK619:=n3_;have BK620:=n4_;have BK622:=n5_;have HB:=n6_;clear n0_ n1_ n2_ n3_ n4_ n5_ n6_;have hnb22:=NB620_618.out;have hnc22:=NB618_620.out;have hnb23:=NB620_619.out;have hnc23:=NB619_620.out;have hcz24_0 : w21.cell? ⟨gb620,0,none⟩ = some (u621000):=(blk_cell BK620.out 0).trans rfl;have hfz24_0:=blk_frozen BK620.out 0;have hcz25_0 : w21.cell? ⟨gb622,0,none⟩ = some (.bool ((rd_T133 l0_0 x9_1).f0)):=(blk_cell BK622.out 0).trans rfl;have hcz25_1 : w21.cell? ⟨gb622,1,none⟩ = some (.slice Ao19 t623.length co19):=(blk_cell BK622.out 1).trans rfl;have hfz25_0:=blk_frozen BK622.out 0;have hfz25_1:=blk_frozen BK622.out 1) | ((with_reducible refine gate_builtin (b:=.append) (xs:=#[.tmp 18,.tmp 20]) rfl ?_);at_builtin;refine Kd.S_append k133 (w0:=w) w.heap.size rfl (.tmp 18) (.tmp 20) 42 133 (.agg #[(.bool false),(.slice none 0 0)]) 32 rfl Try.underlying42 info133 rfl (by decide) (by omega) u621000 x621000_1 (⟨(rd_T133 l0_0 x9_1).f0,t623⟩ : S133) [.bool ((rd_T133 l0_0 x9_1).f0),.slice Ao19 t623.length co19] (fun k_=>k_ ≠ gb622) (fun k_=>some k_ = (.slice Ao19 t623.length co19 : Value).ownBlock) rfl rfl ?aP (fun k_ hk_=>((Kd.R_mono (ok':=fun k_=>((fun k_=>k_ ≠ gb622)) k_ ∧ some k_ ≠ (u621000 : Value).ownBlock) (Kd.R_types (Kd.R_apart' (HO625.out) (Kd.S_typed HO_621000.out) (by decide)) BK622.out (by decide)) (fun k_ hk=>⟨hk.2,hk.1.2⟩))).1 k_ hk_.symm) ?aF ?aO ?aB ?aS ?aL ?_;(case aP=>exact k133_mkM _ _ _ (⟨(rd_T133 l0_0 x9_1).f0,t623⟩ : S133) (Kd.R_mono (Kd.R_tight rfl (Kd.R_mono (ok':=fun k_=>((fun k_=>k_ ≠ gb622)) k_ ∧ some k_ ≠ (u621000 : Value).ownBlock) (Kd.R_types (Kd.R_apart' (HO625.out) (Kd.S_typed HO_621000.out) (by decide)) BK622.out (by decide)) (fun k_ hk=>⟨hk.2,hk.1.2⟩))) (fun _ h_=>h_)));(case aB=>exact (hs4 HB GE618 GE619 GE620 GE622));(case aF=>exact (fun k_ hk=>Kd.freshB (g:=gb622) (o:=.cells #[.bool ((rd_T133 l0_0 x9_1).f0),.slice Ao19 t623.length co19] 133 (0,0)) (bs BK622) k_ hk));(case aO=>exact (by (with_reducible repeat (first | apply Kd.S_alloc | apply Kd.S_drewN | apply Kd.S_drew));exact Kd.S_mono HO_621000.out (fun k_ hk=>⟨hk.2,fun e_=>hk.1 e_⟩)));(case aS=>exact (below_size (hs4 HB GE618 GE619 GE620 GE622)));(case aL=>have:=LMc12.out;omega);intro v627 w26 ho hb hg hat;rw [← Ny626.out] at ho;have n0_:=Aside0.mk (blk_grown (g:=gb618) (o:=.cells #[.slice (some ad621) l0_0.length c0_0] 44 (0,0)) (bs BK618) hg (Kd.S_ne HO_621000.out BK618.out (by decide)));have n1_:=Aside0.mk (blk_grown (g:=gb619) (o:=.cells #[.slice none 0 0] 44 (0,0)) (bs BK619) hg (Kd.S_ne HO_621000.out BK619.out (by decide)));have n2_:=Aside0.mk (blk_grown (g:=gb620) (o:=.cells #[u621000] 44 (0,0)) (bs BK620) hg (Kd.S_ne HO_621000.out BK620.out (by decide)));have n3_:=Aside0.mk (blk_grown (g:=gb622) (o:=.cells #[.bool ((rd_T133 l0_0 x9_1).f0),.slice Ao19 t623.length co19] 133 (0,0)) (bs BK622) hg (Kd.S_away HO_621000.out (fun _ hk=>hk.2)));have n4_:=Aside0.mk (hb);have n5_:=Aside0.mk (ho);clear BK618;clear BK619;clear BK620;clear BK622;clear HB;clear HO_621000;clear HO625;have BK618:=n0_;have BK619:=n1_;have BK620:=n2_;have BK622:=n3_;have HB:=n4_;have HO628:=n5_;clear n0_ n1_ n2_ n3_ n4_ n5_;clear ho hb hg hat;obtain ⟨Ao27,co27,eo27⟩:=Kd.S_slice HO628.out;subst eo27;have hcz28_0 : w26.cell? ⟨gb620,0,none⟩ = some (u621000):=(blk_cell BK620.out 0).trans rfl;have hfz28_0:=blk_frozen BK620.out 0));go_roundg k1;case measure=>have:=HK1.out;omega
       case rel=>exact ⟨(wrap64 (x9_1 + 1)),(y626),(.slice Ao27 y626.length co27),(by first | rfl | (simp;done) | (simp [*];done)),H',⟨by have:=HK1.out;omega⟩,⟨by (with_reducible repeat (first | apply Kd.S_alloc | apply Kd.S_drewN | apply Kd.S_drew));exact Kd.S_mono (Kd.S_far (p:=⟨gb620,0,none⟩) (Kd.S_types HO628.out BK620.out (by decide)) (fun _ hk=>hk.2) (.slice Ao27 y626.length co27)) (fun _ hk=>trivial)⟩,⟨by (with_reducible repeat (first | refine blk_drewN ?_ _ | refine blk_drew ?_ | refine blk_alloc ?_ _));refine blk_far ?_ NB618_620.out _;(with_reducible repeat (first | refine blk_drewN ?_ _ | refine blk_drew ?_ | refine blk_alloc ?_ _));exact BK618.out⟩,⟨by (with_reducible repeat (first | refine blk_drewN ?_ _ | refine blk_drew ?_ | refine blk_alloc ?_ _));refine blk_far ?_ NB619_620.out _;(with_reducible repeat (first | refine blk_drewN ?_ _ | refine blk_drew ?_ | refine blk_alloc ?_ _));exact BK619.out⟩,⟨by (with_reducible repeat (first | refine blk_drewN ?_ _ | refine blk_drew ?_ | refine blk_alloc ?_ _));refine blk_put (cs:=#[u621000]) ?_ 0 _ rfl;(with_reducible repeat (first | refine blk_drewN ?_ _ | refine blk_drew ?_ | refine blk_alloc ?_ _));exact BK620.out⟩,⟨hs4 HB GE618 GE619 GE620 GE622⟩⟩
      rw [if_neg c12] at H;exact absurd H (by simp)
     rw [if_neg c10] at H;exact absurd H (by simp)
    rw [if_neg c9] at H;exact absurd H (by simp)
   rw [if_neg c8] at H;have c8b0 : decide (x9_1 < (l0_0.length : Int)) = false:=decide_eq_false c8;clear c8;obtain rfl:=Option.some.inj H;have hnb29:=NB620_618.out;have hnc29:=NB618_620.out;have hnb30:=NB620_619.out;have hnc30:=NB619_620.out;have hcz31_0 : wr.cell? ⟨gb620,0,none⟩ = some (u621000):=(blk_cell BK620.out 0).trans rfl;have hfz31_0:=blk_frozen BK620.out 0;obtain ⟨Ao32,co32,eo32⟩:=Kd.S_slice HO_621000.out;subst eo32;have hnb33:=NB619_618.out;have hnc33:=NB618_619.out;have hcz34_0 : wr.cell? ⟨gb619,0,none⟩ = some (.slice none 0 0):=(blk_cell BK619.out 0).trans rfl;have hfz34_0:=blk_frozen BK619.out 0
   go_wp2
   refine bodyPost_ret (results_cell_row rfl _ _ gb619 44 #[.slice Ao32 x621000_1.length co32] (0,0) _ rfl (by (with_reducible repeat (first | refine blk_drewN ?_ _ | refine blk_drew ?_ | refine blk_alloc ?_ _));refine blk_put (cs:=#[.slice none 0 0]) ?_ 0 _ rfl;(with_reducible repeat (first | refine blk_drewN ?_ _ | refine blk_drew ?_ | refine blk_alloc ?_ _));exact BK619.out) Try.underlying44 rfl (by kernel_rfl)) rfl ?_;exact ⟨_,by first | rfl | (simp [errW_none,errW_some] <;> rfl) | (simp [*,errW_none,errW_some] <;> rfl),by (with_reducible repeat (first | apply Kd.S_alloc | apply Kd.S_drewN | apply Kd.S_drew));exact Kd.S_mono (Kd.S_far (p:=⟨gb619,0,none⟩) (Kd.S_types HO_621000.out BK619.out (by decide)) (fun _ hk=>hk.2) (.slice Ao32 x621000_1.length co32)) (fun _ hk=>trivial),hs3 HB GE618 GE619 GE620⟩
end Go.Proofs.Ytdolplcbokioaaa.PB
