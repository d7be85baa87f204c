/- FnRecords: functions of the translation as Lean functions with what their calls come to, plain lemmas on them, and, at the end, the row. Parts of one proof, merged by a program of this session; each part's own sentence stands at its head. -/
import Derived.Test.YtcpgpchdplpfiaaProg
import Derived.Below
import Derived.Deep.Draws
import Derived.Deep.AppendLies
import Derived.Maps.AppendAt
import Derived.OwnWalk
import Derived.Laws.BytesArg
import Derived.Laws.MakeOwn
import Derived.Laws.OwnMore
import Derived.Deep.OwnRows
import Derived.Tactics
import Derived.Lib.ConvBytes
import Derived.Laws.Slices
import Derived.WalkKit
import Derived.KernelRfl
import Derived.RowKit3
import Derived.Deep.LoopGhost
import Derived.Deep.QuietTactic
import Derived.BigQuiet
import Derived.WideLaws
import Derived.Deep.DeepCutAuto
import Derived.Deep.CutBlock
import Derived.Deep.RegionHeld3
import Derived.Laws.Rows
import Derived.Lib.AppendStr
import Derived.ArgAppend
import Derived.Laws.IdiomCopy
import Derived.OrdersHeld
import Derived.Laws.BitsLemmas
import Derived.RowKit
import Derived.Test.YtcpgpchdplpfiaaMFnRecordswa
/- Short words for facts that are carried over worlds that only drew or made an object. -/
namespace Go.Proofs.YtcpgpchdplpfiaaW.PrintWords
open Go.RowKit

theorem zMk {p : Prop} (h : p) : Aside0 p := ⟨h⟩
theorem zFr {w : World} {g : Nat} {t : TypeId} {cs : Array Value} (h : w.heap[g]? = some (.cells cs t (0, 0))) (i : Nat) : w.frozen? ⟨g, i, none⟩ = false := blk_frozen h i
theorem zCl {w : World} {g : Nat} {t : TypeId} {cs : Array Value} (h : w.heap[g]? = some (.cells cs t (0, 0))) (i : Nat) : w.cell? ⟨g, i, none⟩ = cs[i]? := blk_cell h i

inductive Strip (w0 : World) : World → Prop
  | refl : Strip w0 w0
  | alloc {w : World} (h : Strip w0 w) (o : Obj) : Strip w0 (w.alloc o)
  | drew {w : World} (h : Strip w0 w) : Strip w0 w.drew
  | drewN {w : World} (h : Strip w0 w) (m : Nat) : Strip w0 (w.drewN m)
theorem rs {α : Type} {d : Kd α} {e : TypeId} {w0 w : World} {base : Nat} {ok : Nat → Prop} {v : Value} {xs : List α} (a : Aside0 (d.R e w0 base ok v xs))
    (s : Strip w0 w := by (with_reducible repeat (first | refine Strip.alloc ?_ _ | refine Strip.drewN ?_ _ | refine Strip.drew ?_)); with_reducible exact Strip.refl) : d.R e w base ok v xs := by
  induction s with
  | refl => exact a.out
  | alloc _ o ih => exact Kd.R_alloc ih o
  | drew _ ih => exact Kd.R_drew ih
  | drewN _ m ih => exact Kd.R_drewN ih m
theorem bs {w0 w : World} {g : Nat} {o : Obj} (a : Aside0 (w0.heap[g]? = some o))
    (s : Strip w0 w := by (with_reducible repeat (first | refine Strip.alloc ?_ _ | refine Strip.drewN ?_ _ | refine Strip.drew ?_)); with_reducible exact Strip.refl) : w.heap[g]? = some o := by
  induction s with
  | refl => exact a.out
  | alloc _ o ih => exact blk_alloc ih o
  | drew _ ih => exact blk_drew ih
  | drewN _ m ih => exact blk_drewN ih m
theorem hs {u w0 w : World} (a : Aside0 (Below u.heap.size u w0))
    (s : Strip w0 w := by (with_reducible repeat (first | refine Strip.alloc ?_ _ | refine Strip.drewN ?_ _ | refine Strip.drew ?_)); with_reducible exact Strip.refl) : Below u.heap.size u w := by
  induction s with
  | refl => exact a.out
  | alloc _ o ih => exact below_alloc ih o
  | drew _ ih => exact below_drew1 ih
  | drewN _ m ih => exact pw_below_drewN ih m
theorem ss {α : Type} {d : Kd α} {e : TypeId} {w0 w : World} {base : Nat} {ok : Nat → Prop} {v : Value} {xs : List α} (a : Aside0 (d.S e w0 base ok v xs))
    (s : Strip w0 w := by (with_reducible repeat (first | refine Strip.alloc ?_ _ | refine Strip.drewN ?_ _ | refine Strip.drew ?_)); with_reducible exact Strip.refl) : d.S e w base ok v xs := by
  induction s with
  | refl => exact a.out
  | alloc _ o ih => exact Kd.S_alloc ih o
  | drew _ ih => exact Kd.S_drew ih
  | drewN _ m ih => exact Kd.S_drewN ih m
inductive StripG (G : Nat → Prop) (w0 : World) : World → Prop
  | refl : StripG G w0 w0
  | alloc {w : World} (h : StripG G w0 w) (o : Obj) : StripG G w0 (w.alloc o)
  | drew {w : World} (h : StripG G w0 w) : StripG G w0 w.drew
  | drewN {w : World} (h : StripG G w0 w) (m : Nat) : StripG G w0 (w.drewN m)
  | set {w : World} {g j : Nat} {v : Value} (h : StripG G w0 w) (hg : G g) : StripG G w0 (w.setCell ⟨g, j, none⟩ v)
theorem hsG {G : Nat → Prop} {u w0 w : World} (a : Below u.heap.size u w0) (hG : ∀ g, G g → u.heap.size ≤ g) (s : StripG G w0 w) : Below u.heap.size u w := by
  induction s with
  | refl => exact a
  | alloc _ o ih => exact below_alloc ih o
  | drew _ ih => exact below_drew1 ih
  | drewN _ m ih => exact pw_below_drewN ih m
  | set _ hg ih => exact below_set ih (hG _ hg)
theorem hs1 {u w0 w : World} {g1 : Nat} (a : Aside0 (Below u.heap.size u w0)) (b1 : Aside0 (u.heap.size ≤ g1))
    (s : StripG (fun g => g = g1) w0 w := by repeat (first | (with_reducible exact StripG.refl) | (with_reducible refine StripG.alloc ?_ _) | (with_reducible refine StripG.drewN ?_ _) | (with_reducible refine StripG.drew ?_) | (with_reducible refine StripG.set ?_ (by repeat (first | (with_reducible exact rfl) | (with_reducible exact Or.inl rfl) | (with_reducible apply Or.inr)))))) : Below u.heap.size u w :=
  hsG a.out (fun g h => by subst h; exact b1.out) s
theorem hs2 {u w0 w : World} {g1 g2 : Nat} (a : Aside0 (Below u.heap.size u w0)) (b1 : Aside0 (u.heap.size ≤ g1)) (b2 : Aside0 (u.heap.size ≤ g2))
    (s : StripG (fun g => g = g1 ∨ g = g2) w0 w := by repeat (first | (with_reducible exact StripG.refl) | (with_reducible refine StripG.alloc ?_ _) | (with_reducible refine StripG.drewN ?_ _) | (with_reducible refine StripG.drew ?_) | (with_reducible refine StripG.set ?_ (by repeat (first | (with_reducible exact rfl) | (with_reducible exact Or.inl rfl) | (with_reducible apply Or.inr)))))) : Below u.heap.size u w :=
  hsG a.out (fun g (h : g = g1 ∨ g = g2) => by rcases h with rfl | rfl <;> (first | exact b1.out | exact b2.out)) s
theorem hs3 {u w0 w : World} {g1 g2 g3 : Nat} (a : Aside0 (Below u.heap.size u w0)) (b1 : Aside0 (u.heap.size ≤ g1)) (b2 : Aside0 (u.heap.size ≤ g2)) (b3 : Aside0 (u.heap.size ≤ g3))
    (s : StripG (fun g => g = g1 ∨ g = g2 ∨ g = g3) w0 w := by repeat (first | (with_reducible exact StripG.refl) | (with_reducible refine StripG.alloc ?_ _) | (with_reducible refine StripG.drewN ?_ _) | (with_reducible refine StripG.drew ?_) | (with_reducible refine StripG.set ?_ (by repeat (first | (with_reducible exact rfl) | (with_reducible exact Or.inl rfl) | (with_reducible apply Or.inr)))))) : Below u.heap.size u w :=
  hsG a.out (fun g (h : g = g1 ∨ g = g2 ∨ g = g3) => by rcases h with rfl | rfl | rfl <;> (first | exact b1.out | exact b2.out | exact b3.out)) s
theorem hs4 {u w0 w : World} {g1 g2 g3 g4 : Nat} (a : Aside0 (Below u.heap.size u w0)) (b1 : Aside0 (u.heap.size ≤ g1)) (b2 : Aside0 (u.heap.size ≤ g2)) (b3 : Aside0 (u.heap.size ≤ g3)) (b4 : Aside0 (u.heap.size ≤ g4))
    (s : StripG (fun g => g = g1 ∨ g = g2 ∨ g = g3 ∨ g = g4) w0 w := by repeat (first | (with_reducible exact StripG.refl) | (with_reducible refine StripG.alloc ?_ _) | (with_reducible refine StripG.drewN ?_ _) | (with_reducible refine StripG.drew ?_) | (with_reducible refine StripG.set ?_ (by repeat (first | (with_reducible exact rfl) | (with_reducible exact Or.inl rfl) | (with_reducible apply Or.inr)))))) : Below u.heap.size u w :=
  hsG a.out (fun g (h : g = g1 ∨ g = g2 ∨ g = g3 ∨ g = g4) => by rcases h with rfl | rfl | rfl | rfl <;> (first | exact b1.out | exact b2.out | exact b3.out | exact b4.out)) s
theorem hs5 {u w0 w : World} {g1 g2 g3 g4 g5 : Nat} (a : Aside0 (Below u.heap.size u w0)) (b1 : Aside0 (u.heap.size ≤ g1)) (b2 : Aside0 (u.heap.size ≤ g2)) (b3 : Aside0 (u.heap.size ≤ g3)) (b4 : Aside0 (u.heap.size ≤ g4)) (b5 : Aside0 (u.heap.size ≤ g5))
    (s : StripG (fun g => g = g1 ∨ g = g2 ∨ g = g3 ∨ g = g4 ∨ g = g5) w0 w := by repeat (first | (with_reducible exact StripG.refl) | (with_reducible refine StripG.alloc ?_ _) | (with_reducible refine StripG.drewN ?_ _) | (with_reducible refine StripG.drew ?_) | (with_reducible refine StripG.set ?_ (by repeat (first | (with_reducible exact rfl) | (with_reducible exact Or.inl rfl) | (with_reducible apply Or.inr)))))) : Below u.heap.size u w :=
  hsG a.out (fun g (h : g = g1 ∨ g = g2 ∨ g = g3 ∨ g = g4 ∨ g = g5) => by rcases h with rfl | rfl | rfl | rfl | rfl <;> (first | exact b1.out | exact b2.out | exact b3.out | exact b4.out | exact b5.out)) s
end Go.Proofs.YtcpgpchdplpfiaaW.PrintWords

namespace Go.Proofs.Ytcpgpchdplpfiaa.PR
open Go.RowKit Go.Proofs.YtcpgpchdplpfiaaW.PrintWords Go.Proofs.YtcpgpchdplpfiaaW.PrintLast Go.Proofs.YtcpgpchdplpfiaaW.PrintMore
attribute [local go_sem] max2_int min2_int max_two min_two max_three min_three max_four min_four   -- for this text's walks alone
set_option linter.unusedVariables false
set_option linter.unusedSimpArgs false
def errW : Option Int → Value
 | none=>.nilIface
 | some c=>.iface 0 (.int .i64 c)
theorem errW_none : errW none = .nilIface:=rfl
theorem errW_some (c : Int) : errW (some c) = .iface 0 (.int .i64 c):=rfl
theorem info3 : (Try.prog.info? 3).map (fun i=>(i.zero,i.size,i.bytes)) = some (some (.int .i64 0),1,8):=by kernel_rfl
theorem info5 : (Try.prog.info? 5).map (fun i=>(i.zero,i.size,i.bytes)) = some (some (.int .u8 0),1,1):=by kernel_rfl
theorem info34 : (Try.prog.info? 34).map (fun i=>(i.zero,i.size,i.bytes)) = some (some (.agg #[(.int .i64 0),(.int .i64 0),(.int .i64 0),(.int .i64 0)]),4,32):=by kernel_rfl
-- the values' own types
structure S34 where
 f0 : Int
 f1 : Int
 f2 : Int
 f3 : Int
def z34 : S34:=⟨(0 : Int),(0 : Int),(0 : Int),(0 : Int)⟩
def k34 : Kd S34:=Kd.iso (Kd.pair (Kd.int .i64) (Kd.pair (Kd.int .i64) (Kd.pair (Kd.int .i64) (Kd.int .i64)))) (fun x : S34=>(x.f0,x.f1,x.f2,x.f3))
theorem k34_open {w : World} {x : S34} {cs : List Value} (h : k34.K w x cs) : cs = [.int .i64 x.f0,.int .i64 x.f1,.int .i64 x.f2,.int .i64 x.f3]:=by
 obtain ⟨_,_,rfl,rfl,⟨_,_,rfl,rfl,⟨_,_,rfl,rfl,rfl⟩⟩⟩:=h;exact rfl
theorem k34_openM {w : World} {base : Nat} {ok : Nat → Prop} {x : S34} {cs : List Value} (h : k34.M w base ok x cs) : cs = [.int .i64 x.f0,.int .i64 x.f1,.int .i64 x.f2,.int .i64 x.f3]:=by
 obtain ⟨_,_,rfl,rfl,⟨_,_,rfl,rfl,⟨_,_,rfl,rfl,rfl⟩⟩⟩:=h;exact rfl
theorem k34_mk (w : World) (x : S34)  : k34.K w x [.int .i64 x.f0,.int .i64 x.f1,.int .i64 x.f2,.int .i64 x.f3]:=⟨[.int .i64 x.f0],[.int .i64 x.f1,.int .i64 x.f2,.int .i64 x.f3],rfl,rfl,⟨[.int .i64 x.f1],[.int .i64 x.f2,.int .i64 x.f3],rfl,rfl,⟨[.int .i64 x.f2],[.int .i64 x.f3],rfl,rfl,rfl⟩⟩⟩
theorem k34_mkM (w : World) (base : Nat) (ok : Nat → Prop) (x : S34)  : k34.M w base ok x [.int .i64 x.f0,.int .i64 x.f1,.int .i64 x.f2,.int .i64 x.f3]:=⟨[.int .i64 x.f0],[.int .i64 x.f1,.int .i64 x.f2,.int .i64 x.f3],rfl,rfl,⟨[.int .i64 x.f1],[.int .i64 x.f2,.int .i64 x.f3],rfl,rfl,⟨[.int .i64 x.f2],[.int .i64 x.f3],rfl,rfl,rfl⟩⟩⟩
def rd_T34 (xs : List S34) (i : Int) : S34:=xs.getD i.toNat z34
theorem at_T34 {w : World} {A : Option Addr} {n : Nat} {xs : List S34} (h : Kd.C k34 w A n xs) (i : Int) (h0 : 0 ≤ i) (h1 : i < n) : ∃ ad ,A = some ad ∧ w.cell? (ad.add (i.toNat * 4)) = some (.int .i64 (rd_T34 xs i).f0) ∧ w.cell? ⟨(ad.add (i.toNat * 4)).block,(ad.add (i.toNat * 4)).off + 1,none⟩ = some (.int .i64 (rd_T34 xs i).f1) ∧ w.cell? ⟨(ad.add (i.toNat * 4)).block,(ad.add (i.toNat * 4)).off + 2,none⟩ = some (.int .i64 (rd_T34 xs i).f2) ∧ w.cell? ⟨(ad.add (i.toNat * 4)).block,(ad.add (i.toNat * 4)).off + 3,none⟩ = some (.int .i64 (rd_T34 xs i).f3):=by
 obtain ⟨ad,c,e,_,hK,hc0⟩:=Kd.C_get h z34 i h0 h1;have hc : ∀ j u,c[j]? = some u → w.cell? (ad.add (i.toNat * 4 + j)) = some u:=hc0;obtain rfl:=k34_open hK;exact ⟨ad,e,hc 0 _ rfl,by rw [← add_field _ _ 1 (by omega)];exact hc 1 _ rfl,by rw [← add_field _ _ 2 (by omega)];exact hc 2 _ rfl,by rw [← add_field _ _ 3 (by omega)];exact hc 3 _ rfl⟩
end Go.Proofs.Ytcpgpchdplpfiaa.PR

namespace Go.Proofs.Ytcpgpchdplpfiaa.PR
open Go.RowKit Go.Proofs.YtcpgpchdplpfiaaW.PrintWords Go.Proofs.YtcpgpchdplpfiaaW.PrintLast Go.Proofs.YtcpgpchdplpfiaaW.PrintMore
attribute [local go_sem] max2_int min2_int max_two min_two max_three min_three max_four min_four   -- for this text's walks alone
set_option linter.unusedVariables false
set_option linter.unusedSimpArgs false
def spec_l01In.f (a0 : Int) (a1 : Int) (a2 : Int) : Option (Bool):=if a0 ≥ a1 then (some (decide (a0 ≤ a2))) else (some false)
set_option maxHeartbeats 8000000 in
set_option maxRecDepth 100000 in
theorem spec_l01In.calls (a0 : Int) (a1 : Int) (a2 : Int) (r : Bool) (w : World) (h : spec_l01In.f a0 a1 a2 = some r) :
  Calls Try.prog 66 #[.int .i64 a0,.int .i64 a1,.int .i64 a2] w fun e w'=>e = .returned (.bool r) ∧ Drawn0 w w':=by
 have H : (if a0 ≥ a1 then (some (decide (a0 ≤ a2))) else (some false)) = some r:=h;clear h
 by_cases c4 : a0 ≥ a1
 ·rw [if_pos c4] at H;have c4b0 : decide (a1 ≤ a0) = true:=decide_eq_true c4;clear c4;obtain rfl:=Option.some.inj H
  go_enter Try.func66,Try.ntmps66
  go_wp2
  go_ret
  exact ⟨by first | rfl | (simp;done) | (simp [*];done),by repeat (first | exact Drawn0.refl _ | apply Drawn0.step)⟩
 rw [if_neg c4] at H;have c4b0 : decide (a1 ≤ a0) = false:=decide_eq_false c4;clear c4;obtain rfl:=Option.some.inj H
 go_enter Try.func66,Try.ntmps66
 go_wp2
 go_ret
 exact ⟨by first | rfl | (simp;done) | (simp [*];done),by repeat (first | exact Drawn0.refl _ | apply Drawn0.step)⟩
end Go.Proofs.Ytcpgpchdplpfiaa.PR

namespace Go.Proofs.Ytcpgpchdplpfiaa.PR
open Go.RowKit Go.Proofs.YtcpgpchdplpfiaaW.PrintWords Go.Proofs.YtcpgpchdplpfiaaW.PrintLast Go.Proofs.YtcpgpchdplpfiaaW.PrintMore
attribute [local go_sem] max2_int min2_int max_two min_two max_three min_three max_four min_four   -- for this text's walks alone
set_option linter.unusedVariables false
set_option linter.unusedSimpArgs false
def spec_RecOk.j0 : Nat → Bool → Int → Int → Int → Int → Option (Bool)
 | 0,_,_,_,_,_=>none
 | k + 1,x37,x102000,x102001,x102002,x102003=>if x37 = true then (some false) else (if x102000 = 2 then (some (decide (x102002 ≤ 9))) else (if x102000 = 3 then (some (x102002 == 0)) else (if x102000 = 4 then (if x102002 < 16 then ((spec_l01In.f x102003 1 1000000000).bind fun t105=>(some t105)) else (some false)) else (some (decide (x102002 < 16))))))
def spec_RecOk.f (k : Nat) (a0_0 : Int) (a0_1 : Int) (a0_2 : Int) (a0_3 : Int) : Option (Bool):=(spec_l01In.f a0_2 0 1000000000).bind fun t102=>(if t102 = true then (if a0_0 = 1 then (if a0_1 = 0 then (some (a0_3 == 0)) else (some false)) else ((spec_l01In.f a0_0 2 5).bind fun t103=>(if t103 = true then ((spec_l01In.f a0_1 1 9).bind fun t104=>(if t104 = true then (if a0_0 = 4 then (spec_RecOk.j0 k false a0_0 a0_1 a0_2 a0_3) else (spec_RecOk.j0 k (a0_3 != 0) a0_0 a0_1 a0_2 a0_3)) else (spec_RecOk.j0 k true a0_0 a0_1 a0_2 a0_3))) else (spec_RecOk.j0 k true a0_0 a0_1 a0_2 a0_3)))) else (some false))
theorem spec_RecOk.mono_l : ∀ k,(∀ y0 y1 y2 y3 y4,LeO (spec_RecOk.j0 k y0 y1 y2 y3 y4) (spec_RecOk.j0 (k + 1) y0 y1 y2 y3 y4))
 | 0=>fun _ _ _ _ _ r h=>by simp [spec_RecOk.j0] at h
 | k + 1=>by
  have ih0:=spec_RecOk.mono_l k;intro y0 y1 y2 y3 y4;unfold spec_RecOk.j0
  repeat' first
  | (with_reducible exact ih0 _ _ _ _ _)
  | (with_reducible exact LeO.refl _)
  | (with_reducible exact LeO.none _)
  | (with_reducible refine LeO.ite ?_ ?_)
  | (with_reducible refine LeO.bind ?_ (fun _=>?_))
  | exact ih0 _ _ _ _ _
  | exact LeO.none _
  | refine LeO.ite ?_ ?_
  | refine LeO.bind ?_ (fun _=>?_)
theorem spec_RecOk.mono : ∀ a0 a1 a2 a3 k,LeO (spec_RecOk.f k a0 a1 a2 a3) (spec_RecOk.f (k + 1) a0 a1 a2 a3):=by
 intro a0 a1 a2 a3 k;have ih0:=spec_RecOk.mono_l k;unfold spec_RecOk.f
 repeat' first
   | (with_reducible exact ih0 _ _ _ _ _)
   | (with_reducible exact LeO.refl _)
   | (with_reducible exact LeO.none _)
   | (with_reducible refine LeO.ite ?_ ?_)
   | (with_reducible refine LeO.bind ?_ (fun _=>?_))
   | exact ih0 _ _ _ _ _
   | exact LeO.none _
   | refine LeO.ite ?_ ?_
   | refine LeO.bind ?_ (fun _=>?_)
set_option maxHeartbeats 8000000 in
set_option maxRecDepth 100000 in
theorem spec_RecOk.calls (k : Nat) (a0_0 : Int) (a0_1 : Int) (a0_2 : Int) (a0_3 : Int) (r : Bool) (w : World) (h : spec_RecOk.f k a0_0 a0_1 a0_2 a0_3 = some r) :
  Calls Try.prog 22 #[.agg #[.int .i64 a0_0,.int .i64 a0_1,.int .i64 a0_2,.int .i64 a0_3]] w fun e w'=>e = .returned (.bool r) ∧ Below w.heap.size w w':=by
 have hu34:=Try.underlying34;have HB:=zMk (Below.refl w.heap.size w);have H : ((spec_l01In.f a0_2 0 1000000000).bind fun t102=>(if t102 = true then (if a0_0 = 1 then (if a0_1 = 0 then (some (a0_3 == 0)) else (some false)) else ((spec_l01In.f a0_0 2 5).bind fun t103=>(if t103 = true then ((spec_l01In.f a0_1 1 9).bind fun t104=>(if t104 = true then (if a0_0 = 4 then (spec_RecOk.j0 k false a0_0 a0_1 a0_2 a0_3) else (spec_RecOk.j0 k (a0_3 != 0) a0_0 a0_1 a0_2 a0_3)) else (spec_RecOk.j0 k true a0_0 a0_1 a0_2 a0_3))) else (spec_RecOk.j0 k true a0_0 a0_1 a0_2 a0_3)))) else (some false))) = some r:=h;clear h;replace H:=Option.bind_eq_some_iff.mp H;obtain ⟨t102,A20,H⟩:=H;replace H : (if t102 = true then (if a0_0 = 1 then (if a0_1 = 0 then (some (a0_3 == 0)) else (some false)) else ((spec_l01In.f a0_0 2 5).bind fun t103=>(if t103 = true then ((spec_l01In.f a0_1 1 9).bind fun t104=>(if t104 = true then (if a0_0 = 4 then (spec_RecOk.j0 k false a0_0 a0_1 a0_2 a0_3) else (spec_RecOk.j0 k (a0_3 != 0) a0_0 a0_1 a0_2 a0_3)) else (spec_RecOk.j0 k true a0_0 a0_1 a0_2 a0_3))) else (spec_RecOk.j0 k true a0_0 a0_1 a0_2 a0_3)))) else (some false)) = some r:=H;have A2:=zMk A20;clear A20
 by_cases c3 : t102 = true
 ·subst c3;have H1 : (if a0_0 = 1 then (if a0_1 = 0 then (some (a0_3 == 0)) else (some false)) else ((spec_l01In.f a0_0 2 5).bind fun t103=>(if t103 = true then ((spec_l01In.f a0_1 1 9).bind fun t104=>(if t104 = true then (if a0_0 = 4 then (spec_RecOk.j0 k false a0_0 a0_1 a0_2 a0_3) else (spec_RecOk.j0 k (a0_3 != 0) a0_0 a0_1 a0_2 a0_3)) else (spec_RecOk.j0 k true a0_0 a0_1 a0_2 a0_3))) else (spec_RecOk.j0 k true a0_0 a0_1 a0_2 a0_3)))) = some r:=by rw [if_pos rfl] at H;exact H
  clear H;have H:=H1;clear H1
  by_cases c4 : a0_0 = 1
  ·rw [if_pos c4] at H;have c4b0 : (a0_0 == 1) = true:=beq_iff_eq.mpr c4;have c4b1 : (a0_0 != 1) = false:=bne_eq_false_iff_eq.mpr c4;clear c4
   by_cases c5 : a0_1 = 0
   ·rw [if_pos c5] at H;have c5b0 : (a0_1 == 0) = true:=beq_iff_eq.mpr c5;have c5b1 : (a0_1 != 0) = false:=bne_eq_false_iff_eq.mpr c5;clear c5;obtain rfl:=Option.some.inj H
    go_enter Try.func22,Try.ntmps22
    go_wp2_with (first | ((with_reducible refine gate_dst (N:=1) rfl ?_);refine box_event ?hg (N:=1) ?hd (cs:=#[.int .i64 a0_0,.int .i64 a0_1,.int .i64 a0_2,.int .i64 a0_3]) (t:=34) ?hr ?_;(case hd=>rfl);(case hg=>rfl);(case hr=>first | (go_simp;done) | (go_simp;rfl));intro gb101 hg w6 hbox hb;have n0_:=zMk (below_step (hs HB) hb);have n1_:=zMk (hbox);have n2_:=zMk ((by rw [hg];exact (below_size (hs HB)) : w.heap.size ≤ gb101));have n3_:=zMk ((by rw [hg];exact (below_size (hs HB)) : w.heap.size ≤ gb101));clear HB;have HB:=n0_;have BK101:=n1_;have GW101:=n2_;have GE101:=n3_;clear n0_ n1_ n2_ n3_;clear hb hbox hg;have hcz7_0 : w6.cell? ⟨gb101,0,none⟩ = some (.int .i64 a0_0):=(zCl BK101.out 0).trans rfl;have hcz7_1 : w6.cell? ⟨gb101,1,none⟩ = some (.int .i64 a0_1):=(zCl BK101.out 1).trans rfl;have hcz7_2 : w6.cell? ⟨gb101,2,none⟩ = some (.int .i64 a0_2):=(zCl BK101.out 2).trans rfl;have hcz7_3 : w6.cell? ⟨gb101,3,none⟩ = some (.int .i64 a0_3):=(zCl BK101.out 3).trans rfl;have hfz7_0:=zFr BK101.out 0;have hfz7_1:=zFr BK101.out 1;have hfz7_2:=zFr BK101.out 2;have hfz7_3:=zFr BK101.out 3) | ((with_reducible refine gate_callee (f:=66) rfl ?_);refine goesL_ (some 5) rfl rfl Try.func66 (by kernel_rfl) rfl #[.int .i64 a0_2,.int .i64 0,.int .i64 1000000000] rfl (by (try simp only [List.map_toArray,List.map_cons,List.map_nil]);first | done | rfl | (simp only [List.length_drop,List.length_take];rfl)) ?_;(with_reducible refine (spec_l01In.calls a0_2 0 1000000000 true _ A2.out).mono ?_);rintro e w' ⟨rfl,⟨nd,rfl⟩⟩;refine ⟨_,rfl,?_⟩))
    go_ret
    exact ⟨by first | rfl | (simp [errW_none,errW_some] <;> rfl) | (simp [*,errW_none,errW_some] <;> rfl),hs1 HB GE101⟩
   rw [if_neg c5] at H;have c5b0 : (a0_1 == 0) = false:=beq_eq_false_iff_ne.mpr c5;have c5b1 : (a0_1 != 0) = true:=bne_iff_ne.mpr c5;obtain rfl:=Option.some.inj H
   go_enter Try.func22,Try.ntmps22
   go_wp2_with (first | ((with_reducible refine gate_dst (N:=1) rfl ?_);refine box_event ?hg (N:=1) ?hd (cs:=#[.int .i64 a0_0,.int .i64 a0_1,.int .i64 a0_2,.int .i64 a0_3]) (t:=34) ?hr ?_;(case hd=>rfl);(case hg=>rfl);(case hr=>first | (go_simp;done) | (go_simp;rfl));intro gb101 hg w8 hbox hb;have n0_:=zMk (below_step (hs HB) hb);have n1_:=zMk (hbox);have n2_:=zMk ((by rw [hg];exact (below_size (hs HB)) : w.heap.size ≤ gb101));have n3_:=zMk ((by rw [hg];exact (below_size (hs HB)) : w.heap.size ≤ gb101));clear HB;have HB:=n0_;have BK101:=n1_;have GW101:=n2_;have GE101:=n3_;clear n0_ n1_ n2_ n3_;clear hb hbox hg;have hcz9_0 : w8.cell? ⟨gb101,0,none⟩ = some (.int .i64 a0_0):=(zCl BK101.out 0).trans rfl;have hcz9_1 : w8.cell? ⟨gb101,1,none⟩ = some (.int .i64 a0_1):=(zCl BK101.out 1).trans rfl;have hcz9_2 : w8.cell? ⟨gb101,2,none⟩ = some (.int .i64 a0_2):=(zCl BK101.out 2).trans rfl;have hcz9_3 : w8.cell? ⟨gb101,3,none⟩ = some (.int .i64 a0_3):=(zCl BK101.out 3).trans rfl;have hfz9_0:=zFr BK101.out 0;have hfz9_1:=zFr BK101.out 1;have hfz9_2:=zFr BK101.out 2;have hfz9_3:=zFr BK101.out 3) | ((with_reducible refine gate_callee (f:=66) rfl ?_);refine goesL_ (some 5) rfl rfl Try.func66 (by kernel_rfl) rfl #[.int .i64 a0_2,.int .i64 0,.int .i64 1000000000] rfl (by (try simp only [List.map_toArray,List.map_cons,List.map_nil]);first | done | rfl | (simp only [List.length_drop,List.length_take];rfl)) ?_;(with_reducible refine (spec_l01In.calls a0_2 0 1000000000 true _ A2.out).mono ?_);rintro e w' ⟨rfl,⟨nd,rfl⟩⟩;refine ⟨_,rfl,?_⟩))
   go_ret
   exact ⟨by first | rfl | (simp [errW_none,errW_some] <;> rfl) | (simp [*,errW_none,errW_some] <;> rfl),hs1 HB GE101⟩
  rw [if_neg c4] at H;have c4b0 : (a0_0 == 1) = false:=beq_eq_false_iff_ne.mpr c4;have c4b1 : (a0_0 != 1) = true:=bne_iff_ne.mpr c4;have HC10:=zMk H;clear H
  go_enter Try.func22,Try.ntmps22
  go_upto_region 5 with (first | ((with_reducible refine gate_dst (N:=1) rfl ?_);refine box_event ?hg (N:=1) ?hd (cs:=#[.int .i64 a0_0,.int .i64 a0_1,.int .i64 a0_2,.int .i64 a0_3]) (t:=34) ?hr ?_;(case hd=>rfl);(case hg=>rfl);(case hr=>first | (go_simp;done) | (go_simp;rfl));intro gb101 hg w11 hbox hb;have n0_:=zMk (below_step (hs HB) hb);have n1_:=zMk (hbox);have n2_:=zMk ((by rw [hg];exact (below_size (hs HB)) : w.heap.size ≤ gb101));have n3_:=zMk ((by rw [hg];exact (below_size (hs HB)) : w.heap.size ≤ gb101));clear HB;have HB:=n0_;have BK101:=n1_;have GW101:=n2_;have GE101:=n3_;clear n0_ n1_ n2_ n3_;clear hb hbox hg;have hcz12_0 : w11.cell? ⟨gb101,0,none⟩ = some (.int .i64 a0_0):=(zCl BK101.out 0).trans rfl;have hcz12_1 : w11.cell? ⟨gb101,1,none⟩ = some (.int .i64 a0_1):=(zCl BK101.out 1).trans rfl;have hcz12_2 : w11.cell? ⟨gb101,2,none⟩ = some (.int .i64 a0_2):=(zCl BK101.out 2).trans rfl;have hcz12_3 : w11.cell? ⟨gb101,3,none⟩ = some (.int .i64 a0_3):=(zCl BK101.out 3).trans rfl;have hfz12_0:=zFr BK101.out 0;have hfz12_1:=zFr BK101.out 1;have hfz12_2:=zFr BK101.out 2;have hfz12_3:=zFr BK101.out 3) | ((with_reducible refine gate_callee (f:=66) rfl ?_);refine goesL_ (some 5) rfl rfl Try.func66 (by kernel_rfl) rfl #[.int .i64 a0_2,.int .i64 0,.int .i64 1000000000] rfl (by (try simp only [List.map_toArray,List.map_cons,List.map_nil]);first | done | rfl | (simp only [List.length_drop,List.length_take];rfl)) ?_;(with_reducible refine (spec_l01In.calls a0_2 0 1000000000 true _ A2.out).mono ?_);rintro e w' ⟨rfl,⟨nd,rfl⟩⟩;refine ⟨_,rfl,?_⟩))
  (try simp only [Act.put,List.setIfInBounds_toArray,List.set_cons_zero,List.set_cons_succ])
  go_cut [37] (fun v37 wc=>∃ (kq : Nat) (x37_9 : Bool),v37 = .bool x37_9 ∧ Aside0 (spec_RecOk.j0 kq x37_9 a0_0 a0_1 a0_2 a0_3 = some r) ∧ Aside0 (kq ≤ k) ∧ Aside0 (wc.heap[gb101]? = some (.cells #[.int .i64 a0_0,.int .i64 a0_1,.int .i64 a0_2,.int .i64 a0_3] 34 (0,0))) ∧ Aside0 (Below w.heap.size w wc))
  case first =>
   have H:=HC10.out;clear HC10;replace H:=Option.bind_eq_some_iff.mp H;obtain ⟨t103,A130,H⟩:=H;replace H : (if t103 = true then ((spec_l01In.f a0_1 1 9).bind fun t104=>(if t104 = true then (if a0_0 = 4 then (spec_RecOk.j0 k false a0_0 a0_1 a0_2 a0_3) else (spec_RecOk.j0 k (a0_3 != 0) a0_0 a0_1 a0_2 a0_3)) else (spec_RecOk.j0 k true a0_0 a0_1 a0_2 a0_3))) else (spec_RecOk.j0 k true a0_0 a0_1 a0_2 a0_3)) = some r:=H;have A13:=zMk A130;clear A130
   by_cases c14 : t103 = true
   ·subst c14;have H1 : ((spec_l01In.f a0_1 1 9).bind fun t104=>(if t104 = true then (if a0_0 = 4 then (spec_RecOk.j0 k false a0_0 a0_1 a0_2 a0_3) else (spec_RecOk.j0 k (a0_3 != 0) a0_0 a0_1 a0_2 a0_3)) else (spec_RecOk.j0 k true a0_0 a0_1 a0_2 a0_3))) = some r:=by rw [if_pos rfl] at H;exact H
    clear H;have H:=H1;clear H1;replace H:=Option.bind_eq_some_iff.mp H;obtain ⟨t104,A150,H⟩:=H;replace H : (if t104 = true then (if a0_0 = 4 then (spec_RecOk.j0 k false a0_0 a0_1 a0_2 a0_3) else (spec_RecOk.j0 k (a0_3 != 0) a0_0 a0_1 a0_2 a0_3)) else (spec_RecOk.j0 k true a0_0 a0_1 a0_2 a0_3)) = some r:=H;have A15:=zMk A150;clear A150
    by_cases c16 : t104 = true
    ·subst c16;have H1 : (if a0_0 = 4 then (spec_RecOk.j0 k false a0_0 a0_1 a0_2 a0_3) else (spec_RecOk.j0 k (a0_3 != 0) a0_0 a0_1 a0_2 a0_3)) = some r:=by rw [if_pos rfl] at H;exact H
     clear H;have H:=H1;clear H1
     by_cases c17 : a0_0 = 4
     ·rw [if_pos c17] at H;have c17b0 : (a0_0 == 4) = true:=beq_iff_eq.mpr c17;have c17b1 : (a0_0 != 4) = false:=bne_eq_false_iff_eq.mpr c17;clear c17
      (first | rw [c17b0] | (simp only [i64_w,i32_w];rw [c17b0]) | skip)
      have H':=zMk H;clear H;have hcz18_0 : w11.cell? ⟨gb101,0,none⟩ = some (.int .i64 a0_0):=(zCl BK101.out 0).trans rfl;have hcz18_1 : w11.cell? ⟨gb101,1,none⟩ = some (.int .i64 a0_1):=(zCl BK101.out 1).trans rfl;have hcz18_2 : w11.cell? ⟨gb101,2,none⟩ = some (.int .i64 a0_2):=(zCl BK101.out 2).trans rfl;have hcz18_3 : w11.cell? ⟨gb101,3,none⟩ = some (.int .i64 a0_3):=(zCl BK101.out 3).trans rfl;have hfz18_0:=zFr BK101.out 0;have hfz18_1:=zFr BK101.out 1;have hfz18_2:=zFr BK101.out 2;have hfz18_3:=zFr BK101.out 3;go_wp2_with (first | ((with_reducible refine gate_callee (f:=66) rfl ?_);refine goesL_ (some 20) rfl rfl Try.func66 (by kernel_rfl) rfl #[.int .i64 a0_0,.int .i64 2,.int .i64 5] rfl (by (try simp only [List.map_toArray,List.map_cons,List.map_nil]);first | done | rfl | (simp only [List.length_drop,List.length_take];rfl)) ?_;(with_reducible refine (spec_l01In.calls a0_0 2 5 true _ A13.out).mono ?_);rintro e w' ⟨rfl,⟨nd,rfl⟩⟩;refine ⟨_,rfl,?_⟩) | (go_at_call 66;(with_reducible refine (spec_l01In.calls a0_1 1 9 true _ A15.out).mono ?_);rintro e w' ⟨rfl,⟨nd,rfl⟩⟩))
      go_meet
      case rel=>exact ⟨_,(false),(by first | rfl | (simp;done) | (simp [*];done)),H',⟨by first | omega | exact Nat.le_refl _⟩,⟨bs BK101⟩,⟨hs1 HB GE101⟩⟩
     rw [if_neg c17] at H;have c17b0 : (a0_0 == 4) = false:=beq_eq_false_iff_ne.mpr c17;have c17b1 : (a0_0 != 4) = true:=bne_iff_ne.mpr c17
     (first | rw [c17b0] | (simp only [i64_w,i32_w];rw [c17b0]) | skip)
     have H':=zMk H;clear H;have hcz19_0 : w11.cell? ⟨gb101,0,none⟩ = some (.int .i64 a0_0):=(zCl BK101.out 0).trans rfl;have hcz19_1 : w11.cell? ⟨gb101,1,none⟩ = some (.int .i64 a0_1):=(zCl BK101.out 1).trans rfl;have hcz19_2 : w11.cell? ⟨gb101,2,none⟩ = some (.int .i64 a0_2):=(zCl BK101.out 2).trans rfl;have hcz19_3 : w11.cell? ⟨gb101,3,none⟩ = some (.int .i64 a0_3):=(zCl BK101.out 3).trans rfl;have hfz19_0:=zFr BK101.out 0;have hfz19_1:=zFr BK101.out 1;have hfz19_2:=zFr BK101.out 2;have hfz19_3:=zFr BK101.out 3;go_wp2_with (first | ((with_reducible refine gate_callee (f:=66) rfl ?_);refine goesL_ (some 20) rfl rfl Try.func66 (by kernel_rfl) rfl #[.int .i64 a0_0,.int .i64 2,.int .i64 5] rfl (by (try simp only [List.map_toArray,List.map_cons,List.map_nil]);first | done | rfl | (simp only [List.length_drop,List.length_take];rfl)) ?_;(with_reducible refine (spec_l01In.calls a0_0 2 5 true _ A13.out).mono ?_);rintro e w' ⟨rfl,⟨nd,rfl⟩⟩;refine ⟨_,rfl,?_⟩) | (go_at_call 66;(with_reducible refine (spec_l01In.calls a0_1 1 9 true _ A15.out).mono ?_);rintro e w' ⟨rfl,⟨nd,rfl⟩⟩))
     go_meet
     case rel=>exact ⟨_,((a0_3 != 0)),(by first | rfl | (simp;done) | (simp [*];done)),H',⟨by first | omega | exact Nat.le_refl _⟩,⟨bs BK101⟩,⟨hs1 HB GE101⟩⟩
    replace c16:=Bool.eq_false_iff.mpr c16;subst c16;have H1 : (spec_RecOk.j0 k true a0_0 a0_1 a0_2 a0_3) = some r:=by rw [if_neg (show ¬ (false = true) by decide)] at H;exact H
    clear H;have H:=H1;clear H1;have H':=zMk H;clear H;have hcz20_0 : w11.cell? ⟨gb101,0,none⟩ = some (.int .i64 a0_0):=(zCl BK101.out 0).trans rfl;have hcz20_1 : w11.cell? ⟨gb101,1,none⟩ = some (.int .i64 a0_1):=(zCl BK101.out 1).trans rfl;have hcz20_2 : w11.cell? ⟨gb101,2,none⟩ = some (.int .i64 a0_2):=(zCl BK101.out 2).trans rfl;have hcz20_3 : w11.cell? ⟨gb101,3,none⟩ = some (.int .i64 a0_3):=(zCl BK101.out 3).trans rfl;have hfz20_0:=zFr BK101.out 0;have hfz20_1:=zFr BK101.out 1;have hfz20_2:=zFr BK101.out 2;have hfz20_3:=zFr BK101.out 3;go_wp2_with (first | ((with_reducible refine gate_callee (f:=66) rfl ?_);refine goesL_ (some 20) rfl rfl Try.func66 (by kernel_rfl) rfl #[.int .i64 a0_0,.int .i64 2,.int .i64 5] rfl (by (try simp only [List.map_toArray,List.map_cons,List.map_nil]);first | done | rfl | (simp only [List.length_drop,List.length_take];rfl)) ?_;(with_reducible refine (spec_l01In.calls a0_0 2 5 true _ A13.out).mono ?_);rintro e w' ⟨rfl,⟨nd,rfl⟩⟩;refine ⟨_,rfl,?_⟩) | (go_at_call 66;(with_reducible refine (spec_l01In.calls a0_1 1 9 false _ A15.out).mono ?_);rintro e w' ⟨rfl,⟨nd,rfl⟩⟩))
    go_meet
    case rel=>exact ⟨_,(true),(by first | rfl | (simp;done) | (simp [*];done)),H',⟨by first | omega | exact Nat.le_refl _⟩,⟨bs BK101⟩,⟨hs1 HB GE101⟩⟩
   replace c14:=Bool.eq_false_iff.mpr c14;subst c14;have H1 : (spec_RecOk.j0 k true a0_0 a0_1 a0_2 a0_3) = some r:=by rw [if_neg (show ¬ (false = true) by decide)] at H;exact H
   clear H;have H:=H1;clear H1;have H':=zMk H;clear H;have hcz21_0 : w11.cell? ⟨gb101,0,none⟩ = some (.int .i64 a0_0):=(zCl BK101.out 0).trans rfl;have hcz21_1 : w11.cell? ⟨gb101,1,none⟩ = some (.int .i64 a0_1):=(zCl BK101.out 1).trans rfl;have hcz21_2 : w11.cell? ⟨gb101,2,none⟩ = some (.int .i64 a0_2):=(zCl BK101.out 2).trans rfl;have hcz21_3 : w11.cell? ⟨gb101,3,none⟩ = some (.int .i64 a0_3):=(zCl BK101.out 3).trans rfl;have hfz21_0:=zFr BK101.out 0;have hfz21_1:=zFr BK101.out 1;have hfz21_2:=zFr BK101.out 2;have hfz21_3:=zFr BK101.out 3;go_wp2_with (first | ((with_reducible refine gate_callee (f:=66) rfl ?_);refine goesL_ (some 20) rfl rfl Try.func66 (by kernel_rfl) rfl #[.int .i64 a0_0,.int .i64 2,.int .i64 5] rfl (by (try simp only [List.map_toArray,List.map_cons,List.map_nil]);first | done | rfl | (simp only [List.length_drop,List.length_take];rfl)) ?_;(with_reducible refine (spec_l01In.calls a0_0 2 5 false _ A13.out).mono ?_);rintro e w' ⟨rfl,⟨nd,rfl⟩⟩;refine ⟨_,rfl,?_⟩))
   go_meet
   case rel=>exact ⟨_,(true),(by first | rfl | (simp;done) | (simp [*];done)),H',⟨by first | omega | exact Nat.le_refl _⟩,⟨bs BK101⟩,⟨hs1 HB GE101⟩⟩
  case rest =>
   clear HC10
   try clear c1
   try clear c2
   try clear p2
   try clear c3
   try clear c4
   try clear c4b0
   try clear c4b1
   try clear c5
   try clear c5b0
   try clear c5b1
   try clear c6
   try clear c14
   try clear c16
   try clear c17
   try clear c17b0
   try clear c17b1
   try clear hcz12_0
   try clear hcz12_1
   try clear hcz12_2
   try clear hcz12_3
   try clear hcz18_0
   try clear hcz18_1
   try clear hcz18_2
   try clear hcz18_3
   try clear hcz19_0
   try clear hcz19_1
   try clear hcz19_2
   try clear hcz19_3
   try clear hcz20_0
   try clear hcz20_1
   try clear hcz20_2
   try clear hcz20_3
   try clear hcz21_0
   try clear hcz21_1
   try clear hcz21_2
   try clear hcz21_3
   try clear hcz7_0
   try clear hcz7_1
   try clear hcz7_2
   try clear hcz7_3
   try clear hcz9_0
   try clear hcz9_1
   try clear hcz9_2
   try clear hcz9_3
   try clear hfz12_0
   try clear hfz12_1
   try clear hfz12_2
   try clear hfz12_3
   try clear hfz18_0
   try clear hfz18_1
   try clear hfz18_2
   try clear hfz18_3
   try clear hfz19_0
   try clear hfz19_1
   try clear hfz19_2
   try clear hfz19_3
   try clear hfz20_0
   try clear hfz20_1
   try clear hfz20_2
   try clear hfz20_3
   try clear hfz21_0
   try clear hfz21_1
   try clear hfz21_2
   try clear hfz21_3
   try clear hfz7_0
   try clear hfz7_1
   try clear hfz7_2
   try clear hfz7_3
   try clear hfz9_0
   try clear hfz9_1
   try clear hfz9_2
   try clear hfz9_3
   obtain ⟨kq,x37_9,rfl,HA,HJ9,BK101,HB⟩:=hcut;cases kq with
   | zero=>exact absurd HA.out (by simp [spec_RecOk.j0])
   | succ kj9 =>
    have H:=HA.out;clear HA;simp only [spec_RecOk.j0] at H
    by_cases c22 : x37_9 = true
    ·subst c22;have H1 : (some false) = some r:=by rw [if_pos rfl] at H;exact H
     clear H;have H:=H1;clear H1;obtain rfl:=Option.some.inj H
     go_wp2
     go_ret
     exact ⟨by first | rfl | (simp [errW_none,errW_some] <;> rfl) | (simp [*,errW_none,errW_some] <;> rfl),hs1 HB GE101⟩
    replace c22:=Bool.eq_false_iff.mpr c22;subst c22;have H1 : (if a0_0 = 2 then (some (decide (a0_2 ≤ 9))) else (if a0_0 = 3 then (some (a0_2 == 0)) else (if a0_0 = 4 then (if a0_2 < 16 then ((spec_l01In.f a0_3 1 1000000000).bind fun t105=>(some t105)) else (some false)) else (some (decide (a0_2 < 16)))))) = some r:=by rw [if_neg (show ¬ (false = true) by decide)] at H;exact H
    clear H;have H:=H1;clear H1
    by_cases c23 : a0_0 = 2
    ·rw [if_pos c23] at H;have c23b0 : (a0_0 == 2) = true:=beq_iff_eq.mpr c23;have c23b1 : (a0_0 != 2) = false:=bne_eq_false_iff_eq.mpr c23;clear c23;obtain rfl:=Option.some.inj H;have hcz24_0 : wc.cell? ⟨gb101,0,none⟩ = some (.int .i64 a0_0):=(zCl BK101.out 0).trans rfl;have hcz24_1 : wc.cell? ⟨gb101,1,none⟩ = some (.int .i64 a0_1):=(zCl BK101.out 1).trans rfl;have hcz24_2 : wc.cell? ⟨gb101,2,none⟩ = some (.int .i64 a0_2):=(zCl BK101.out 2).trans rfl;have hcz24_3 : wc.cell? ⟨gb101,3,none⟩ = some (.int .i64 a0_3):=(zCl BK101.out 3).trans rfl;have hfz24_0:=zFr BK101.out 0;have hfz24_1:=zFr BK101.out 1;have hfz24_2:=zFr BK101.out 2;have hfz24_3:=zFr BK101.out 3
     go_wp2
     go_ret
     exact ⟨by first | rfl | (simp [errW_none,errW_some] <;> rfl) | (simp [*,errW_none,errW_some] <;> rfl),hs1 HB GE101⟩
    rw [if_neg c23] at H;have c23b0 : (a0_0 == 2) = false:=beq_eq_false_iff_ne.mpr c23;have c23b1 : (a0_0 != 2) = true:=bne_iff_ne.mpr c23
    by_cases c25 : a0_0 = 3
    ·rw [if_pos c25] at H;have c25b0 : (a0_0 == 3) = true:=beq_iff_eq.mpr c25;have c25b1 : (a0_0 != 3) = false:=bne_eq_false_iff_eq.mpr c25;clear c25;obtain rfl:=Option.some.inj H;have hcz26_0 : wc.cell? ⟨gb101,0,none⟩ = some (.int .i64 a0_0):=(zCl BK101.out 0).trans rfl;have hcz26_1 : wc.cell? ⟨gb101,1,none⟩ = some (.int .i64 a0_1):=(zCl BK101.out 1).trans rfl;have hcz26_2 : wc.cell? ⟨gb101,2,none⟩ = some (.int .i64 a0_2):=(zCl BK101.out 2).trans rfl;have hcz26_3 : wc.cell? ⟨gb101,3,none⟩ = some (.int .i64 a0_3):=(zCl BK101.out 3).trans rfl;have hfz26_0:=zFr BK101.out 0;have hfz26_1:=zFr BK101.out 1;have hfz26_2:=zFr BK101.out 2;have hfz26_3:=zFr BK101.out 3
     go_wp2
     go_ret
     exact ⟨by first | rfl | (simp [errW_none,errW_some] <;> rfl) | (simp [*,errW_none,errW_some] <;> rfl),hs1 HB GE101⟩
    rw [if_neg c25] at H;have c25b0 : (a0_0 == 3) = false:=beq_eq_false_iff_ne.mpr c25;have c25b1 : (a0_0 != 3) = true:=bne_iff_ne.mpr c25
    by_cases c27 : a0_0 = 4
    ·rw [if_pos c27] at H;have c27b0 : (a0_0 == 4) = true:=beq_iff_eq.mpr c27;have c27b1 : (a0_0 != 4) = false:=bne_eq_false_iff_eq.mpr c27;clear c27
     by_cases c28 : a0_2 < 16
     ·rw [if_pos c28] at H;have c28b0 : decide (a0_2 < 16) = true:=decide_eq_true c28;clear c28;replace H:=Option.bind_eq_some_iff.mp H;obtain ⟨t105,A290,H⟩:=H;replace H : (some t105) = some r:=H;have A29:=zMk A290;clear A290;obtain rfl:=Option.some.inj H;have hcz30_0 : wc.cell? ⟨gb101,0,none⟩ = some (.int .i64 a0_0):=(zCl BK101.out 0).trans rfl;have hcz30_1 : wc.cell? ⟨gb101,1,none⟩ = some (.int .i64 a0_1):=(zCl BK101.out 1).trans rfl;have hcz30_2 : wc.cell? ⟨gb101,2,none⟩ = some (.int .i64 a0_2):=(zCl BK101.out 2).trans rfl;have hcz30_3 : wc.cell? ⟨gb101,3,none⟩ = some (.int .i64 a0_3):=(zCl BK101.out 3).trans rfl;have hfz30_0:=zFr BK101.out 0;have hfz30_1:=zFr BK101.out 1;have hfz30_2:=zFr BK101.out 2;have hfz30_3:=zFr BK101.out 3;go_wp2_with (first | (go_at_call 66;(with_reducible refine (spec_l01In.calls a0_3 1 1000000000 t105 _ A29.out).mono ?_);rintro e w' ⟨rfl,⟨nd,rfl⟩⟩))
      go_ret
      exact ⟨by first | rfl | (simp [errW_none,errW_some] <;> rfl) | (simp [*,errW_none,errW_some] <;> rfl),hs1 HB GE101⟩
     rw [if_neg c28] at H;have c28b0 : decide (a0_2 < 16) = false:=decide_eq_false c28;clear c28;obtain rfl:=Option.some.inj H;have hcz31_0 : wc.cell? ⟨gb101,0,none⟩ = some (.int .i64 a0_0):=(zCl BK101.out 0).trans rfl;have hcz31_1 : wc.cell? ⟨gb101,1,none⟩ = some (.int .i64 a0_1):=(zCl BK101.out 1).trans rfl;have hcz31_2 : wc.cell? ⟨gb101,2,none⟩ = some (.int .i64 a0_2):=(zCl BK101.out 2).trans rfl;have hcz31_3 : wc.cell? ⟨gb101,3,none⟩ = some (.int .i64 a0_3):=(zCl BK101.out 3).trans rfl;have hfz31_0:=zFr BK101.out 0;have hfz31_1:=zFr BK101.out 1;have hfz31_2:=zFr BK101.out 2;have hfz31_3:=zFr BK101.out 3
     go_wp2
     go_ret
     exact ⟨by first | rfl | (simp [errW_none,errW_some] <;> rfl) | (simp [*,errW_none,errW_some] <;> rfl),hs1 HB GE101⟩
    rw [if_neg c27] at H;have c27b0 : (a0_0 == 4) = false:=beq_eq_false_iff_ne.mpr c27;have c27b1 : (a0_0 != 4) = true:=bne_iff_ne.mpr c27;obtain rfl:=Option.some.inj H;have hcz32_0 : wc.cell? ⟨gb101,0,none⟩ = some (.int .i64 a0_0):=(zCl BK101.out 0).trans rfl;have hcz32_1 : wc.cell? ⟨gb101,1,none⟩ = some (.int .i64 a0_1):=(zCl BK101.out 1).trans rfl;have hcz32_2 : wc.cell? ⟨gb101,2,none⟩ = some (.int .i64 a0_2):=(zCl BK101.out 2).trans rfl;have hcz32_3 : wc.cell? ⟨gb101,3,none⟩ = some (.int .i64 a0_3):=(zCl BK101.out 3).trans rfl;have hfz32_0:=zFr BK101.out 0;have hfz32_1:=zFr BK101.out 1;have hfz32_2:=zFr BK101.out 2;have hfz32_3:=zFr BK101.out 3
    go_wp2
    go_ret
    exact ⟨by first | rfl | (simp [errW_none,errW_some] <;> rfl) | (simp [*,errW_none,errW_some] <;> rfl),hs1 HB GE101⟩
 replace c3:=Bool.eq_false_iff.mpr c3;subst c3;have H1 : (some false) = some r:=by rw [if_neg (show ¬ (false = true) by decide)] at H;exact H
 clear H;have H:=H1;clear H1;obtain rfl:=Option.some.inj H
 go_enter Try.func22,Try.ntmps22
 go_wp2_with (first | ((with_reducible refine gate_dst (N:=1) rfl ?_);refine box_event ?hg (N:=1) ?hd (cs:=#[.int .i64 a0_0,.int .i64 a0_1,.int .i64 a0_2,.int .i64 a0_3]) (t:=34) ?hr ?_;(case hd=>rfl);(case hg=>rfl);(case hr=>first | (go_simp;done) | (go_simp;rfl));intro gb101 hg w33 hbox hb;have n0_:=zMk (below_step (hs HB) hb);have n1_:=zMk (hbox);have n2_:=zMk ((by rw [hg];exact (below_size (hs HB)) : w.heap.size ≤ gb101));have n3_:=zMk ((by rw [hg];exact (below_size (hs HB)) : w.heap.size ≤ gb101));clear HB;have HB:=n0_;have BK101:=n1_;have GW101:=n2_;have GE101:=n3_;clear n0_ n1_ n2_ n3_;clear hb hbox hg;have hcz34_0 : w33.cell? ⟨gb101,0,none⟩ = some (.int .i64 a0_0):=(zCl BK101.out 0).trans rfl;have hcz34_1 : w33.cell? ⟨gb101,1,none⟩ = some (.int .i64 a0_1):=(zCl BK101.out 1).trans rfl;have hcz34_2 : w33.cell? ⟨gb101,2,none⟩ = some (.int .i64 a0_2):=(zCl BK101.out 2).trans rfl;have hcz34_3 : w33.cell? ⟨gb101,3,none⟩ = some (.int .i64 a0_3):=(zCl BK101.out 3).trans rfl;have hfz34_0:=zFr BK101.out 0;have hfz34_1:=zFr BK101.out 1;have hfz34_2:=zFr BK101.out 2;have hfz34_3:=zFr BK101.out 3) | ((with_reducible refine gate_callee (f:=66) rfl ?_);refine goesL_ (some 5) rfl rfl Try.func66 (by kernel_rfl) rfl #[.int .i64 a0_2,.int .i64 0,.int .i64 1000000000] rfl (by (try simp only [List.map_toArray,List.map_cons,List.map_nil]);first | done | rfl | (simp only [List.length_drop,List.length_take];rfl)) ?_;(with_reducible refine (spec_l01In.calls a0_2 0 1000000000 false _ A2.out).mono ?_);rintro e w' ⟨rfl,⟨nd,rfl⟩⟩;refine ⟨_,rfl,?_⟩))
 go_ret
 exact ⟨by first | rfl | (simp [errW_none,errW_some] <;> rfl) | (simp [*,errW_none,errW_some] <;> rfl),hs1 HB GE101⟩
end Go.Proofs.Ytcpgpchdplpfiaa.PR

namespace Go.Proofs.Ytcpgpchdplpfiaa.PR
open Go.RowKit Go.Proofs.YtcpgpchdplpfiaaW.PrintWords Go.Proofs.YtcpgpchdplpfiaaW.PrintLast Go.Proofs.YtcpgpchdplpfiaaW.PrintMore
attribute [local go_sem] max2_int min2_int max_two min_two max_three min_three max_four min_four   -- for this text's walks alone
set_option linter.unusedVariables false
set_option linter.unusedSimpArgs false
def spec_l01Var.l0 : Nat → Int → List Int → Option (ByteArray)
 | 0,_,_=>none
 | k + 1,x0,x3=>if x0 > 127 then (if x3.length < 140737488355328 then (spec_l01Var.l0 k (wrap64 (Int.tdiv x0 128)) (x3 ++ [(wrap64 ((Int.tmod x0 128) + 128)) % 256])) else (none)) else (if x3.length < 140737488355328 then (some (strOfNums (x3 ++ [(x0) % 256]))) else (none))
def spec_l01Var.f (k : Nat) (a0 : Int) : Option (ByteArray):=spec_l01Var.l0 k a0 (([] : List Int))
theorem spec_l01Var.mono_l : ∀ k,(∀ y0 y1,LeO (spec_l01Var.l0 k y0 y1) (spec_l01Var.l0 (k + 1) y0 y1))
 | 0=>fun _ _ r h=>by simp [spec_l01Var.l0] at h
 | k + 1=>by
  have ih0:=spec_l01Var.mono_l k;intro y0 y1;unfold spec_l01Var.l0
  repeat' first
  | (with_reducible exact ih0 _ _)
  | (with_reducible exact LeO.refl _)
  | (with_reducible exact LeO.none _)
  | (with_reducible refine LeO.ite ?_ ?_)
  | (with_reducible refine LeO.bind ?_ (fun _=>?_))
  | exact ih0 _ _
  | exact LeO.none _
  | refine LeO.ite ?_ ?_
  | refine LeO.bind ?_ (fun _=>?_)
theorem spec_l01Var.mono : ∀ a0 k,LeO (spec_l01Var.f k a0) (spec_l01Var.f (k + 1) a0):=by
 intro a0 k;have ih0:=spec_l01Var.mono_l k;unfold spec_l01Var.f
 repeat' first
   | (with_reducible exact ih0 _ _)
   | (with_reducible exact LeO.refl _)
   | (with_reducible exact LeO.none _)
   | (with_reducible refine LeO.ite ?_ ?_)
   | (with_reducible refine LeO.bind ?_ (fun _=>?_))
   | exact ih0 _ _
   | exact LeO.none _
   | refine LeO.ite ?_ ?_
   | refine LeO.bind ?_ (fun _=>?_)
set_option maxHeartbeats 8000000 in
set_option maxRecDepth 100000 in
theorem spec_l01Var.calls (k : Nat) (a0 : Int) (r : ByteArray) (w : World) (h : spec_l01Var.f k a0 = some r) :
  Calls Try.prog 108 #[.int .i64 a0] w fun e w'=>e = .returned (.string r) ∧ Below w.heap.size w w':=by
 have HB:=zMk (Below.refl w.heap.size w);have H : (spec_l01Var.l0 k a0 (([] : List Int))) = some r:=h;clear h;obtain ⟨y106,hy106⟩ : ∃ y_ : List Int,y_ = (([] : List Int)):=⟨_,rfl⟩;replace H : (spec_l01Var.l0 k a0 y106) = some r:=by first | (rw [hy106];with_reducible exact H) | (have H2_:=(Option.bind_some _ _).symm.trans H;rw [hy106];with_reducible exact H2_) | (have H2_:=(Option.bind_some _ _).symm.trans H;with_reducible exact H2_) | with_reducible exact H | (rw [hy106];exact H) | exact H
 have Ny106:=zMk hy106;clear hy106;have H':=zMk H;clear H
 go_enter Try.func108,Try.ntmps108
 go_wp2_with (first | ((with_reducible refine gate_dst (N:=4) rfl ?_);refine Kd.R_lit (Kd.int .u8) _ 5 ?hg (N:=4) ?hd (xs:=([] : List Int)) (inner:=[]) (ok:=fun _=>True) (okp:=fun _=>True) ?hr ?hp (fun _ hk=>hk) trivial (Below.refl _ _) (Nat.le_refl _) (by simp) ?_;(case hd=>rfl);(case hg=>rfl);(case hr=>first | (go_simp;done) | (go_simp;rfl));(case hp=>exact (Reps.none _ _));intro v107 w2 ho3 hb hg_ hnew_;clear hg_ hnew_;(first | rw [← Ny106.out] at ho3 | (simp only [Int.reduceToNat] at ho3;rw [← Ny106.out] at ho3));have n0_:=zMk (Kd.R_lower ho3 (below_size (hs HB)));have n1_:=zMk (below_step (hs HB) hb);clear HB;have HO108:=n0_;have HB:=n1_;clear n0_ n1_;clear hb ho3));go_loopg [0,3] k (fun kq v0 v3 w'=>∃ (x0_1 : Int) (x3_1 : List Int),v0 = .int .i64 x0_1 ∧ Aside0 (spec_l01Var.l0 kq x0_1 x3_1 = some r) ∧ Aside0 (kq ≤ k) ∧ Aside0 (Kd.R (Kd.int .u8) 5 w' w.heap.size (fun _=>True) v3 x3_1) ∧ Aside0 (Below w.heap.size w w'));case atStart=>exact ⟨(a0),(y106),(by first | rfl | (simp;done) | (simp [*];done)),H',⟨Nat.le_refl _⟩,⟨rs HO108⟩,⟨hs HB⟩⟩
 case round =>
  clear H'
  try clear c1
  try clear p2
  obtain ⟨x0_1,x3_1,rfl,HA,HK1,HO_3,HB⟩:=hrel;cases gk with
  | zero=>exact absurd HA.out (by simp [spec_l01Var.l0])
  | succ k1 =>
   have H:=HA.out;clear HA;simp only [spec_l01Var.l0] at H
   by_cases c4 : x0_1 > 127
   ·rw [if_pos c4] at H;have c4b0 : decide (127 < x0_1) = true:=decide_eq_true c4;clear c4
    by_cases c5 : x3_1.length < 140737488355328
    ·rw [if_pos c5] at H;have LMc5:=zMk c5;clear c5;obtain ⟨y109,hy109⟩ : ∃ y_ : List Int,y_ = (x3_1 ++ [(wrap64 ((Int.tmod x0_1 128) + 128)) % 256]):=⟨_,rfl⟩;replace H : (spec_l01Var.l0 k1 (wrap64 (Int.tdiv x0_1 128)) y109) = some r:=by first | (rw [hy109];with_reducible exact H) | (have H2_:=(Option.bind_some _ _).symm.trans H;rw [hy109];with_reducible exact H2_) | (have H2_:=(Option.bind_some _ _).symm.trans H;with_reducible exact H2_) | with_reducible exact H | (rw [hy109];exact H) | exact H
     have Ny109:=zMk hy109;clear hy109;have H':=zMk H;clear H;go_wp2_with (first | ((with_reducible refine gate_builtin (b:=.append) (xs:=#[.tmp 7,.tmp 12]) rfl ?_);at_builtin;refine Kd.R_append (Kd.int .u8) (w0:=w) w.heap.size rfl (.tmp 7) (.tmp 12) 28 5 (.int .u8 0) 1 rfl Try.underlying28 info5 rfl (by decide) (by omega) u3 x3_1 ((wrap64 ((Int.tmod x0_1 128) + 128)) % 256) [.int .u8 ((wrap64 ((Int.tmod x0_1 128) + 128)) % 256)] (fun _=>True) (fun _=>False) rfl rfl ?aP (fun _ hk=>hk.elim) ?aF ?aO ?aB ?aS ?aL ?_;(case aP=>exact rfl);(case aB=>exact (hs HB));(case aF=>exact (fun _ _=>trivial));(case aO=>exact (rs HO_3));(case aS=>exact (below_size (hs HB)));(case aL=>have:=LMc5.out;omega);intro v110 w6 ho hb hg hat;rw [← Ny109.out] at ho;have n0_:=zMk (hb);have n1_:=zMk (ho);clear HB;clear HO_3;have HB:=n0_;have HO111:=n1_;clear n0_ n1_;clear ho hb hg hat));go_roundg k1;case measure=>have:=HK1.out;omega
     case rel=>exact ⟨(wrap64 (Int.tdiv x0_1 128)),(y109),(by first | rfl | (simp;done) | (simp [*];done)),H',⟨by have:=HK1.out;omega⟩,⟨rs HO111⟩,⟨hs HB⟩⟩
    rw [if_neg c5] at H;exact absurd H (by simp)
   rw [if_neg c4] at H;have c4b0 : decide (127 < x0_1) = false:=decide_eq_false c4;clear c4
   by_cases c7 : x3_1.length < 140737488355328
   ·rw [if_pos c7] at H;have LMc7:=zMk c7;clear c7;obtain ⟨y112,hy112⟩ : ∃ y_ : List Int,y_ = (x3_1 ++ [(x0_1) % 256]):=⟨_,rfl⟩;replace H : (some (strOfNums y112)) = some r:=by first | (rw [hy112];with_reducible exact H) | (have H2_:=(Option.bind_some _ _).symm.trans H;rw [hy112];with_reducible exact H2_) | (have H2_:=(Option.bind_some _ _).symm.trans H;with_reducible exact H2_) | with_reducible exact H | (rw [hy112];exact H) | exact H
    have Ny112:=zMk hy112;clear hy112;obtain rfl:=Option.some.inj H;go_wp2_with (first | ((with_reducible refine gate_builtin (b:=.append) (xs:=#[.tmp 16,.tmp 19]) rfl ?_);at_builtin;refine Kd.R_append (Kd.int .u8) (w0:=w) w.heap.size rfl (.tmp 16) (.tmp 19) 28 5 (.int .u8 0) 1 rfl Try.underlying28 info5 rfl (by decide) (by omega) u3 x3_1 ((x0_1) % 256) [.int .u8 ((x0_1) % 256)] (fun _=>True) (fun _=>False) rfl rfl ?aP (fun _ hk=>hk.elim) ?aF ?aO ?aB ?aS ?aL ?_;(case aP=>exact rfl);(case aB=>exact (hs HB));(case aF=>exact (fun _ _=>trivial));(case aO=>exact (rs HO_3));(case aS=>exact (below_size (hs HB)));(case aL=>have:=LMc7.out;omega);intro v113 w8 ho hb hg hat;rw [← Ny112.out] at ho;have n0_:=zMk (hb);have n1_:=zMk (ho);clear HB;clear HO_3;have HB:=n0_;have HO114:=n1_;clear n0_ n1_;clear ho hb hg hat;have hcv9:=own_string (P:=Try.prog) Try.underlying28 Try.underlying5 Try.underlying9 (Kd.own_of_R HO114.out)))
    go_ret
    exact ⟨by first | rfl | (simp [errW_none,errW_some] <;> rfl) | (simp [*,errW_none,errW_some] <;> rfl),hs HB⟩
   rw [if_neg c7] at H;exact absurd H (by simp)
end Go.Proofs.Ytcpgpchdplpfiaa.PR

namespace Go.Proofs.Ytcpgpchdplpfiaa.PR
open Go.RowKit Go.Proofs.YtcpgpchdplpfiaaW.PrintWords Go.Proofs.YtcpgpchdplpfiaaW.PrintLast Go.Proofs.YtcpgpchdplpfiaaW.PrintMore
attribute [local go_sem] max2_int min2_int max_two min_two max_three min_three max_four min_four   -- for this text's walks alone
set_option linter.unusedVariables false
set_option linter.unusedSimpArgs false
mutual
def spec_ReadVar.l0 : Nat → ByteArray → Int → Int → Int → Int → Option (Int × Int × Bool)
 | 0,_,_,_,_,_=>none
 | k + 1,x0,x1,x7,x8,x9=>if x9 < (x0.size : Int) then (spec_ReadVar.j1 k x0 x1 x7 x8 x9 (decide (x9 < (wrap64 (x1 + 5))))) else (spec_ReadVar.j1 k x0 x1 x7 x8 x9 false)
def spec_ReadVar.j1 : Nat → ByteArray → Int → Int → Int → Int → Bool → Option (Int × Int × Bool)
 | 0,_,_,_,_,_,_=>none
 | k + 1,x0,x1,x7,x8,x9,x25=>if x25 = true then (if 0 ≤ x9 then (if x9 < (x0.size : Int) then (if (bt x0 x9) < 128 then (if (wrap64 (x7 + (wrap64 ((Int.tmod (wrap64 (bt x0 x9)) 128) * x8)))) > 1000000000 then (some (0,0,false)) else ((spec_l01Var.f k (wrap64 (x7 + (wrap64 ((Int.tmod (wrap64 (bt x0 x9)) 128) * x8))))).bind fun t116=>(if 0 ≤ x1 then (if x1 ≤ (wrap64 (x9 + 1)) then (if (wrap64 (x9 + 1)) ≤ (x0.size : Int) then (if t116.toList = (x0.extract (x1 : Int).toNat ((wrap64 (x9 + 1)) : Int).toNat).toList then (some (wrap64 (x7 + (wrap64 ((Int.tmod (wrap64 (bt x0 x9)) 128) * x8))),wrap64 (x9 + 1),true)) else (some (0,0,false))) else (none)) else (none)) else (none)))) else (spec_ReadVar.l0 k x0 x1 (wrap64 (x7 + (wrap64 ((Int.tmod (wrap64 (bt x0 x9)) 128) * x8)))) (wrap64 (x8 * 128)) (wrap64 (x9 + 1)))) else (none)) else (none)) else (some (0,0,false))
end
def spec_ReadVar.f (k : Nat) (a0 : ByteArray) (a1 : Int) : Option (Int × Int × Bool):=(spec_l01In.f a1 0 (a0.size : Int)).bind fun t115=>(if t115 = true then (spec_ReadVar.l0 k a0 a1 0 1 a1) else (some (0,0,false)))
theorem spec_ReadVar.mono_l : ∀ k,(∀ y0 y1 y2 y3 y4,LeO (spec_ReadVar.l0 k y0 y1 y2 y3 y4) (spec_ReadVar.l0 (k + 1) y0 y1 y2 y3 y4)) ∧ (∀ y0 y1 y2 y3 y4 y5,LeO (spec_ReadVar.j1 k y0 y1 y2 y3 y4 y5) (spec_ReadVar.j1 (k + 1) y0 y1 y2 y3 y4 y5))
 | 0=>⟨fun _ _ _ _ _ r h=>by simp [spec_ReadVar.l0] at h,fun _ _ _ _ _ _ r h=>by simp [spec_ReadVar.j1] at h⟩
 | k + 1=>by
  obtain ⟨ih0,ih1⟩:=spec_ReadVar.mono_l k;refine ⟨?_,?_⟩
  ·intro y0 y1 y2 y3 y4;unfold spec_ReadVar.l0
   repeat' first
   | (with_reducible exact ih0 _ _ _ _ _)
   | (with_reducible exact ih1 _ _ _ _ _ _)
   | (with_reducible exact spec_l01Var.mono _ _)
   | (with_reducible exact LeO.refl _)
   | (with_reducible exact LeO.none _)
   | (with_reducible refine LeO.ite ?_ ?_)
   | (with_reducible refine LeO.bind ?_ (fun _=>?_))
   | exact ih0 _ _ _ _ _
   | exact ih1 _ _ _ _ _ _
   | exact spec_l01Var.mono _ _
   | exact LeO.none _
   | refine LeO.ite ?_ ?_
   | refine LeO.bind ?_ (fun _=>?_)
  intro y0 y1 y2 y3 y4 y5;unfold spec_ReadVar.j1
  repeat' first
  | (with_reducible exact ih0 _ _ _ _ _)
  | (with_reducible exact ih1 _ _ _ _ _ _)
  | (with_reducible exact spec_l01Var.mono _ _)
  | (with_reducible exact LeO.refl _)
  | (with_reducible exact LeO.none _)
  | (with_reducible refine LeO.ite ?_ ?_)
  | (with_reducible refine LeO.bind ?_ (fun _=>?_))
  | exact ih0 _ _ _ _ _
  | exact ih1 _ _ _ _ _ _
  | exact spec_l01Var.mono _ _
  | exact LeO.none _
  | refine LeO.ite ?_ ?_
  | refine LeO.bind ?_ (fun _=>?_)
theorem spec_ReadVar.mono : ∀ a0 a1 k,LeO (spec_ReadVar.f k a0 a1) (spec_ReadVar.f (k + 1) a0 a1):=by
 intro a0 a1 k;obtain ⟨ih0,ih1⟩:=spec_ReadVar.mono_l k;unfold spec_ReadVar.f
 repeat' first
   | (with_reducible exact ih0 _ _ _ _ _)
   | (with_reducible exact ih1 _ _ _ _ _ _)
   | (with_reducible exact spec_l01Var.mono _ _)
   | (with_reducible exact LeO.refl _)
   | (with_reducible exact LeO.none _)
   | (with_reducible refine LeO.ite ?_ ?_)
   | (with_reducible refine LeO.bind ?_ (fun _=>?_))
   | exact ih0 _ _ _ _ _
   | exact ih1 _ _ _ _ _ _
   | exact spec_l01Var.mono _ _
   | exact LeO.none _
   | refine LeO.ite ?_ ?_
   | refine LeO.bind ?_ (fun _=>?_)
def spec_ReadVar.T11 : Bool × List (List Nat × List Nat):=(true,[([],[]),([0],[0]),([1],[1]),([2],[2]),([3,2,2],[2,3]),([2],[2]),([2],[2]),([2],[2]),([7,2],[2,7]),([5,6,8,2],[2,5,6,8]),([4,9,2],[2,4,9]),([2,10],[2,10])])
def spec_ReadVar.B11 : List Nat:=[0,1,3,7,15,7,7,7,135,487,1023,2047]
theorem spec_ReadVar.tab11 : rtab .any (opsOf Try.f90 11) = spec_ReadVar.T11:=by kernel_rfl
theorem spec_ReadVar.bits11 : waitsOk spec_ReadVar.T11.2 spec_ReadVar.B11 = true:=by kernel_rfl
set_option maxHeartbeats 8000000 in
set_option maxRecDepth 100000 in
theorem spec_ReadVar.calls (k : Nat) (a0 : ByteArray) (a1 : Int) (r1 : Int) (r2 : Int) (r3 : Bool) (w : World) (h : spec_ReadVar.f k a0 a1 = some (r1,r2,r3)) :
  Calls Try.prog 90 #[.string a0,.int .i64 a1] w fun e w'=>e = .returned (.tuple #[.int .i64 r1,.int .i64 r2,.bool r3]) ∧ Below w.heap.size w w':=by
 have HB:=zMk (Below.refl w.heap.size w);have H : ((spec_l01In.f a1 0 (a0.size : Int)).bind fun t115=>(if t115 = true then (spec_ReadVar.l0 k a0 a1 0 1 a1) else (some (0,0,false)))) = some (r1,r2,r3):=h;clear h;replace H:=Option.bind_eq_some_iff.mp H;obtain ⟨t115,A30,H⟩:=H;replace H : (if t115 = true then (spec_ReadVar.l0 k a0 a1 0 1 a1) else (some (0,0,false))) = some (r1,r2,r3):=H;have A3:=zMk A30;clear A30
 by_cases c4 : t115 = true
 ·subst c4;have H1 : (spec_ReadVar.l0 k a0 a1 0 1 a1) = some (r1,r2,r3):=by rw [if_pos rfl] at H;exact H
  clear H;have H:=H1;clear H1;have H':=zMk H;clear H
  go_enter Try.func90,Try.ntmps90
  go_wp2_with (first | ((with_reducible refine gate_callee (f:=66) rfl ?_);refine goesL_ (some 13) rfl rfl Try.func66 (by kernel_rfl) rfl #[.int .i64 a1,.int .i64 0,.int .i64 (a0.size : Int)] rfl (by (try simp only [List.map_toArray,List.map_cons,List.map_nil]);first | done | rfl | (simp only [List.length_drop,List.length_take];rfl)) ?_;(with_reducible refine (spec_l01In.calls a1 0 (a0.size : Int) true _ A3.out).mono ?_);rintro e w' ⟨rfl,⟨nd,rfl⟩⟩;refine ⟨_,rfl,?_⟩));go_loopg [7,8,9] k (fun kq v7 v8 v9 w'=>∃ (x7_1 : Int) (x8_1 : Int) (x9_1 : Int),v7 = .int .i64 x7_1 ∧ v8 = .int .i64 x8_1 ∧ v9 = .int .i64 x9_1 ∧ Aside0 (spec_ReadVar.l0 kq a0 a1 x7_1 x8_1 x9_1 = some (r1,r2,r3)) ∧ Aside0 (kq ≤ k) ∧ Aside0 (Below w.heap.size w w'));case atStart=>exact ⟨(0),(1),(a1),(by first | rfl | (simp;done) | (simp [*];done)),(by first | rfl | (simp;done) | (simp [*];done)),(by first | rfl | (simp;done) | (simp [*];done)),H',⟨Nat.le_refl _⟩,⟨hs HB⟩⟩
  case round =>
   clear H'
   try clear p2
   try clear c4
   obtain ⟨x7_1,x8_1,x9_1,rfl,rfl,rfl,HA,HK1,HB⟩:=hrel;cases gk with
   | zero=>exact absurd HA.out (by simp [spec_ReadVar.l0])
   | succ k1 =>
    have H:=HA.out;clear HA;simp only [spec_ReadVar.l0] at H;have HC5:=zMk H;clear H;go_upto_region 6 with (fail);go_cut [25] (fun v25 wc=>∃ (kq : Nat) (x25_4 : Bool),v25 = .bool x25_4 ∧ Aside0 (spec_ReadVar.j1 kq a0 a1 x7_1 x8_1 x9_1 x25_4 = some (r1,r2,r3)) ∧ Aside0 (kq ≤ k1) ∧ Aside0 (Below w.heap.size w wc))
    case first =>
     have H:=HC5.out;clear HC5
     by_cases c6 : x9_1 < (a0.size : Int)
     ·rw [if_pos c6] at H;have c6b0 : decide (x9_1 < (a0.size : Int)) = true:=decide_eq_true c6;clear c6
      (first | rw [c6b0] | (simp only [i64_w,i32_w];rw [c6b0]) | skip)
      have H':=zMk H;clear H
      go_wp2
      go_meet
      case rel=>exact ⟨_,(decide (x9_1 < (wrap64 (a1 + 5)))),(by first | rfl | (simp;done) | (simp [*];done)),H',⟨by have:=HK1.out;first | omega | exact Nat.le_refl _⟩,⟨hs HB⟩⟩
     rw [if_neg c6] at H;have c6b0 : decide (x9_1 < (a0.size : Int)) = false:=decide_eq_false c6;clear c6
     (first | rw [c6b0] | (simp only [i64_w,i32_w];rw [c6b0]) | skip)
     have H':=zMk H;clear H
     go_wp2
     go_meet
     case rel=>exact ⟨_,(false),(by first | rfl | (simp;done) | (simp [*];done)),H',⟨by have:=HK1.out;first | omega | exact Nat.le_refl _⟩,⟨hs HB⟩⟩
    case rest =>
     clear HC5
     try clear p2
     try clear c4
     try clear c6
     try clear c6b0
     try clear p6
     try clear p2
     obtain ⟨kq,x25_4,rfl,HA,HJ4,HB⟩:=hcut;cases kq with
     | zero=>exact absurd HA.out (by simp [spec_ReadVar.j1])
     | succ kj4 =>
      have H:=HA.out;clear HA;simp only [spec_ReadVar.j1] at H
      by_cases c7 : x25_4 = true
      ·subst c7;have H1 : (if 0 ≤ x9_1 then (if x9_1 < (a0.size : Int) then (if (bt a0 x9_1) < 128 then (if (wrap64 (x7_1 + (wrap64 ((Int.tmod (wrap64 (bt a0 x9_1)) 128) * x8_1)))) > 1000000000 then (some (0,0,false)) else ((spec_l01Var.f kj4 (wrap64 (x7_1 + (wrap64 ((Int.tmod (wrap64 (bt a0 x9_1)) 128) * x8_1))))).bind fun t116=>(if 0 ≤ a1 then (if a1 ≤ (wrap64 (x9_1 + 1)) then (if (wrap64 (x9_1 + 1)) ≤ (a0.size : Int) then (if t116.toList = (a0.extract (a1 : Int).toNat ((wrap64 (x9_1 + 1)) : Int).toNat).toList then (some (wrap64 (x7_1 + (wrap64 ((Int.tmod (wrap64 (bt a0 x9_1)) 128) * x8_1))),wrap64 (x9_1 + 1),true)) else (some (0,0,false))) else (none)) else (none)) else (none)))) else (spec_ReadVar.l0 kj4 a0 a1 (wrap64 (x7_1 + (wrap64 ((Int.tmod (wrap64 (bt a0 x9_1)) 128) * x8_1)))) (wrap64 (x8_1 * 128)) (wrap64 (x9_1 + 1)))) else (none)) else (none)) = some (r1,r2,r3):=by rw [if_pos rfl] at H;exact H
       clear H;have H:=H1;clear H1
       by_cases c8 : 0 ≤ x9_1
       ·rw [if_pos c8] at H;have c8b0 : decide (0 ≤ x9_1) = true:=decide_eq_true c8;clear c8
        by_cases c9 : x9_1 < (a0.size : Int)
        ·rw [if_pos c9] at H;have c9b0 : decide (x9_1 < (a0.size : Int)) = true:=decide_eq_true c9;clear c9
         by_cases c12 : (bt a0 x9_1) < 128
         ·rw [if_pos c12] at H;have c12b0 : decide ((bt a0 x9_1) < 128) = true:=decide_eq_true c12;clear c12
          by_cases c13 : (wrap64 (x7_1 + (wrap64 ((Int.tmod (wrap64 (bt a0 x9_1)) 128) * x8_1)))) > 1000000000
          ·rw [if_pos c13] at H;have c13b0 : decide (1000000000 < (wrap64 (x7_1 + (wrap64 ((Int.tmod (wrap64 (bt a0 x9_1)) 128) * x8_1))))) = true:=decide_eq_true c13;clear c13;simp only [Option.some.injEq,Prod.mk.injEq] at H;obtain ⟨rfl,rfl,rfl⟩:=H;have p10 : 0 ≤ (x9_1 : Int):=of_decide_eq_true (by first | (with_reducible assumption) | assumption);have q10 : x9_1 < (a0.size : Int):=of_decide_eq_true (by first | (with_reducible assumption) | assumption);have hx10:=bt_at a0 x9_1;replace p10:=eq_true p10;replace q10:=eq_true q10;have p11 : 0 ≤ (x9_1 : Int):=of_decide_eq_true (by first | (with_reducible assumption) | assumption);have q11 : x9_1 < (a0.size : Int):=of_decide_eq_true (by first | (with_reducible assumption) | assumption);have hx11:=bt_at a0 x9_1;replace p11:=eq_true p11;replace q11:=eq_true q11
           try go_wp2
           have n0_:=zMk (below_drew1 HB.out);clear HB;have HB:=n0_;clear n0_;refine start_ (n:=12) (S:=fun w'=>True) (ds:=[]) #[false,false,false,false,false,false,false,false,false,false,false,false] (by kernel_rfl) rfl rfl trivial (fun hHeld=>?_);refine with_tabW spec_ReadVar.tab11 spec_ReadVar.bits11 (fun HT_ HW_=>?_);generalize wc.drew = w14 at HB hHeld ⊢;refine pure_ (i:=0) (N:=some 43) (v:=?_) (a':=?_) #[true,false,false,false,false,false,false,false,false,false,false,false] rfl rfl (any_of HT_.out (by kernel_rfl)) (fun _ _ _ h=>h) (Or.inl ⟨by rfl,?_⟩) ?_ ?_;rotate_left
           ·intro w';go_simp;with_reducible rfl
           rotate_left
           ·simp only [Act.put,List.setIfInBounds_toArray,List.set_cons_zero,List.set_cons_succ,i64_w,i32_w];rfl
           refine pure_ (i:=1) (N:=some 44) (v:=?_) (a':=?_) #[true,true,false,false,false,false,false,false,false,false,false,false] rfl rfl (any_of HT_.out (by kernel_rfl)) (fun _ _ _ h=>h) (Or.inl ⟨by rfl,?_⟩) ?_ ?_;rotate_left
           ·intro w';go_simp;with_reducible rfl
           rotate_left
           ·simp only [Act.put,List.setIfInBounds_toArray,List.set_cons_zero,List.set_cons_succ,i64_w,i32_w];rfl
           refine pure_ (i:=2) (N:=some 45) (v:=?_) (a':=?_) #[true,true,true,false,false,false,false,false,false,false,false,false] rfl rfl (any_of HT_.out (by kernel_rfl)) (fun _ _ _ h=>h) (Or.inl ⟨by rfl,?_⟩) ?_ ?_;rotate_left
           ·intro w';go_simp;with_reducible rfl
           rotate_left
           ·simp only [Act.put,List.setIfInBounds_toArray,List.set_cons_zero,List.set_cons_succ,i64_w,i32_w];rfl
           refine pure_ (i:=3) (N:=some 46) (v:=undef) (a':=?_) #[true,true,true,true,false,false,false,false,false,false,false,false] rfl rfl (any_of HT_.out (by kernel_rfl)) (fun _ _ _ h=>h) (Or.inr ⟨by rfl,rfl⟩) ?_ ?_;rotate_left
           ·simp only [Act.put,List.setIfInBounds_toArray,List.set_cons_zero,List.set_cons_succ,i64_w,i32_w];rfl
           refine pure_ (i:=4) (N:=some 47) (v:=undef) (a':=?_) #[true,true,true,true,true,false,false,false,false,false,false,false] rfl rfl (any_of HT_.out (by kernel_rfl)) (fun _ _ _ h=>h) (Or.inr ⟨by rfl,rfl⟩) ?_ ?_;rotate_left
           ·simp only [Act.put,List.setIfInBounds_toArray,List.set_cons_zero,List.set_cons_succ,i64_w,i32_w];rfl
           refine pure_ (i:=5) (N:=some 48) (v:=undef) (a':=?_) #[true,true,true,true,true,true,false,false,false,false,false,false] rfl rfl (any_of HT_.out (by kernel_rfl)) (fun _ _ _ h=>h) (Or.inr ⟨by rfl,rfl⟩) ?_ ?_;rotate_left
           ·simp only [Act.put,List.setIfInBounds_toArray,List.set_cons_zero,List.set_cons_succ,i64_w,i32_w];rfl
           refine pure_ (i:=6) (N:=some 49) (v:=undef) (a':=?_) #[true,true,true,true,true,true,true,false,false,false,false,false] rfl rfl (any_of HT_.out (by kernel_rfl)) (fun _ _ _ h=>h) (Or.inr ⟨by rfl,rfl⟩) ?_ ?_;rotate_left
           ·simp only [Act.put,List.setIfInBounds_toArray,List.set_cons_zero,List.set_cons_succ,i64_w,i32_w];rfl
           refine pure_ (i:=7) (N:=some 50) (v:=undef) (a':=?_) #[true,true,true,true,true,true,true,true,false,false,false,false] rfl rfl (any_of HT_.out (by kernel_rfl)) (fun _ _ _ h=>h) (Or.inr ⟨by rfl,rfl⟩) ?_ ?_;rotate_left
           ·simp only [Act.put,List.setIfInBounds_toArray,List.set_cons_zero,List.set_cons_succ,i64_w,i32_w];rfl
           refine pure_ (i:=8) (N:=some 51) (v:=undef) (a':=?_) #[true,true,true,true,true,true,true,true,true,false,false,false] rfl rfl (any_of HT_.out (by kernel_rfl)) (fun _ _ _ h=>h) (Or.inr ⟨by rfl,rfl⟩) ?_ ?_;rotate_left
           ·simp only [Act.put,List.setIfInBounds_toArray,List.set_cons_zero,List.set_cons_succ,i64_w,i32_w];rfl
           refine pure_ (i:=9) (N:=some 52) (v:=undef) (a':=?_) #[true,true,true,true,true,true,true,true,true,true,false,false] rfl rfl (any_of HT_.out (by kernel_rfl)) (fun _ _ _ h=>h) (Or.inr ⟨by rfl,rfl⟩) ?_ ?_;rotate_left
           ·simp only [Act.put,List.setIfInBounds_toArray,List.set_cons_zero,List.set_cons_succ,i64_w,i32_w];rfl
           refine pure_ (i:=10) (N:=some 53) (v:=undef) (a':=?_) #[true,true,true,true,true,true,true,true,true,true,true,false] rfl rfl (any_of HT_.out (by kernel_rfl)) (fun _ _ _ h=>h) (Or.inr ⟨by rfl,rfl⟩) ?_ ?_;rotate_left
           ·simp only [Act.put,List.setIfInBounds_toArray,List.set_cons_zero,List.set_cons_succ,i64_w,i32_w];rfl
           refine pure_ (i:=11) (N:=some 54) (v:=?_) (a':=?_) #[true,true,true,true,true,true,true,true,true,true,true,true] rfl rfl (any_of HT_.out (by kernel_rfl)) (fun _ _ _ h=>h) (Or.inl ⟨by rfl,?_⟩) ?_ ?_;rotate_left
           ·intro w';go_simp;with_reducible rfl
           rotate_left
           ·simp only [Act.put,List.setIfInBounds_toArray,List.set_cons_zero,List.set_cons_succ,i64_w,i32_w];rfl
           refine done_ (done_of HT_.out (by kernel_rfl)) ?_
           try go_wp2
           go_ret3
           exact ⟨by first | rfl | (simp [errW_none,errW_some] <;> rfl) | (simp [*,errW_none,errW_some] <;> rfl),hs HB⟩
          rw [if_neg c13] at H;have c13b0 : decide (1000000000 < (wrap64 (x7_1 + (wrap64 ((Int.tmod (wrap64 (bt a0 x9_1)) 128) * x8_1))))) = false:=decide_eq_false c13;clear c13;replace H:=Option.bind_eq_some_iff.mp H;obtain ⟨t116,A150,H⟩:=H;replace H : (if 0 ≤ a1 then (if a1 ≤ (wrap64 (x9_1 + 1)) then (if (wrap64 (x9_1 + 1)) ≤ (a0.size : Int) then (if t116.toList = (a0.extract (a1 : Int).toNat ((wrap64 (x9_1 + 1)) : Int).toNat).toList then (some (wrap64 (x7_1 + (wrap64 ((Int.tmod (wrap64 (bt a0 x9_1)) 128) * x8_1))),wrap64 (x9_1 + 1),true)) else (some (0,0,false))) else (none)) else (none)) else (none)) = some (r1,r2,r3):=H;have A15:=zMk A150;clear A150
          by_cases c16 : 0 ≤ a1
          ·rw [if_pos c16] at H;have c16b0:=eq_true c16;have c16b1 : decide (0 ≤ a1) = true:=decide_eq_true c16;clear c16
           by_cases c17 : a1 ≤ (wrap64 (x9_1 + 1))
           ·rw [if_pos c17] at H;have c17b0:=eq_true c17;have c17b1 : decide (a1 ≤ (wrap64 (x9_1 + 1))) = true:=decide_eq_true c17
            by_cases c18 : (wrap64 (x9_1 + 1)) ≤ (a0.size : Int)
            ·rw [if_pos c18] at H;have c18b0:=eq_true c18;have c18b1 : decide ((wrap64 (x9_1 + 1)) ≤ (a0.size : Int)) = true:=decide_eq_true c18
             by_cases c19 : t116.toList = (a0.extract (a1 : Int).toNat ((wrap64 (x9_1 + 1)) : Int).toNat).toList
             ·rw [if_pos c19] at H;have c19b0 : (t116.toList == (a0.extract (a1 : Int).toNat ((wrap64 (x9_1 + 1)) : Int).toNat).toList) = true:=beq_iff_eq.mpr c19;have c19b1 : (t116.toList != (a0.extract (a1 : Int).toNat ((wrap64 (x9_1 + 1)) : Int).toNat).toList) = false:=bne_eq_false_iff_eq.mpr c19;clear c19;simp only [Option.some.injEq,Prod.mk.injEq] at H;obtain ⟨rfl,rfl,rfl⟩:=H;have p10 : 0 ≤ (x9_1 : Int):=of_decide_eq_true (by first | (with_reducible assumption) | assumption);have q10 : x9_1 < (a0.size : Int):=of_decide_eq_true (by first | (with_reducible assumption) | assumption);have hx10:=bt_at a0 x9_1;replace p10:=eq_true p10;replace q10:=eq_true q10;have p11 : 0 ≤ (x9_1 : Int):=of_decide_eq_true (by first | (with_reducible assumption) | assumption);have q11 : x9_1 < (a0.size : Int):=of_decide_eq_true (by first | (with_reducible assumption) | assumption);have hx11:=bt_at a0 x9_1;replace p11:=eq_true p11;replace q11:=eq_true q11
              try go_wp2
              have n0_:=zMk (below_drew1 HB.out);clear HB;have HB:=n0_;clear n0_;refine start_ (n:=12) (S:=fun w'=>True) (ds:=[]) #[false,false,false,false,false,false,false,false,false,false,false,false] (by kernel_rfl) rfl rfl trivial (fun hHeld=>?_);refine with_tabW spec_ReadVar.tab11 spec_ReadVar.bits11 (fun HT_ HW_=>?_);generalize wc.drew = w20 at HB hHeld ⊢;refine pure_ (i:=0) (N:=some 43) (v:=?_) (a':=?_) #[true,false,false,false,false,false,false,false,false,false,false,false] rfl rfl (any_of HT_.out (by kernel_rfl)) (fun _ _ _ h=>h) (Or.inl ⟨by rfl,?_⟩) ?_ ?_;rotate_left
              ·intro w';go_simp;with_reducible rfl
              rotate_left
              ·simp only [Act.put,List.setIfInBounds_toArray,List.set_cons_zero,List.set_cons_succ,i64_w,i32_w];rfl
              refine pure_ (i:=1) (N:=some 44) (v:=?_) (a':=?_) #[true,true,false,false,false,false,false,false,false,false,false,false] rfl rfl (any_of HT_.out (by kernel_rfl)) (fun _ _ _ h=>h) (Or.inl ⟨by rfl,?_⟩) ?_ ?_;rotate_left
              ·intro w';go_simp;with_reducible rfl
              rotate_left
              ·simp only [Act.put,List.setIfInBounds_toArray,List.set_cons_zero,List.set_cons_succ,i64_w,i32_w];rfl
              refine pure_ (i:=2) (N:=some 45) (v:=?_) (a':=?_) #[true,true,true,false,false,false,false,false,false,false,false,false] rfl rfl (any_of HT_.out (by kernel_rfl)) (fun _ _ _ h=>h) (Or.inl ⟨by rfl,?_⟩) ?_ ?_;rotate_left
              ·intro w';go_simp;with_reducible rfl
              rotate_left
              ·simp only [Act.put,List.setIfInBounds_toArray,List.set_cons_zero,List.set_cons_succ,i64_w,i32_w];rfl
              refine pure_ (i:=3) (N:=some 46) (v:=?_) (a':=?_) #[true,true,true,true,false,false,false,false,false,false,false,false] rfl rfl (any_of HT_.out (by kernel_rfl)) (fun _ _ _ h=>h) (Or.inl ⟨by rfl,?_⟩) ?_ ?_;rotate_left
              ·intro w';go_simp;with_reducible rfl
              rotate_left
              ·simp only [Act.put,List.setIfInBounds_toArray,List.set_cons_zero,List.set_cons_succ,i64_w,i32_w];rfl
              refine pure_ (i:=5) (N:=some 48) (v:=?_) (a':=?_) #[true,true,true,true,false,true,false,false,false,false,false,false] rfl rfl (any_of HT_.out (by kernel_rfl)) (fun _ _ _ h=>h) (Or.inl ⟨by rfl,?_⟩) ?_ ?_;rotate_left
              ·intro w';go_simp;with_reducible rfl
              rotate_left
              ·simp only [Act.put,List.setIfInBounds_toArray,List.set_cons_zero,List.set_cons_succ,i64_w,i32_w];rfl
              refine pure_ (i:=6) (N:=some 49) (v:=?_) (a':=?_) #[true,true,true,true,false,true,true,false,false,false,false,false] rfl rfl (any_of HT_.out (by kernel_rfl)) (fun _ _ _ h=>h) (Or.inl ⟨by rfl,?_⟩) ?_ ?_;rotate_left
              ·intro w';go_simp;with_reducible rfl
              rotate_left
              ·simp only [Act.put,List.setIfInBounds_toArray,List.set_cons_zero,List.set_cons_succ,i64_w,i32_w];rfl
              refine pure_ (i:=7) (N:=some 50) (v:=?_) (a':=?_) #[true,true,true,true,false,true,true,true,false,false,false,false] rfl rfl (any_of HT_.out (by kernel_rfl)) (fun _ _ _ h=>h) (Or.inl ⟨by rfl,?_⟩) ?_ ?_;rotate_left
              ·intro w';go_simp;with_reducible rfl
              rotate_left
              ·simp only [Act.put,List.setIfInBounds_toArray,List.set_cons_zero,List.set_cons_succ,i64_w,i32_w];rfl
              refine pure_ (i:=8) (N:=some 51) (v:=?_) (a':=?_) #[true,true,true,true,false,true,true,true,true,false,false,false] rfl rfl (any_of HT_.out (by kernel_rfl)) (fun _ _ _ h=>h) (Or.inl ⟨by rfl,?_⟩) ?_ ?_;rotate_left
              ·intro w';go_simp;with_reducible rfl
              rotate_left
              ·simp only [Act.put,List.setIfInBounds_toArray,List.set_cons_zero,List.set_cons_succ,i64_w,i32_w];rfl
              refine pure_ (i:=9) (N:=some 52) (v:=?_) (a':=?_) #[true,true,true,true,false,true,true,true,true,true,false,false] rfl rfl (any_of HT_.out (by kernel_rfl)) (fun _ _ _ h=>h) (Or.inl ⟨by rfl,?_⟩) ?_ ?_;rotate_left
              ·intro w';go_simp;with_reducible rfl
              rotate_left
              ·simp only [Act.put,List.setIfInBounds_toArray,List.set_cons_zero,List.set_cons_succ,i64_w,i32_w];rfl
              refine one_ (i:=4) (N:=some 47) #[true,true,true,true,true,true,true,true,true,true,false,false] rfl rfl (one_of HT_.out (by kernel_rfl)) (by decide) (fun K hK=>?_);refine goes_ Try.func108 (by kernel_rfl) rfl #[.int .i64 (wrap64 (x7_1 + (wrap64 ((Int.tmod (wrap64 (bt a0 x9_1)) 128) * x8_1))))] (by rfl) rfl rfl (by (try simp only [List.map_toArray,List.map_cons,List.map_nil]);first | done | rfl | (simp only [List.length_drop,List.length_take];rfl)) ?_;with_reducible refine (spec_l01Var.calls kj4 (wrap64 (x7_1 + (wrap64 ((Int.tmod (wrap64 (bt a0 x9_1)) 128) * x8_1)))) t116 _ A15.out).mono ?_
              rintro e w21 ⟨rfl,hb⟩;refine ⟨_,rfl,?_⟩;have n0_:=zMk (below_step (hs HB) hb);clear HB;have HB:=n0_;clear n0_
              (try clear hb)
              (try clear hb2)
              (try clear hk)
              (try clear hi)
              refine hK.out _ _ trivial (fun hHeld=>?_);clear hK K;refine norm_ (a':=?_) ?_ ?_;rotate_left
              ·show Act.put _ (some 47) _ = _;simp only [Act.put,List.setIfInBounds_toArray,List.set_cons_zero,List.set_cons_succ,i64_w,i32_w];rfl
              refine pure_ (i:=10) (N:=some 53) (v:=?_) (a':=?_) #[true,true,true,true,true,true,true,true,true,true,true,false] rfl rfl (any_of HT_.out (by kernel_rfl)) (fun _ _ _ h=>h) (Or.inl ⟨by rfl,?_⟩) ?_ ?_;rotate_left
              ·intro w';go_simp;with_reducible rfl
              rotate_left
              ·simp only [Act.put,List.setIfInBounds_toArray,List.set_cons_zero,List.set_cons_succ,i64_w,i32_w];rfl
              refine pure_ (i:=11) (N:=some 54) (v:=?_) (a':=?_) #[true,true,true,true,true,true,true,true,true,true,true,true] rfl rfl (any_of HT_.out (by kernel_rfl)) (fun _ _ _ h=>h) (Or.inl ⟨by rfl,?_⟩) ?_ ?_;rotate_left
              ·intro w';go_simp;with_reducible rfl
              rotate_left
              ·simp only [Act.put,List.setIfInBounds_toArray,List.set_cons_zero,List.set_cons_succ,i64_w,i32_w];rfl
              refine done_ (done_of HT_.out (by kernel_rfl)) ?_
              try go_wp2
              go_ret3
              exact ⟨by first | rfl | (simp [errW_none,errW_some] <;> rfl) | (simp [*,errW_none,errW_some] <;> rfl),hs HB⟩
             rw [if_neg c19] at H;have c19b0 : (t116.toList == (a0.extract (a1 : Int).toNat ((wrap64 (x9_1 + 1)) : Int).toNat).toList) = false:=beq_eq_false_iff_ne.mpr c19;have c19b1 : (t116.toList != (a0.extract (a1 : Int).toNat ((wrap64 (x9_1 + 1)) : Int).toNat).toList) = true:=bne_iff_ne.mpr c19;simp only [Option.some.injEq,Prod.mk.injEq] at H;obtain ⟨rfl,rfl,rfl⟩:=H;have p10 : 0 ≤ (x9_1 : Int):=of_decide_eq_true (by first | (with_reducible assumption) | assumption);have q10 : x9_1 < (a0.size : Int):=of_decide_eq_true (by first | (with_reducible assumption) | assumption);have hx10:=bt_at a0 x9_1;replace p10:=eq_true p10;replace q10:=eq_true q10;have p11 : 0 ≤ (x9_1 : Int):=of_decide_eq_true (by first | (with_reducible assumption) | assumption);have q11 : x9_1 < (a0.size : Int):=of_decide_eq_true (by first | (with_reducible assumption) | assumption);have hx11:=bt_at a0 x9_1;replace p11:=eq_true p11;replace q11:=eq_true q11
             try go_wp2
             have n0_:=zMk (below_drew1 HB.out);clear HB;have HB:=n0_;clear n0_;refine start_ (n:=12) (S:=fun w'=>True) (ds:=[]) #[false,false,false,false,false,false,false,false,false,false,false,false] (by kernel_rfl) rfl rfl trivial (fun hHeld=>?_);refine with_tabW spec_ReadVar.tab11 spec_ReadVar.bits11 (fun HT_ HW_=>?_);generalize wc.drew = w22 at HB hHeld ⊢;refine pure_ (i:=0) (N:=some 43) (v:=?_) (a':=?_) #[true,false,false,false,false,false,false,false,false,false,false,false] rfl rfl (any_of HT_.out (by kernel_rfl)) (fun _ _ _ h=>h) (Or.inl ⟨by rfl,?_⟩) ?_ ?_;rotate_left
             ·intro w';go_simp;with_reducible rfl
             rotate_left
             ·simp only [Act.put,List.setIfInBounds_toArray,List.set_cons_zero,List.set_cons_succ,i64_w,i32_w];rfl
             refine pure_ (i:=1) (N:=some 44) (v:=?_) (a':=?_) #[true,true,false,false,false,false,false,false,false,false,false,false] rfl rfl (any_of HT_.out (by kernel_rfl)) (fun _ _ _ h=>h) (Or.inl ⟨by rfl,?_⟩) ?_ ?_;rotate_left
             ·intro w';go_simp;with_reducible rfl
             rotate_left
             ·simp only [Act.put,List.setIfInBounds_toArray,List.set_cons_zero,List.set_cons_succ,i64_w,i32_w];rfl
             refine pure_ (i:=2) (N:=some 45) (v:=?_) (a':=?_) #[true,true,true,false,false,false,false,false,false,false,false,false] rfl rfl (any_of HT_.out (by kernel_rfl)) (fun _ _ _ h=>h) (Or.inl ⟨by rfl,?_⟩) ?_ ?_;rotate_left
             ·intro w';go_simp;with_reducible rfl
             rotate_left
             ·simp only [Act.put,List.setIfInBounds_toArray,List.set_cons_zero,List.set_cons_succ,i64_w,i32_w];rfl
             refine pure_ (i:=3) (N:=some 46) (v:=?_) (a':=?_) #[true,true,true,true,false,false,false,false,false,false,false,false] rfl rfl (any_of HT_.out (by kernel_rfl)) (fun _ _ _ h=>h) (Or.inl ⟨by rfl,?_⟩) ?_ ?_;rotate_left
             ·intro w';go_simp;with_reducible rfl
             rotate_left
             ·simp only [Act.put,List.setIfInBounds_toArray,List.set_cons_zero,List.set_cons_succ,i64_w,i32_w];rfl
             refine pure_ (i:=5) (N:=some 48) (v:=?_) (a':=?_) #[true,true,true,true,false,true,false,false,false,false,false,false] rfl rfl (any_of HT_.out (by kernel_rfl)) (fun _ _ _ h=>h) (Or.inl ⟨by rfl,?_⟩) ?_ ?_;rotate_left
             ·intro w';go_simp;with_reducible rfl
             rotate_left
             ·simp only [Act.put,List.setIfInBounds_toArray,List.set_cons_zero,List.set_cons_succ,i64_w,i32_w];rfl
             refine pure_ (i:=6) (N:=some 49) (v:=?_) (a':=?_) #[true,true,true,true,false,true,true,false,false,false,false,false] rfl rfl (any_of HT_.out (by kernel_rfl)) (fun _ _ _ h=>h) (Or.inl ⟨by rfl,?_⟩) ?_ ?_;rotate_left
             ·intro w';go_simp;with_reducible rfl
             rotate_left
             ·simp only [Act.put,List.setIfInBounds_toArray,List.set_cons_zero,List.set_cons_succ,i64_w,i32_w];rfl
             refine pure_ (i:=7) (N:=some 50) (v:=?_) (a':=?_) #[true,true,true,true,false,true,true,true,false,false,false,false] rfl rfl (any_of HT_.out (by kernel_rfl)) (fun _ _ _ h=>h) (Or.inl ⟨by rfl,?_⟩) ?_ ?_;rotate_left
             ·intro w';go_simp;with_reducible rfl
             rotate_left
             ·simp only [Act.put,List.setIfInBounds_toArray,List.set_cons_zero,List.set_cons_succ,i64_w,i32_w];rfl
             refine pure_ (i:=8) (N:=some 51) (v:=?_) (a':=?_) #[true,true,true,true,false,true,true,true,true,false,false,false] rfl rfl (any_of HT_.out (by kernel_rfl)) (fun _ _ _ h=>h) (Or.inl ⟨by rfl,?_⟩) ?_ ?_;rotate_left
             ·intro w';go_simp;with_reducible rfl
             rotate_left
             ·simp only [Act.put,List.setIfInBounds_toArray,List.set_cons_zero,List.set_cons_succ,i64_w,i32_w];rfl
             refine pure_ (i:=9) (N:=some 52) (v:=?_) (a':=?_) #[true,true,true,true,false,true,true,true,true,true,false,false] rfl rfl (any_of HT_.out (by kernel_rfl)) (fun _ _ _ h=>h) (Or.inl ⟨by rfl,?_⟩) ?_ ?_;rotate_left
             ·intro w';go_simp;with_reducible rfl
             rotate_left
             ·simp only [Act.put,List.setIfInBounds_toArray,List.set_cons_zero,List.set_cons_succ,i64_w,i32_w];rfl
             refine one_ (i:=4) (N:=some 47) #[true,true,true,true,true,true,true,true,true,true,false,false] rfl rfl (one_of HT_.out (by kernel_rfl)) (by decide) (fun K hK=>?_);refine goes_ Try.func108 (by kernel_rfl) rfl #[.int .i64 (wrap64 (x7_1 + (wrap64 ((Int.tmod (wrap64 (bt a0 x9_1)) 128) * x8_1))))] (by rfl) rfl rfl (by (try simp only [List.map_toArray,List.map_cons,List.map_nil]);first | done | rfl | (simp only [List.length_drop,List.length_take];rfl)) ?_;with_reducible refine (spec_l01Var.calls kj4 (wrap64 (x7_1 + (wrap64 ((Int.tmod (wrap64 (bt a0 x9_1)) 128) * x8_1)))) t116 _ A15.out).mono ?_
             rintro e w23 ⟨rfl,hb⟩;refine ⟨_,rfl,?_⟩;have n0_:=zMk (below_step (hs HB) hb);clear HB;have HB:=n0_;clear n0_
             (try clear hb)
             (try clear hb2)
             (try clear hk)
             (try clear hi)
             refine hK.out _ _ trivial (fun hHeld=>?_);clear hK K;refine norm_ (a':=?_) ?_ ?_;rotate_left
             ·show Act.put _ (some 47) _ = _;simp only [Act.put,List.setIfInBounds_toArray,List.set_cons_zero,List.set_cons_succ,i64_w,i32_w];rfl
             refine pure_ (i:=10) (N:=some 53) (v:=?_) (a':=?_) #[true,true,true,true,true,true,true,true,true,true,true,false] rfl rfl (any_of HT_.out (by kernel_rfl)) (fun _ _ _ h=>h) (Or.inl ⟨by rfl,?_⟩) ?_ ?_;rotate_left
             ·intro w';go_simp;with_reducible rfl
             rotate_left
             ·simp only [Act.put,List.setIfInBounds_toArray,List.set_cons_zero,List.set_cons_succ,i64_w,i32_w];rfl
             refine pure_ (i:=11) (N:=some 54) (v:=?_) (a':=?_) #[true,true,true,true,true,true,true,true,true,true,true,true] rfl rfl (any_of HT_.out (by kernel_rfl)) (fun _ _ _ h=>h) (Or.inl ⟨by rfl,?_⟩) ?_ ?_;rotate_left
             ·intro w';go_simp;with_reducible rfl
             rotate_left
             ·simp only [Act.put,List.setIfInBounds_toArray,List.set_cons_zero,List.set_cons_succ,i64_w,i32_w];rfl
             refine done_ (done_of HT_.out (by kernel_rfl)) ?_
             try go_wp2
             go_ret3
             exact ⟨by first | rfl | (simp [errW_none,errW_some] <;> rfl) | (simp [*,errW_none,errW_some] <;> rfl),hs HB⟩
            rw [if_neg c18] at H;exact absurd H (by simp)
           rw [if_neg c17] at H;exact absurd H (by simp)
          rw [if_neg c16] at H;exact absurd H (by simp)
         rw [if_neg c12] at H;have c12b0 : decide ((bt a0 x9_1) < 128) = false:=decide_eq_false c12;clear c12;have H':=zMk H;clear H;have p10 : 0 ≤ (x9_1 : Int):=of_decide_eq_true (by first | (with_reducible assumption) | assumption);have q10 : x9_1 < (a0.size : Int):=of_decide_eq_true (by first | (with_reducible assumption) | assumption);have hx10:=bt_at a0 x9_1;replace p10:=eq_true p10;replace q10:=eq_true q10;have p11 : 0 ≤ (x9_1 : Int):=of_decide_eq_true (by first | (with_reducible assumption) | assumption);have q11 : x9_1 < (a0.size : Int):=of_decide_eq_true (by first | (with_reducible assumption) | assumption);have hx11:=bt_at a0 x9_1;replace p11:=eq_true p11;replace q11:=eq_true q11
         go_wp2
         go_roundg kj4;case measure=>have:=HK1.out;have:=HJ4.out;omega
         case rel=>exact ⟨(wrap64 (x7_1 + (wrap64 ((Int.tmod (wrap64 (bt a0 x9_1)) 128) * x8_1)))),(wrap64 (x8_1 * 128)),(wrap64 (x9_1 + 1)),(by first | rfl | (simp;done) | (simp [*];done)),(by first | rfl | (simp;done) | (simp [*];done)),(by first | rfl | (simp;done) | (simp [*];done)),H',⟨by have:=HK1.out;have:=HJ4.out;omega⟩,⟨hs HB⟩⟩
        rw [if_neg c9] at H;exact absurd H (by simp)
       rw [if_neg c8] at H;exact absurd H (by simp)
      replace c7:=Bool.eq_false_iff.mpr c7;subst c7;have H1 : (some (0,0,false)) = some (r1,r2,r3):=by rw [if_neg (show ¬ (false = true) by decide)] at H;exact H
      clear H;have H:=H1;clear H1;simp only [Option.some.injEq,Prod.mk.injEq] at H;obtain ⟨rfl,rfl,rfl⟩:=H
      go_wp2
      go_ret3
      exact ⟨by first | rfl | (simp [errW_none,errW_some] <;> rfl) | (simp [*,errW_none,errW_some] <;> rfl),hs HB⟩
 replace c4:=Bool.eq_false_iff.mpr c4;subst c4;have H1 : (some (0,0,false)) = some (r1,r2,r3):=by rw [if_neg (show ¬ (false = true) by decide)] at H;exact H
 clear H;have H:=H1;clear H1;simp only [Option.some.injEq,Prod.mk.injEq] at H;obtain ⟨rfl,rfl,rfl⟩:=H
 go_enter Try.func90,Try.ntmps90
 go_wp2_with (first | ((with_reducible refine gate_callee (f:=66) rfl ?_);refine goesL_ (some 13) rfl rfl Try.func66 (by kernel_rfl) rfl #[.int .i64 a1,.int .i64 0,.int .i64 (a0.size : Int)] rfl (by (try simp only [List.map_toArray,List.map_cons,List.map_nil]);first | done | rfl | (simp only [List.length_drop,List.length_take];rfl)) ?_;(with_reducible refine (spec_l01In.calls a1 0 (a0.size : Int) false _ A3.out).mono ?_);rintro e w' ⟨rfl,⟨nd,rfl⟩⟩;refine ⟨_,rfl,?_⟩))
 go_ret3
 exact ⟨by first | rfl | (simp [errW_none,errW_some] <;> rfl) | (simp [*,errW_none,errW_some] <;> rfl),hs HB⟩
end Go.Proofs.Ytcpgpchdplpfiaa.PR

namespace Go.Proofs.Ytcpgpchdplpfiaa.PR
open Go.RowKit Go.Proofs.YtcpgpchdplpfiaaW.PrintWords Go.Proofs.YtcpgpchdplpfiaaW.PrintLast Go.Proofs.YtcpgpchdplpfiaaW.PrintMore
attribute [local go_sem] max2_int min2_int max_two min_two max_three min_three max_four min_four   -- for this text's walks alone
set_option linter.unusedVariables false
set_option linter.unusedSimpArgs false
def IsS87 (w0 W : World) (g : Nat) (f0 : ByteArray) (f1 : Int) (f2 : Bool) : Prop:=W.heap[g]? = some (.cells #[.string f0,.int .i64 f1,.bool f2] 87 (0,0)) ∧ w0.heap.size ≤ g
theorem IsS87.grown {w0 W : World} {g : Nat} {f0 : ByteArray} {f1 : Int} {f2 : Bool} {W1 : World} {row : Option Nat} (h : IsS87 w0 W g f0 f1 f2) (hw : W.grownBy W1 row) (hne : some g ≠ row) : IsS87 w0 W1 g f0 f1 f2:=by
 obtain ⟨hb,hg⟩:=h;exact ⟨blk_grown hb hw hne,hg⟩
theorem IsS87.own_neN {w0 W : World} {g : Nat} {f0 : ByteArray} {f1 : Int} {f2 : Bool} {α : Type} {d : Kd α} {e : Nat} {base : Nat} {ok : Nat → Prop} {v : Value} {xs : List α} (h : IsS87 w0 W g f0 f1 f2) (ho : Kd.N d e W base ok v xs) (ht : e ≠ 87) : some g ≠ v.ownBlock:=by
 obtain ⟨hb,hg⟩:=h;exact Kd.N_ne ho hb ht
theorem IsS87.fresh {w0 W : World} {g : Nat} {f0 : ByteArray} {f1 : Int} {f2 : Bool} (h : IsS87 w0 W g f0 f1 f2) : ∀ k,W.heap.size ≤ k → k ≠ g:=by
 obtain ⟨hb,hg⟩:=h;exact Kd.freshB hb
theorem IsS87.kept {w0 W : World} {g : Nat} {f0 : ByteArray} {f1 : Int} {f2 : Bool} {W1 : World} {S : Nat → Prop} (h : IsS87 w0 W g f0 f1 f2) (hk : Kept W W1 S) (hne : ¬ S g) : IsS87 w0 W1 g f0 f1 f2:=by
 obtain ⟨hb,hg⟩:=h;exact ⟨blk_kept hb hk hne,hg⟩
theorem IsS87.below {w0 W : World} {g : Nat} {f0 : ByteArray} {f1 : Int} {f2 : Bool} {W1 : World} (h : IsS87 w0 W g f0 f1 f2) (hw : Below W.heap.size W W1) : IsS87 w0 W1 g f0 f1 f2:=h.grown (grown_of_below hw none) (by simp)
theorem IsS87.alloc {w0 W : World} {g : Nat} {f0 : ByteArray} {f1 : Int} {f2 : Bool} (h : IsS87 w0 W g f0 f1 f2) (o : Obj) : IsS87 w0 (W.alloc o) g f0 f1 f2:=h.below (below_alloc (Below.refl _ _) o)
theorem IsS87.drewN {w0 W : World} {g : Nat} {f0 : ByteArray} {f1 : Int} {f2 : Bool} (h : IsS87 w0 W g f0 f1 f2) (m : Nat) : IsS87 w0 (W.drewN m) g f0 f1 f2:=h
theorem IsS87.drew {w0 W : World} {g : Nat} {f0 : ByteArray} {f1 : Int} {f2 : Bool} (h : IsS87 w0 W g f0 f1 f2) : IsS87 w0 W.drew g f0 f1 f2:=h
theorem IsS87.at_ {w0 W : World} {g : Nat} {f0 : ByteArray} {f1 : Int} {f2 : Bool} {w' : World} {m : Nat} (hq : W.drewN m = w') (h : IsS87 w0 W g f0 f1 f2) : IsS87 w0 w' g f0 f1 f2:=by subst hq;exact IsS87.drewN h m
theorem IsS87.apart {w0 W : World} {g : Nat} {f0 : ByteArray} {f1 : Int} {f2 : Bool} {α : Type} {d : Kd α} {e : Nat} {base : Nat} {ok : Nat → Prop} {v : Value} {xs : List α} (h : IsS87 w0 W g f0 f1 f2) (ho : d.R e W base ok v xs) (ht : ∀ q,q ∈ e :: d.E → q ≠ 87) : d.R e W base (fun k=>ok k ∧ k ≠ g) v xs:=by
 obtain ⟨hb,hg⟩:=h;exact Kd.R_types ho hb ht
theorem IsS87.own_ne {w0 W : World} {g : Nat} {f0 : ByteArray} {f1 : Int} {f2 : Bool} {α : Type} {d : Kd α} {e : Nat} {base : Nat} {ok : Nat → Prop} {v : Value} {xs : List α} (h : IsS87 w0 W g f0 f1 f2) (ho : d.R e W base ok v xs) (ht : e ≠ 87) : some g ≠ v.ownBlock:=by
 obtain ⟨hb,hg⟩:=h;exact Kd.R_ne ho hb ht
theorem IsS87.apartQ {w0 W : World} {g : Nat} {f0 : ByteArray} {f1 : Int} {f2 : Bool} {α : Type} {d : Kd α} {e : Nat} {base : Nat} {ok : Nat → Prop} {v : Value} {xs : List α} (h : IsS87 w0 W g f0 f1 f2) (ho : d.Q e W base ok v xs) (ht : ∀ q,q ∈ e :: d.E → q ≠ 87) : d.Q e W base (fun k=>ok k ∧ k ≠ g) v xs:=by
 obtain ⟨hb,hg⟩:=h;exact Kd.Q_types ho hb ht
theorem IsS87.own_neQ {w0 W : World} {g : Nat} {f0 : ByteArray} {f1 : Int} {f2 : Bool} {α : Type} {d : Kd α} {e : Nat} {base : Nat} {ok : Nat → Prop} {v : Value} {xs : List α} (h : IsS87 w0 W g f0 f1 f2) (ho : d.Q e W base ok v xs) (ht : e ≠ 87) : some g ≠ v.ownBlock:=by
 obtain ⟨hb,hg⟩:=h;exact Kd.Q_ne ho hb ht
theorem IsS87.apartS {w0 W : World} {g : Nat} {f0 : ByteArray} {f1 : Int} {f2 : Bool} {α : Type} {d : Kd α} {e : Nat} {base : Nat} {ok : Nat → Prop} {v : Value} {xs : List α} (h : IsS87 w0 W g f0 f1 f2) (ho : d.S e W base ok v xs) (ht : ∀ q,q ∈ e :: d.E → q ≠ 87) : d.S e W base (fun k=>ok k ∧ k ≠ g) v xs:=by
 obtain ⟨hb,hg⟩:=h;exact Kd.S_types ho hb ht
theorem IsS87.own_neS {w0 W : World} {g : Nat} {f0 : ByteArray} {f1 : Int} {f2 : Bool} {α : Type} {d : Kd α} {e : Nat} {base : Nat} {ok : Nat → Prop} {v : Value} {xs : List α} (h : IsS87 w0 W g f0 f1 f2) (ho : d.S e W base ok v xs) (ht : e ≠ 87) : some g ≠ v.ownBlock:=by
 obtain ⟨hb,hg⟩:=h;exact Kd.S_ne ho hb ht
theorem IsS87.lt {w0 W : World} {g : Nat} {f0 : ByteArray} {f1 : Int} {f2 : Bool} (h : IsS87 w0 W g f0 f1 f2) : g < W.heap.size:=by
 obtain ⟨hb,hg⟩:=h;exact blk_lt hb
theorem IsS87.ge {w0 W : World} {g : Nat} {f0 : ByteArray} {f1 : Int} {f2 : Bool} (h : IsS87 w0 W g f0 f1 f2) : w0.heap.size ≤ g:=by
 obtain ⟨hb,hg⟩:=h;exact hg
theorem IsS87.ne_blk {w0 W : World} {g : Nat} {f0 : ByteArray} {f1 : Int} {f2 : Bool} {a : Nat} {cs : Array Value} {t : TypeId} {fr : Nat × Nat} (h : IsS87 w0 W g f0 f1 f2) (hb2 : W.heap[a]? = some (.cells cs t fr)) (ht : t ≠ 87) : g ≠ a:=by
 obtain ⟨hb,hg⟩:=h;rintro rfl;rw [hb] at hb2;injection hb2 with hb2;injection hb2 with _ ht2;exact ht ht2.symm
theorem IsS87.far {w0 W : World} {g : Nat} {f0 : ByteArray} {f1 : Int} {f2 : Bool} {p : Addr} (h : IsS87 w0 W g f0 f1 f2) (hne : g ≠ p.block) (u : Value) : IsS87 w0 (W.setCell p u) g f0 f1 f2:=by
 obtain ⟨hb,hg⟩:=h;exact ⟨blk_far hb hne u,hg⟩
theorem cellS87_0 {W : World} {g : Nat} {f0 : ByteArray} {f1 : Int} {f2 : Bool} (h : W.heap[g]? = some (.cells #[.string f0,.int .i64 f1,.bool f2] 87 (0,0))) : W.cell? ⟨g,0,none⟩ = some (.string f0):=(zCl h 0).trans rfl
theorem IsS87.set_0 {w0 W : World} {g : Nat} {f0 : ByteArray} {f1 : Int} {f2 : Bool} (h : IsS87 w0 W g f0 f1 f2) (x : ByteArray) : IsS87 w0 (W.setCell ⟨g,0,none⟩ (.string x)) g x f1 f2:=by
 obtain ⟨hb,hg⟩:=h;exact ⟨by simpa using blk_set hb 0 (.string x),hg⟩
theorem cellS87_1 {W : World} {g : Nat} {f0 : ByteArray} {f1 : Int} {f2 : Bool} (h : W.heap[g]? = some (.cells #[.string f0,.int .i64 f1,.bool f2] 87 (0,0))) : W.cell? ⟨g,1,none⟩ = some (.int .i64 f1):=(zCl h 1).trans rfl
theorem IsS87.set_1 {w0 W : World} {g : Nat} {f0 : ByteArray} {f1 : Int} {f2 : Bool} (h : IsS87 w0 W g f0 f1 f2) (x : Int) : IsS87 w0 (W.setCell ⟨g,1,none⟩ (.int .i64 x)) g f0 x f2:=by
 obtain ⟨hb,hg⟩:=h;exact ⟨by simpa using blk_set hb 1 (.int .i64 x),hg⟩
theorem cellS87_2 {W : World} {g : Nat} {f0 : ByteArray} {f1 : Int} {f2 : Bool} (h : W.heap[g]? = some (.cells #[.string f0,.int .i64 f1,.bool f2] 87 (0,0))) : W.cell? ⟨g,2,none⟩ = some (.bool f2):=(zCl h 2).trans rfl
theorem IsS87.set_2 {w0 W : World} {g : Nat} {f0 : ByteArray} {f1 : Int} {f2 : Bool} (h : IsS87 w0 W g f0 f1 f2) (x : Bool) : IsS87 w0 (W.setCell ⟨g,2,none⟩ (.bool x)) g f0 f1 x:=by
 obtain ⟨hb,hg⟩:=h;exact ⟨by simpa using blk_set hb 2 (.bool x),hg⟩
theorem IsS87.new (w0 W : World) (f0 : ByteArray) (f1 : Int) (f2 : Bool) (hB : Below w0.heap.size w0 W) : IsS87 w0 (W.alloc (.cells #[.string f0,.int .i64 f1,.bool f2] 87)) W.heap.size f0 f1 f2:=⟨by simpa using heap_alloc_new W _,hB.size⟩
def spec_l06Var.f (k : Nat) (s0_0 : ByteArray) (s0_1 : Int) (s0_2 : Bool) : Option (Int × ByteArray × Int × Bool):=(spec_ReadVar.f k s0_0 s0_1).bind fun bt117=>(if s0_2 = true then (some (0,s0_0,s0_1,true)) else (if bt117.2.2 = true then (some (bt117.1,s0_0,bt117.2.1,s0_2)) else (some (0,s0_0,s0_1,true))))
theorem spec_l06Var.mono : ∀ a0 a1 a2 k,LeO (spec_l06Var.f k a0 a1 a2) (spec_l06Var.f (k + 1) a0 a1 a2):=by
 intro a0 a1 a2 k;unfold spec_l06Var.f
 repeat' first
   | (with_reducible exact spec_ReadVar.mono _ _ _)
   | (with_reducible exact LeO.refl _)
   | (with_reducible exact LeO.none _)
   | (with_reducible refine LeO.ite ?_ ?_)
   | (with_reducible refine LeO.bind ?_ (fun _=>?_))
   | exact spec_ReadVar.mono _ _ _
   | exact LeO.none _
   | refine LeO.ite ?_ ?_
   | refine LeO.bind ?_ (fun _=>?_)
def spec_l06Var.T1 : Bool × List (List Nat × List Nat):=(true,[([],[]),([0],[0]),([1],[1]),([2],[2]),([],[]),([4],[4]),([5],[5]),([6],[6]),([3,7],[3,7]),([8],[8]),([9],[9]),([9],[9]),([9],[9]),([10,8,0,1,2,3,4,5,6,7,8,9,10],[10]),([11,13,0,1,2,3,4,5,6,7,8,9,10,11,13],[11]),([12,14,0,1,2,3,4,5,6,7,8,9,10,11,12,13,14],[12])])
def spec_l06Var.B1 : List Nat:=[0,1,3,7,0,16,48,112,255,511,1023,1023,1023,2047,12287,32767]
theorem spec_l06Var.tab1 : rtab .any (opsOf Try.f55 1) = spec_l06Var.T1:=by kernel_rfl
theorem spec_l06Var.bits1 : waitsOk spec_l06Var.T1.2 spec_l06Var.B1 = true:=by kernel_rfl
set_option maxHeartbeats 8000000 in
set_option maxRecDepth 100000 in
theorem spec_l06Var.calls (k : Nat) (g : Nat) (s0_0 : ByteArray) (s0_1 : Int) (s0_2 : Bool) (r1 : Int) (r2 : ByteArray) (r3 : Int) (r4 : Bool) (w0 w : World) (hI : IsS87 w0 w g s0_0 s0_1 s0_2) (hB : Below w0.heap.size w0 w) (h : spec_l06Var.f k s0_0 s0_1 s0_2 = some (r1,r2,r3,r4)) :
  Calls Try.prog 55 #[.pointer (some ⟨g,0,none⟩)] w fun e w'=>e = .returned (.int .i64 r1) ∧ IsS87 w0 w' g r2 r3 r4 ∧ Below w0.heap.size w0 w' ∧ KeepBut w w' g none:=by
 have HI0:=zMk hI;have HK:=zMk (KeepBut.refl w g none);have HL:=zMk hB.size;clear hI;have HW0:=zMk hB.size;have HB:=zMk hB;clear hB;have H : ((spec_ReadVar.f k s0_0 s0_1).bind fun bt117=>(if s0_2 = true then (some (0,s0_0,s0_1,true)) else (if bt117.2.2 = true then (some (bt117.1,s0_0,bt117.2.1,s0_2)) else (some (0,s0_0,s0_1,true))))) = some (r1,r2,r3,r4):=h;clear h;replace H:=Option.bind_eq_some_iff.mp H;obtain ⟨⟨t117,t118,t119⟩,A20,H⟩:=H;replace H : (if s0_2 = true then (some (0,s0_0,s0_1,true)) else (if t119 = true then (some (t117,s0_0,t118,s0_2)) else (some (0,s0_0,s0_1,true)))) = some (r1,r2,r3,r4):=H;have A2:=zMk A20;clear A20
 by_cases c3 : s0_2 = true
 ·subst c3;have H1 : (some (0,s0_0,s0_1,true)) = some (r1,r2,r3,r4):=by rw [if_pos rfl] at H;exact H
  clear H;have H:=H1;clear H1;simp only [Option.some.injEq,Prod.mk.injEq] at H;obtain ⟨rfl,rfl,rfl,rfl⟩:=H
  go_enter Try.func55,Try.ntmps55
  try go_wp2
  have n0_:=zMk (IsS87.drew HI0.out);have n1_:=zMk (keep_drew HK.out);have n2_:=zMk (below_drew1 HB.out);clear HI0;clear HK;clear HB;have HI0:=n0_;have HK:=n1_;have HB:=n2_;clear n0_ n1_ n2_;refine start_ (n:=16) (S:=fun w'=>w'.cell? ⟨g,0,none⟩ = some (.string s0_0) ∧ w'.cell? ⟨g,1,none⟩ = some (.int .i64 s0_1) ∧ w'.cell? ⟨g,2,none⟩ = some (.bool true)) (ds:=[]) #[false,false,false,false,false,false,false,false,false,false,false,false,false,false,false,false] (by kernel_rfl) rfl rfl ⟨cellS87_0 HI0.out.1,cellS87_1 HI0.out.1,cellS87_2 HI0.out.1⟩ (fun hHeld=>?_);refine with_tabW spec_l06Var.tab1 spec_l06Var.bits1 (fun HT_ HW_=>?_);generalize w.drew = w4 at HI0 HK HB hHeld ⊢;refine pure_ (i:=0) (N:=some 7) (v:=?_) (a':=?_) #[true,false,false,false,false,false,false,false,false,false,false,false,false,false,false,false] rfl rfl (any_of HT_.out (by kernel_rfl)) (fun _ _ _ h=>h) (Or.inl ⟨by rfl,?_⟩) ?_ ?_;rotate_left
  ·intro w';go_simp;with_reducible rfl
  rotate_left
  ·simp only [Act.put,List.setIfInBounds_toArray,List.set_cons_zero,List.set_cons_succ,i64_w,i32_w];rfl
  refine pure_ (i:=1) (N:=some 8) (v:=?_) (a':=?_) #[true,true,false,false,false,false,false,false,false,false,false,false,false,false,false,false] rfl rfl (any_of HT_.out (by kernel_rfl)) (fun _ _ _ h=>h) (Or.inl ⟨by rfl,?_⟩) ?_ ?_;rotate_left
  ·intro w';go_simp;with_reducible rfl
  rotate_left
  ·simp only [Act.put,List.setIfInBounds_toArray,List.set_cons_zero,List.set_cons_succ,i64_w,i32_w];rfl
  refine pure_ (i:=2) (N:=some 9) (v:=?_) (a':=?_) #[true,true,true,false,false,false,false,false,false,false,false,false,false,false,false,false] rfl rfl (any_of HT_.out (by kernel_rfl)) (fun _ _ _ h=>h) (Or.inl ⟨by rfl,?_⟩) ?_ ?_;rotate_left
  ·intro w';go_simp;with_reducible rfl
  rotate_left
  ·simp only [Act.put,List.setIfInBounds_toArray,List.set_cons_zero,List.set_cons_succ,i64_w,i32_w];rfl
  refine pure_ (i:=4) (N:=some 11) (v:=?_) (a':=?_) #[true,true,true,false,true,false,false,false,false,false,false,false,false,false,false,false] rfl rfl (any_of HT_.out (by kernel_rfl)) (fun _ _ _ h=>h) (Or.inl ⟨by rfl,?_⟩) ?_ ?_;rotate_left
  ·intro w';go_simp;with_reducible rfl
  rotate_left
  ·simp only [Act.put,List.setIfInBounds_toArray,List.set_cons_zero,List.set_cons_succ,i64_w,i32_w];rfl
  refine pure_ (i:=5) (N:=some 12) (v:=?_) (a':=?_) #[true,true,true,false,true,true,false,false,false,false,false,false,false,false,false,false] rfl rfl (any_of HT_.out (by kernel_rfl)) (fun _ _ _ h=>h) (Or.inl ⟨by rfl,?_⟩) ?_ ?_;rotate_left
  ·intro w';go_simp;with_reducible rfl
  rotate_left
  ·simp only [Act.put,List.setIfInBounds_toArray,List.set_cons_zero,List.set_cons_succ,i64_w,i32_w];rfl
  refine pure_ (i:=6) (N:=some 13) (v:=?_) (a':=?_) #[true,true,true,false,true,true,true,false,false,false,false,false,false,false,false,false] rfl rfl (any_of HT_.out (by kernel_rfl)) (fun _ _ _ h=>h) (Or.inl ⟨by rfl,?_⟩) ?_ ?_;rotate_left
  ·intro w';go_simp;with_reducible rfl
  rotate_left
  ·simp only [Act.put,List.setIfInBounds_toArray,List.set_cons_zero,List.set_cons_succ,i64_w,i32_w];rfl
  refine take_ (i:=3) (N:=some 10) (v:=?_) (a':=?_) #[true,true,true,true,true,true,true,false,false,false,false,false,false,false,false,false] rfl rfl (take_ofW HT_.out HW_.out (by kernel_rfl)) (fun _ _ _ h=>h) (Or.inl ⟨by rfl,?_⟩) hHeld ?_ ?_;rotate_left
  ·rintro w' ⟨s0,s1,s2⟩;go_simp;with_reducible rfl
  rotate_left
  ·simp only [Act.put,List.setIfInBounds_toArray,List.set_cons_zero,List.set_cons_succ,i64_w,i32_w];rfl
  refine take_ (i:=7) (N:=some 14) (v:=?_) (a':=?_) #[true,true,true,true,true,true,true,true,false,false,false,false,false,false,false,false] rfl rfl (take_ofW HT_.out HW_.out (by kernel_rfl)) (fun _ _ _ h=>h) (Or.inl ⟨by rfl,?_⟩) hHeld ?_ ?_;rotate_left
  ·rintro w' ⟨s0,s1,s2⟩;go_simp;with_reducible rfl
  rotate_left
  ·simp only [Act.put,List.setIfInBounds_toArray,List.set_cons_zero,List.set_cons_succ,i64_w,i32_w];rfl
  refine one_ (i:=8) (N:=some 15) #[true,true,true,true,true,true,true,true,true,false,false,false,false,false,false,false] rfl rfl (one_of HT_.out (by kernel_rfl)) (by decide) (fun K hK=>?_);refine goes_ Try.func90 (by kernel_rfl) rfl #[.string s0_0,.int .i64 s0_1] (by rfl) rfl rfl (by (try simp only [List.map_toArray,List.map_cons,List.map_nil]);first | done | rfl | (simp only [List.length_drop,List.length_take];rfl)) ?_;with_reducible refine (spec_ReadVar.calls k s0_0 s0_1 t117 t118 t119 _ A2.out).mono ?_
  rintro e w5 ⟨rfl,hb⟩;refine ⟨_,rfl,?_⟩;have n0_:=zMk (IsS87.below (by repeat (first | (with_reducible first | exact HI0.out | apply IsS87.alloc | apply IsS87.drewN | apply IsS87.drew | apply IsS87.set_0 | apply IsS87.set_1 | apply IsS87.set_2) | exact HI0.out)) hb);have n1_:=zMk (KeepBut.trans (by repeat (first | (with_reducible first | exact HK.out | apply KeepBut.set_ | apply keep_drewN | apply keep_drew | apply keep_alloc) | exact HK.out)) (KeepBut.of_below hb g none) (.inl rfl));have n2_:=zMk (below_step (by repeat (first | (with_reducible first | exact HB.out | apply below_alloc | apply pw_below_drewN | apply below_drew1 | refine below_set ?_ (IsS87.ge HI0.out)) | exact HB.out)) hb);clear HI0;clear HK;clear HB;have HI0:=n0_;have HK:=n1_;have HB:=n2_;clear n0_ n1_ n2_
  (try clear hb)
  (try clear hb2)
  (try clear hk)
  (try clear hi)
  refine hK.out _ _ ⟨cellS87_0 HI0.out.1,cellS87_1 HI0.out.1,cellS87_2 HI0.out.1⟩ (fun hHeld=>?_);clear hK K;refine norm_ (a':=?_) ?_ ?_;rotate_left
  ·show Act.put _ (some 15) _ = _;simp only [Act.put,List.setIfInBounds_toArray,List.set_cons_zero,List.set_cons_succ,i64_w,i32_w];rfl
  refine pure_ (i:=9) (N:=some 6) (v:=?_) (a':=?_) #[true,true,true,true,true,true,true,true,true,true,false,false,false,false,false,false] rfl rfl (any_of HT_.out (by kernel_rfl)) (fun _ _ _ h=>h) (Or.inl ⟨by rfl,?_⟩) ?_ ?_;rotate_left
  ·intro w';go_simp;with_reducible rfl
  rotate_left
  ·simp only [Act.put,List.setIfInBounds_toArray,List.set_cons_zero,List.set_cons_succ,i64_w,i32_w];rfl
  refine pure_ (i:=10) (N:=some 16) (v:=?_) (a':=?_) #[true,true,true,true,true,true,true,true,true,true,true,false,false,false,false,false] rfl rfl (any_of HT_.out (by kernel_rfl)) (fun _ _ _ h=>h) (Or.inl ⟨by rfl,?_⟩) ?_ ?_;rotate_left
  ·intro w';go_simp;with_reducible rfl
  rotate_left
  ·simp only [Act.put,List.setIfInBounds_toArray,List.set_cons_zero,List.set_cons_succ,i64_w,i32_w];rfl
  refine pure_ (i:=11) (N:=some 17) (v:=?_) (a':=?_) #[true,true,true,true,true,true,true,true,true,true,true,true,false,false,false,false] rfl rfl (any_of HT_.out (by kernel_rfl)) (fun _ _ _ h=>h) (Or.inl ⟨by rfl,?_⟩) ?_ ?_;rotate_left
  ·intro w';go_simp;with_reducible rfl
  rotate_left
  ·simp only [Act.put,List.setIfInBounds_toArray,List.set_cons_zero,List.set_cons_succ,i64_w,i32_w];rfl
  refine pure_ (i:=12) (N:=some 18) (v:=?_) (a':=?_) #[true,true,true,true,true,true,true,true,true,true,true,true,true,false,false,false] rfl rfl (any_of HT_.out (by kernel_rfl)) (fun _ _ _ h=>h) (Or.inl ⟨by rfl,?_⟩) ?_ ?_;rotate_left
  ·intro w';go_simp;with_reducible rfl
  rotate_left
  ·simp only [Act.put,List.setIfInBounds_toArray,List.set_cons_zero,List.set_cons_succ,i64_w,i32_w];rfl
  refine pure_ (i:=13) (N:=some 3) (v:=?_) (a':=?_) #[true,true,true,true,true,true,true,true,true,true,true,true,true,true,false,false] rfl rfl (any_of HT_.out (by kernel_rfl)) (fun _ _ _ h=>h) (Or.inl ⟨by rfl,?_⟩) ?_ ?_;rotate_left
  ·intro w';go_simp;with_reducible rfl
  rotate_left
  ·simp only [Act.put,List.setIfInBounds_toArray,List.set_cons_zero,List.set_cons_succ,i64_w,i32_w];rfl
  refine pure_ (i:=14) (N:=some 4) (v:=?_) (a':=?_) #[true,true,true,true,true,true,true,true,true,true,true,true,true,true,true,false] rfl rfl (any_of HT_.out (by kernel_rfl)) (fun _ _ _ h=>h) (Or.inl ⟨by rfl,?_⟩) ?_ ?_;rotate_left
  ·intro w';go_simp;with_reducible rfl
  rotate_left
  ·simp only [Act.put,List.setIfInBounds_toArray,List.set_cons_zero,List.set_cons_succ,i64_w,i32_w];rfl
  refine pure_ (i:=15) (N:=some 5) (v:=?_) (a':=?_) #[true,true,true,true,true,true,true,true,true,true,true,true,true,true,true,true] rfl rfl (any_of HT_.out (by kernel_rfl)) (fun _ _ _ h=>h) (Or.inl ⟨by rfl,?_⟩) ?_ ?_;rotate_left
  ·intro w';go_simp;with_reducible rfl
  rotate_left
  ·simp only [Act.put,List.setIfInBounds_toArray,List.set_cons_zero,List.set_cons_succ,i64_w,i32_w];rfl
  refine done_ (done_of HT_.out (by kernel_rfl)) ?_;obtain ⟨HGz6,hgz6⟩:=HI0.out;have hcz6_0:=cellS87_0 HGz6;have hcz6_1:=cellS87_1 HGz6;have hcz6_2:=cellS87_2 HGz6;have hfz6_0:=zFr HGz6 0;have hfz6_1:=zFr HGz6 1;have hfz6_2:=zFr HGz6 2;clear HGz6 hgz6
  try go_wp2
  go_ret
  exact ⟨by first | rfl | (simp [errW_none,errW_some] <;> rfl) | (simp [*,errW_none,errW_some] <;> rfl),by repeat (first | (with_reducible first | exact HI0.out | apply IsS87.alloc | apply IsS87.drewN | apply IsS87.drew | apply IsS87.set_0 | apply IsS87.set_1 | apply IsS87.set_2) | exact HI0.out),by repeat (first | (with_reducible first | exact HB.out | apply below_alloc | apply pw_below_drewN | apply below_drew1 | refine below_set ?_ (IsS87.ge HI0.out)) | exact HB.out),by repeat (first | (with_reducible first | exact HK.out | apply KeepBut.set_ | apply keep_drewN | apply keep_drew | apply keep_alloc) | exact HK.out)⟩
 replace c3:=Bool.eq_false_iff.mpr c3;subst c3;have H1 : (if t119 = true then (some (t117,s0_0,t118,false)) else (some (0,s0_0,s0_1,true))) = some (r1,r2,r3,r4):=by rw [if_neg (show ¬ (false = true) by decide)] at H;exact H
 clear H;have H:=H1;clear H1
 by_cases c7 : t119 = true
 ·subst c7;have H1 : (some (t117,s0_0,t118,false)) = some (r1,r2,r3,r4):=by rw [if_pos rfl] at H;exact H
  clear H;have H:=H1;clear H1;simp only [Option.some.injEq,Prod.mk.injEq] at H;obtain ⟨rfl,rfl,rfl,rfl⟩:=H
  go_enter Try.func55,Try.ntmps55
  try go_wp2
  have n0_:=zMk (IsS87.drew HI0.out);have n1_:=zMk (keep_drew HK.out);have n2_:=zMk (below_drew1 HB.out);clear HI0;clear HK;clear HB;have HI0:=n0_;have HK:=n1_;have HB:=n2_;clear n0_ n1_ n2_;refine start_ (n:=16) (S:=fun w'=>w'.cell? ⟨g,0,none⟩ = some (.string s0_0) ∧ w'.cell? ⟨g,1,none⟩ = some (.int .i64 s0_1) ∧ w'.cell? ⟨g,2,none⟩ = some (.bool false)) (ds:=[]) #[false,false,false,false,false,false,false,false,false,false,false,false,false,false,false,false] (by kernel_rfl) rfl rfl ⟨cellS87_0 HI0.out.1,cellS87_1 HI0.out.1,cellS87_2 HI0.out.1⟩ (fun hHeld=>?_);refine with_tabW spec_l06Var.tab1 spec_l06Var.bits1 (fun HT_ HW_=>?_);generalize w.drew = w8 at HI0 HK HB hHeld ⊢;refine pure_ (i:=0) (N:=some 7) (v:=?_) (a':=?_) #[true,false,false,false,false,false,false,false,false,false,false,false,false,false,false,false] rfl rfl (any_of HT_.out (by kernel_rfl)) (fun _ _ _ h=>h) (Or.inl ⟨by rfl,?_⟩) ?_ ?_;rotate_left
  ·intro w';go_simp;with_reducible rfl
  rotate_left
  ·simp only [Act.put,List.setIfInBounds_toArray,List.set_cons_zero,List.set_cons_succ,i64_w,i32_w];rfl
  refine pure_ (i:=1) (N:=some 8) (v:=?_) (a':=?_) #[true,true,false,false,false,false,false,false,false,false,false,false,false,false,false,false] rfl rfl (any_of HT_.out (by kernel_rfl)) (fun _ _ _ h=>h) (Or.inl ⟨by rfl,?_⟩) ?_ ?_;rotate_left
  ·intro w';go_simp;with_reducible rfl
  rotate_left
  ·simp only [Act.put,List.setIfInBounds_toArray,List.set_cons_zero,List.set_cons_succ,i64_w,i32_w];rfl
  refine pure_ (i:=2) (N:=some 9) (v:=?_) (a':=?_) #[true,true,true,false,false,false,false,false,false,false,false,false,false,false,false,false] rfl rfl (any_of HT_.out (by kernel_rfl)) (fun _ _ _ h=>h) (Or.inl ⟨by rfl,?_⟩) ?_ ?_;rotate_left
  ·intro w';go_simp;with_reducible rfl
  rotate_left
  ·simp only [Act.put,List.setIfInBounds_toArray,List.set_cons_zero,List.set_cons_succ,i64_w,i32_w];rfl
  refine pure_ (i:=4) (N:=some 11) (v:=?_) (a':=?_) #[true,true,true,false,true,false,false,false,false,false,false,false,false,false,false,false] rfl rfl (any_of HT_.out (by kernel_rfl)) (fun _ _ _ h=>h) (Or.inl ⟨by rfl,?_⟩) ?_ ?_;rotate_left
  ·intro w';go_simp;with_reducible rfl
  rotate_left
  ·simp only [Act.put,List.setIfInBounds_toArray,List.set_cons_zero,List.set_cons_succ,i64_w,i32_w];rfl
  refine pure_ (i:=5) (N:=some 12) (v:=?_) (a':=?_) #[true,true,true,false,true,true,false,false,false,false,false,false,false,false,false,false] rfl rfl (any_of HT_.out (by kernel_rfl)) (fun _ _ _ h=>h) (Or.inl ⟨by rfl,?_⟩) ?_ ?_;rotate_left
  ·intro w';go_simp;with_reducible rfl
  rotate_left
  ·simp only [Act.put,List.setIfInBounds_toArray,List.set_cons_zero,List.set_cons_succ,i64_w,i32_w];rfl
  refine pure_ (i:=6) (N:=some 13) (v:=?_) (a':=?_) #[true,true,true,false,true,true,true,false,false,false,false,false,false,false,false,false] rfl rfl (any_of HT_.out (by kernel_rfl)) (fun _ _ _ h=>h) (Or.inl ⟨by rfl,?_⟩) ?_ ?_;rotate_left
  ·intro w';go_simp;with_reducible rfl
  rotate_left
  ·simp only [Act.put,List.setIfInBounds_toArray,List.set_cons_zero,List.set_cons_succ,i64_w,i32_w];rfl
  refine take_ (i:=3) (N:=some 10) (v:=?_) (a':=?_) #[true,true,true,true,true,true,true,false,false,false,false,false,false,false,false,false] rfl rfl (take_ofW HT_.out HW_.out (by kernel_rfl)) (fun _ _ _ h=>h) (Or.inl ⟨by rfl,?_⟩) hHeld ?_ ?_;rotate_left
  ·rintro w' ⟨s0,s1,s2⟩;go_simp;with_reducible rfl
  rotate_left
  ·simp only [Act.put,List.setIfInBounds_toArray,List.set_cons_zero,List.set_cons_succ,i64_w,i32_w];rfl
  refine take_ (i:=7) (N:=some 14) (v:=?_) (a':=?_) #[true,true,true,true,true,true,true,true,false,false,false,false,false,false,false,false] rfl rfl (take_ofW HT_.out HW_.out (by kernel_rfl)) (fun _ _ _ h=>h) (Or.inl ⟨by rfl,?_⟩) hHeld ?_ ?_;rotate_left
  ·rintro w' ⟨s0,s1,s2⟩;go_simp;with_reducible rfl
  rotate_left
  ·simp only [Act.put,List.setIfInBounds_toArray,List.set_cons_zero,List.set_cons_succ,i64_w,i32_w];rfl
  refine one_ (i:=8) (N:=some 15) #[true,true,true,true,true,true,true,true,true,false,false,false,false,false,false,false] rfl rfl (one_of HT_.out (by kernel_rfl)) (by decide) (fun K hK=>?_);refine goes_ Try.func90 (by kernel_rfl) rfl #[.string s0_0,.int .i64 s0_1] (by rfl) rfl rfl (by (try simp only [List.map_toArray,List.map_cons,List.map_nil]);first | done | rfl | (simp only [List.length_drop,List.length_take];rfl)) ?_;with_reducible refine (spec_ReadVar.calls k s0_0 s0_1 t117 t118 true _ A2.out).mono ?_
  rintro e w9 ⟨rfl,hb⟩;refine ⟨_,rfl,?_⟩;have n0_:=zMk (IsS87.below (by repeat (first | (with_reducible first | exact HI0.out | apply IsS87.alloc | apply IsS87.drewN | apply IsS87.drew | apply IsS87.set_0 | apply IsS87.set_1 | apply IsS87.set_2) | exact HI0.out)) hb);have n1_:=zMk (KeepBut.trans (by repeat (first | (with_reducible first | exact HK.out | apply KeepBut.set_ | apply keep_drewN | apply keep_drew | apply keep_alloc) | exact HK.out)) (KeepBut.of_below hb g none) (.inl rfl));have n2_:=zMk (below_step (by repeat (first | (with_reducible first | exact HB.out | apply below_alloc | apply pw_below_drewN | apply below_drew1 | refine below_set ?_ (IsS87.ge HI0.out)) | exact HB.out)) hb);clear HI0;clear HK;clear HB;have HI0:=n0_;have HK:=n1_;have HB:=n2_;clear n0_ n1_ n2_
  (try clear hb)
  (try clear hb2)
  (try clear hk)
  (try clear hi)
  refine hK.out _ _ ⟨cellS87_0 HI0.out.1,cellS87_1 HI0.out.1,cellS87_2 HI0.out.1⟩ (fun hHeld=>?_);clear hK K;refine norm_ (a':=?_) ?_ ?_;rotate_left
  ·show Act.put _ (some 15) _ = _;simp only [Act.put,List.setIfInBounds_toArray,List.set_cons_zero,List.set_cons_succ,i64_w,i32_w];rfl
  refine pure_ (i:=9) (N:=some 6) (v:=?_) (a':=?_) #[true,true,true,true,true,true,true,true,true,true,false,false,false,false,false,false] rfl rfl (any_of HT_.out (by kernel_rfl)) (fun _ _ _ h=>h) (Or.inl ⟨by rfl,?_⟩) ?_ ?_;rotate_left
  ·intro w';go_simp;with_reducible rfl
  rotate_left
  ·simp only [Act.put,List.setIfInBounds_toArray,List.set_cons_zero,List.set_cons_succ,i64_w,i32_w];rfl
  refine pure_ (i:=10) (N:=some 16) (v:=?_) (a':=?_) #[true,true,true,true,true,true,true,true,true,true,true,false,false,false,false,false] rfl rfl (any_of HT_.out (by kernel_rfl)) (fun _ _ _ h=>h) (Or.inl ⟨by rfl,?_⟩) ?_ ?_;rotate_left
  ·intro w';go_simp;with_reducible rfl
  rotate_left
  ·simp only [Act.put,List.setIfInBounds_toArray,List.set_cons_zero,List.set_cons_succ,i64_w,i32_w];rfl
  refine pure_ (i:=11) (N:=some 17) (v:=?_) (a':=?_) #[true,true,true,true,true,true,true,true,true,true,true,true,false,false,false,false] rfl rfl (any_of HT_.out (by kernel_rfl)) (fun _ _ _ h=>h) (Or.inl ⟨by rfl,?_⟩) ?_ ?_;rotate_left
  ·intro w';go_simp;with_reducible rfl
  rotate_left
  ·simp only [Act.put,List.setIfInBounds_toArray,List.set_cons_zero,List.set_cons_succ,i64_w,i32_w];rfl
  refine pure_ (i:=12) (N:=some 18) (v:=?_) (a':=?_) #[true,true,true,true,true,true,true,true,true,true,true,true,true,false,false,false] rfl rfl (any_of HT_.out (by kernel_rfl)) (fun _ _ _ h=>h) (Or.inl ⟨by rfl,?_⟩) ?_ ?_;rotate_left
  ·intro w';go_simp;with_reducible rfl
  rotate_left
  ·simp only [Act.put,List.setIfInBounds_toArray,List.set_cons_zero,List.set_cons_succ,i64_w,i32_w];rfl
  refine pure_ (i:=13) (N:=some 3) (v:=?_) (a':=?_) #[true,true,true,true,true,true,true,true,true,true,true,true,true,true,false,false] rfl rfl (any_of HT_.out (by kernel_rfl)) (fun _ _ _ h=>h) (Or.inl ⟨by rfl,?_⟩) ?_ ?_;rotate_left
  ·intro w';go_simp;with_reducible rfl
  rotate_left
  ·simp only [Act.put,List.setIfInBounds_toArray,List.set_cons_zero,List.set_cons_succ,i64_w,i32_w];rfl
  refine pure_ (i:=14) (N:=some 4) (v:=?_) (a':=?_) #[true,true,true,true,true,true,true,true,true,true,true,true,true,true,true,false] rfl rfl (any_of HT_.out (by kernel_rfl)) (fun _ _ _ h=>h) (Or.inl ⟨by rfl,?_⟩) ?_ ?_;rotate_left
  ·intro w';go_simp;with_reducible rfl
  rotate_left
  ·simp only [Act.put,List.setIfInBounds_toArray,List.set_cons_zero,List.set_cons_succ,i64_w,i32_w];rfl
  refine pure_ (i:=15) (N:=some 5) (v:=?_) (a':=?_) #[true,true,true,true,true,true,true,true,true,true,true,true,true,true,true,true] rfl rfl (any_of HT_.out (by kernel_rfl)) (fun _ _ _ h=>h) (Or.inl ⟨by rfl,?_⟩) ?_ ?_;rotate_left
  ·intro w';go_simp;with_reducible rfl
  rotate_left
  ·simp only [Act.put,List.setIfInBounds_toArray,List.set_cons_zero,List.set_cons_succ,i64_w,i32_w];rfl
  refine done_ (done_of HT_.out (by kernel_rfl)) ?_;obtain ⟨HGz10,hgz10⟩:=HI0.out;have hcz10_0:=cellS87_0 HGz10;have hcz10_1:=cellS87_1 HGz10;have hcz10_2:=cellS87_2 HGz10;have hfz10_0:=zFr HGz10 0;have hfz10_1:=zFr HGz10 1;have hfz10_2:=zFr HGz10 2;clear HGz10 hgz10
  try go_wp2
  go_ret
  exact ⟨by first | rfl | (simp [errW_none,errW_some] <;> rfl) | (simp [*,errW_none,errW_some] <;> rfl),by repeat (first | (with_reducible first | exact HI0.out | apply IsS87.alloc | apply IsS87.drewN | apply IsS87.drew | apply IsS87.set_0 | apply IsS87.set_1 | apply IsS87.set_2) | exact HI0.out),by repeat (first | (with_reducible first | exact HB.out | apply below_alloc | apply pw_below_drewN | apply below_drew1 | refine below_set ?_ (IsS87.ge HI0.out)) | exact HB.out),by repeat (first | (with_reducible first | exact HK.out | apply KeepBut.set_ | apply keep_drewN | apply keep_drew | apply keep_alloc) | exact HK.out)⟩
 replace c7:=Bool.eq_false_iff.mpr c7;subst c7;have H1 : (some (0,s0_0,s0_1,true)) = some (r1,r2,r3,r4):=by rw [if_neg (show ¬ (false = true) by decide)] at H;exact H
 clear H;have H:=H1;clear H1;simp only [Option.some.injEq,Prod.mk.injEq] at H;obtain ⟨rfl,rfl,rfl,rfl⟩:=H
 go_enter Try.func55,Try.ntmps55
 try go_wp2
 have n0_:=zMk (IsS87.drew HI0.out);have n1_:=zMk (keep_drew HK.out);have n2_:=zMk (below_drew1 HB.out);clear HI0;clear HK;clear HB;have HI0:=n0_;have HK:=n1_;have HB:=n2_;clear n0_ n1_ n2_;refine start_ (n:=16) (S:=fun w'=>w'.cell? ⟨g,0,none⟩ = some (.string s0_0) ∧ w'.cell? ⟨g,1,none⟩ = some (.int .i64 s0_1) ∧ w'.cell? ⟨g,2,none⟩ = some (.bool false)) (ds:=[]) #[false,false,false,false,false,false,false,false,false,false,false,false,false,false,false,false] (by kernel_rfl) rfl rfl ⟨cellS87_0 HI0.out.1,cellS87_1 HI0.out.1,cellS87_2 HI0.out.1⟩ (fun hHeld=>?_);refine with_tabW spec_l06Var.tab1 spec_l06Var.bits1 (fun HT_ HW_=>?_);generalize w.drew = w11 at HI0 HK HB hHeld ⊢;refine pure_ (i:=0) (N:=some 7) (v:=?_) (a':=?_) #[true,false,false,false,false,false,false,false,false,false,false,false,false,false,false,false] rfl rfl (any_of HT_.out (by kernel_rfl)) (fun _ _ _ h=>h) (Or.inl ⟨by rfl,?_⟩) ?_ ?_;rotate_left
 ·intro w';go_simp;with_reducible rfl
 rotate_left
 ·simp only [Act.put,List.setIfInBounds_toArray,List.set_cons_zero,List.set_cons_succ,i64_w,i32_w];rfl
 refine pure_ (i:=1) (N:=some 8) (v:=?_) (a':=?_) #[true,true,false,false,false,false,false,false,false,false,false,false,false,false,false,false] rfl rfl (any_of HT_.out (by kernel_rfl)) (fun _ _ _ h=>h) (Or.inl ⟨by rfl,?_⟩) ?_ ?_;rotate_left
 ·intro w';go_simp;with_reducible rfl
 rotate_left
 ·simp only [Act.put,List.setIfInBounds_toArray,List.set_cons_zero,List.set_cons_succ,i64_w,i32_w];rfl
 refine pure_ (i:=2) (N:=some 9) (v:=?_) (a':=?_) #[true,true,true,false,false,false,false,false,false,false,false,false,false,false,false,false] rfl rfl (any_of HT_.out (by kernel_rfl)) (fun _ _ _ h=>h) (Or.inl ⟨by rfl,?_⟩) ?_ ?_;rotate_left
 ·intro w';go_simp;with_reducible rfl
 rotate_left
 ·simp only [Act.put,List.setIfInBounds_toArray,List.set_cons_zero,List.set_cons_succ,i64_w,i32_w];rfl
 refine pure_ (i:=4) (N:=some 11) (v:=?_) (a':=?_) #[true,true,true,false,true,false,false,false,false,false,false,false,false,false,false,false] rfl rfl (any_of HT_.out (by kernel_rfl)) (fun _ _ _ h=>h) (Or.inl ⟨by rfl,?_⟩) ?_ ?_;rotate_left
 ·intro w';go_simp;with_reducible rfl
 rotate_left
 ·simp only [Act.put,List.setIfInBounds_toArray,List.set_cons_zero,List.set_cons_succ,i64_w,i32_w];rfl
 refine pure_ (i:=5) (N:=some 12) (v:=?_) (a':=?_) #[true,true,true,false,true,true,false,false,false,false,false,false,false,false,false,false] rfl rfl (any_of HT_.out (by kernel_rfl)) (fun _ _ _ h=>h) (Or.inl ⟨by rfl,?_⟩) ?_ ?_;rotate_left
 ·intro w';go_simp;with_reducible rfl
 rotate_left
 ·simp only [Act.put,List.setIfInBounds_toArray,List.set_cons_zero,List.set_cons_succ,i64_w,i32_w];rfl
 refine pure_ (i:=6) (N:=some 13) (v:=?_) (a':=?_) #[true,true,true,false,true,true,true,false,false,false,false,false,false,false,false,false] rfl rfl (any_of HT_.out (by kernel_rfl)) (fun _ _ _ h=>h) (Or.inl ⟨by rfl,?_⟩) ?_ ?_;rotate_left
 ·intro w';go_simp;with_reducible rfl
 rotate_left
 ·simp only [Act.put,List.setIfInBounds_toArray,List.set_cons_zero,List.set_cons_succ,i64_w,i32_w];rfl
 refine take_ (i:=3) (N:=some 10) (v:=?_) (a':=?_) #[true,true,true,true,true,true,true,false,false,false,false,false,false,false,false,false] rfl rfl (take_ofW HT_.out HW_.out (by kernel_rfl)) (fun _ _ _ h=>h) (Or.inl ⟨by rfl,?_⟩) hHeld ?_ ?_;rotate_left
 ·rintro w' ⟨s0,s1,s2⟩;go_simp;with_reducible rfl
 rotate_left
 ·simp only [Act.put,List.setIfInBounds_toArray,List.set_cons_zero,List.set_cons_succ,i64_w,i32_w];rfl
 refine take_ (i:=7) (N:=some 14) (v:=?_) (a':=?_) #[true,true,true,true,true,true,true,true,false,false,false,false,false,false,false,false] rfl rfl (take_ofW HT_.out HW_.out (by kernel_rfl)) (fun _ _ _ h=>h) (Or.inl ⟨by rfl,?_⟩) hHeld ?_ ?_;rotate_left
 ·rintro w' ⟨s0,s1,s2⟩;go_simp;with_reducible rfl
 rotate_left
 ·simp only [Act.put,List.setIfInBounds_toArray,List.set_cons_zero,List.set_cons_succ,i64_w,i32_w];rfl
 refine one_ (i:=8) (N:=some 15) #[true,true,true,true,true,true,true,true,true,false,false,false,false,false,false,false] rfl rfl (one_of HT_.out (by kernel_rfl)) (by decide) (fun K hK=>?_);refine goes_ Try.func90 (by kernel_rfl) rfl #[.string s0_0,.int .i64 s0_1] (by rfl) rfl rfl (by (try simp only [List.map_toArray,List.map_cons,List.map_nil]);first | done | rfl | (simp only [List.length_drop,List.length_take];rfl)) ?_;with_reducible refine (spec_ReadVar.calls k s0_0 s0_1 t117 t118 false _ A2.out).mono ?_
 rintro e w12 ⟨rfl,hb⟩;refine ⟨_,rfl,?_⟩;have n0_:=zMk (IsS87.below (by repeat (first | (with_reducible first | exact HI0.out | apply IsS87.alloc | apply IsS87.drewN | apply IsS87.drew | apply IsS87.set_0 | apply IsS87.set_1 | apply IsS87.set_2) | exact HI0.out)) hb);have n1_:=zMk (KeepBut.trans (by repeat (first | (with_reducible first | exact HK.out | apply KeepBut.set_ | apply keep_drewN | apply keep_drew | apply keep_alloc) | exact HK.out)) (KeepBut.of_below hb g none) (.inl rfl));have n2_:=zMk (below_step (by repeat (first | (with_reducible first | exact HB.out | apply below_alloc | apply pw_below_drewN | apply below_drew1 | refine below_set ?_ (IsS87.ge HI0.out)) | exact HB.out)) hb);clear HI0;clear HK;clear HB;have HI0:=n0_;have HK:=n1_;have HB:=n2_;clear n0_ n1_ n2_
 (try clear hb)
 (try clear hb2)
 (try clear hk)
 (try clear hi)
 refine hK.out _ _ ⟨cellS87_0 HI0.out.1,cellS87_1 HI0.out.1,cellS87_2 HI0.out.1⟩ (fun hHeld=>?_);clear hK K;refine norm_ (a':=?_) ?_ ?_;rotate_left
 ·show Act.put _ (some 15) _ = _;simp only [Act.put,List.setIfInBounds_toArray,List.set_cons_zero,List.set_cons_succ,i64_w,i32_w];rfl
 refine pure_ (i:=9) (N:=some 6) (v:=?_) (a':=?_) #[true,true,true,true,true,true,true,true,true,true,false,false,false,false,false,false] rfl rfl (any_of HT_.out (by kernel_rfl)) (fun _ _ _ h=>h) (Or.inl ⟨by rfl,?_⟩) ?_ ?_;rotate_left
 ·intro w';go_simp;with_reducible rfl
 rotate_left
 ·simp only [Act.put,List.setIfInBounds_toArray,List.set_cons_zero,List.set_cons_succ,i64_w,i32_w];rfl
 refine pure_ (i:=10) (N:=some 16) (v:=?_) (a':=?_) #[true,true,true,true,true,true,true,true,true,true,true,false,false,false,false,false] rfl rfl (any_of HT_.out (by kernel_rfl)) (fun _ _ _ h=>h) (Or.inl ⟨by rfl,?_⟩) ?_ ?_;rotate_left
 ·intro w';go_simp;with_reducible rfl
 rotate_left
 ·simp only [Act.put,List.setIfInBounds_toArray,List.set_cons_zero,List.set_cons_succ,i64_w,i32_w];rfl
 refine pure_ (i:=11) (N:=some 17) (v:=?_) (a':=?_) #[true,true,true,true,true,true,true,true,true,true,true,true,false,false,false,false] rfl rfl (any_of HT_.out (by kernel_rfl)) (fun _ _ _ h=>h) (Or.inl ⟨by rfl,?_⟩) ?_ ?_;rotate_left
 ·intro w';go_simp;with_reducible rfl
 rotate_left
 ·simp only [Act.put,List.setIfInBounds_toArray,List.set_cons_zero,List.set_cons_succ,i64_w,i32_w];rfl
 refine pure_ (i:=12) (N:=some 18) (v:=?_) (a':=?_) #[true,true,true,true,true,true,true,true,true,true,true,true,true,false,false,false] rfl rfl (any_of HT_.out (by kernel_rfl)) (fun _ _ _ h=>h) (Or.inl ⟨by rfl,?_⟩) ?_ ?_;rotate_left
 ·intro w';go_simp;with_reducible rfl
 rotate_left
 ·simp only [Act.put,List.setIfInBounds_toArray,List.set_cons_zero,List.set_cons_succ,i64_w,i32_w];rfl
 refine pure_ (i:=13) (N:=some 3) (v:=?_) (a':=?_) #[true,true,true,true,true,true,true,true,true,true,true,true,true,true,false,false] rfl rfl (any_of HT_.out (by kernel_rfl)) (fun _ _ _ h=>h) (Or.inl ⟨by rfl,?_⟩) ?_ ?_;rotate_left
 ·intro w';go_simp;with_reducible rfl
 rotate_left
 ·simp only [Act.put,List.setIfInBounds_toArray,List.set_cons_zero,List.set_cons_succ,i64_w,i32_w];rfl
 refine pure_ (i:=14) (N:=some 4) (v:=?_) (a':=?_) #[true,true,true,true,true,true,true,true,true,true,true,true,true,true,true,false] rfl rfl (any_of HT_.out (by kernel_rfl)) (fun _ _ _ h=>h) (Or.inl ⟨by rfl,?_⟩) ?_ ?_;rotate_left
 ·intro w';go_simp;with_reducible rfl
 rotate_left
 ·simp only [Act.put,List.setIfInBounds_toArray,List.set_cons_zero,List.set_cons_succ,i64_w,i32_w];rfl
 refine pure_ (i:=15) (N:=some 5) (v:=?_) (a':=?_) #[true,true,true,true,true,true,true,true,true,true,true,true,true,true,true,true] rfl rfl (any_of HT_.out (by kernel_rfl)) (fun _ _ _ h=>h) (Or.inl ⟨by rfl,?_⟩) ?_ ?_;rotate_left
 ·intro w';go_simp;with_reducible rfl
 rotate_left
 ·simp only [Act.put,List.setIfInBounds_toArray,List.set_cons_zero,List.set_cons_succ,i64_w,i32_w];rfl
 refine done_ (done_of HT_.out (by kernel_rfl)) ?_;obtain ⟨HGz13,hgz13⟩:=HI0.out;have hcz13_0:=cellS87_0 HGz13;have hcz13_1:=cellS87_1 HGz13;have hcz13_2:=cellS87_2 HGz13;have hfz13_0:=zFr HGz13 0;have hfz13_1:=zFr HGz13 1;have hfz13_2:=zFr HGz13 2;clear HGz13 hgz13
 try go_wp2
 go_ret
 exact ⟨by first | rfl | (simp [errW_none,errW_some] <;> rfl) | (simp [*,errW_none,errW_some] <;> rfl),by repeat (first | (with_reducible first | exact HI0.out | apply IsS87.alloc | apply IsS87.drewN | apply IsS87.drew | apply IsS87.set_0 | apply IsS87.set_1 | apply IsS87.set_2) | exact HI0.out),by repeat (first | (with_reducible first | exact HB.out | apply below_alloc | apply pw_below_drewN | apply below_drew1 | refine below_set ?_ (IsS87.ge HI0.out)) | exact HB.out),by repeat (first | (with_reducible first | exact HK.out | apply KeepBut.set_ | apply keep_drewN | apply keep_drew | apply keep_alloc) | exact HK.out)⟩
end Go.Proofs.Ytcpgpchdplpfiaa.PR

namespace Go.Proofs.Ytcpgpchdplpfiaa.PR
open Go.RowKit Go.Proofs.YtcpgpchdplpfiaaW.PrintWords Go.Proofs.YtcpgpchdplpfiaaW.PrintLast Go.Proofs.YtcpgpchdplpfiaaW.PrintMore
attribute [local go_sem] max2_int min2_int max_two min_two max_three min_three max_four min_four   -- for this text's walks alone
set_option linter.unusedVariables false
set_option linter.unusedSimpArgs false
mutual
def spec_ReadRecs.l0 : Nat → ByteArray → List (S34) → ByteArray → Int → Bool → Option ((List (S34)) × Bool)
 | 0,_,_,_,_,_=>none
 | k + 1,x0,x4,x124000,x124001,x124002=>if x124001 < (x0.size : Int) then (spec_ReadRecs.j1 k x0 x4 (!x124002) x124000 x124001 x124002) else (spec_ReadRecs.j1 k x0 x4 false x124000 x124001 x124002)
def spec_ReadRecs.j1 : Nat → ByteArray → List (S34) → Bool → ByteArray → Int → Bool → Option ((List (S34)) × Bool)
 | 0,_,_,_,_,_,_=>none
 | k + 1,x0,x4,x25,x124000,x124001,x124002=>if x25 = true then (if 0 ≤ x124001 then (if x124001 < (x0.size : Int) then ((spec_l06Var.f k x124000 (wrap64 (x124001 + 1)) x124002).bind fun bt124=>((spec_l06Var.f k bt124.2.1 bt124.2.2.1 bt124.2.2.2).bind fun bt129=>(if bt129.2.2.2 = true then (some ((([] : List (S34))),false)) else ((spec_RecOk.f k (wrap64 (Int.tdiv (wrap64 (bt x0 x124001)) 16)) (Int.tmod (wrap64 (bt x0 x124001)) 16) bt124.1 bt129.1).bind fun t136=>(if t136 = true then (if x4.length < 4398046511104 then (spec_ReadRecs.l0 k x0 (x4 ++ [(⟨wrap64 (Int.tdiv (wrap64 (bt x0 x124001)) 16),Int.tmod (wrap64 (bt x0 x124001)) 16,bt124.1,bt129.1⟩ : S34)]) bt129.2.1 bt129.2.2.1 bt129.2.2.2) else (none)) else (some ((([] : List (S34))),false))))))) else (none)) else (none)) else (some (x4,true))
end
def spec_ReadRecs.f (k : Nat) (a0 : ByteArray) : Option ((List (S34)) × Bool):=spec_ReadRecs.l0 k a0 (([] : List (S34))) a0 0 false
theorem spec_ReadRecs.mono_l : ∀ k,(∀ y0 y1 y2 y3 y4,LeO (spec_ReadRecs.l0 k y0 y1 y2 y3 y4) (spec_ReadRecs.l0 (k + 1) y0 y1 y2 y3 y4)) ∧ (∀ y0 y1 y2 y3 y4 y5,LeO (spec_ReadRecs.j1 k y0 y1 y2 y3 y4 y5) (spec_ReadRecs.j1 (k + 1) y0 y1 y2 y3 y4 y5))
 | 0=>⟨fun _ _ _ _ _ r h=>by simp [spec_ReadRecs.l0] at h,fun _ _ _ _ _ _ r h=>by simp [spec_ReadRecs.j1] at h⟩
 | k + 1=>by
  obtain ⟨ih0,ih1⟩:=spec_ReadRecs.mono_l k;refine ⟨?_,?_⟩
  ·intro y0 y1 y2 y3 y4;unfold spec_ReadRecs.l0
   repeat' first
   | (with_reducible exact ih0 _ _ _ _ _)
   | (with_reducible exact ih1 _ _ _ _ _ _)
   | (with_reducible exact spec_RecOk.mono _ _ _ _ _)
   | (with_reducible exact spec_l06Var.mono _ _ _ _)
   | (with_reducible exact LeO.refl _)
   | (with_reducible exact LeO.none _)
   | (with_reducible refine LeO.ite ?_ ?_)
   | (with_reducible refine LeO.bind ?_ (fun _=>?_))
   | exact ih0 _ _ _ _ _
   | exact ih1 _ _ _ _ _ _
   | exact spec_RecOk.mono _ _ _ _ _
   | exact spec_l06Var.mono _ _ _ _
   | exact LeO.none _
   | refine LeO.ite ?_ ?_
   | refine LeO.bind ?_ (fun _=>?_)
  intro y0 y1 y2 y3 y4 y5;unfold spec_ReadRecs.j1
  repeat' first
  | (with_reducible exact ih0 _ _ _ _ _)
  | (with_reducible exact ih1 _ _ _ _ _ _)
  | (with_reducible exact spec_RecOk.mono _ _ _ _ _)
  | (with_reducible exact spec_l06Var.mono _ _ _ _)
  | (with_reducible exact LeO.refl _)
  | (with_reducible exact LeO.none _)
  | (with_reducible refine LeO.ite ?_ ?_)
  | (with_reducible refine LeO.bind ?_ (fun _=>?_))
  | exact ih0 _ _ _ _ _
  | exact ih1 _ _ _ _ _ _
  | exact spec_RecOk.mono _ _ _ _ _
  | exact spec_l06Var.mono _ _ _ _
  | exact LeO.none _
  | refine LeO.ite ?_ ?_
  | refine LeO.bind ?_ (fun _=>?_)
theorem spec_ReadRecs.mono : ∀ a0 k,LeO (spec_ReadRecs.f k a0) (spec_ReadRecs.f (k + 1) a0):=by
 intro a0 k;obtain ⟨ih0,ih1⟩:=spec_ReadRecs.mono_l k;unfold spec_ReadRecs.f
 repeat' first
   | (with_reducible exact ih0 _ _ _ _ _)
   | (with_reducible exact ih1 _ _ _ _ _ _)
   | (with_reducible exact spec_RecOk.mono _ _ _ _ _)
   | (with_reducible exact spec_l06Var.mono _ _ _ _)
   | (with_reducible exact LeO.refl _)
   | (with_reducible exact LeO.none _)
   | (with_reducible refine LeO.ite ?_ ?_)
   | (with_reducible refine LeO.bind ?_ (fun _=>?_))
   | exact ih0 _ _ _ _ _
   | exact ih1 _ _ _ _ _ _
   | exact spec_RecOk.mono _ _ _ _ _
   | exact spec_l06Var.mono _ _ _ _
   | exact LeO.none _
   | refine LeO.ite ?_ ?_
   | refine LeO.bind ?_ (fun _=>?_)
set_option maxHeartbeats 8000000 in
set_option maxRecDepth 100000 in
theorem spec_ReadRecs.calls (k : Nat) (a0 : ByteArray) (r1 : List (S34)) (r2 : Bool) (w : World) (h : spec_ReadRecs.f k a0 = some (r1,r2)) :
  Calls Try.prog 10 #[.string a0] w fun e w'=>∃ v0_ : Value,e = .returned (.tuple #[v0_,.bool r2]) ∧ Kd.R k34 34 w' w.heap.size (fun _=>True) v0_ r1 ∧ Below w.heap.size w w':=by
 have hu87:=Try.underlying87;have hu34:=Try.underlying34;have HB:=zMk (Below.refl w.heap.size w);have H : (spec_ReadRecs.l0 k a0 (([] : List (S34))) a0 0 false) = some (r1,r2):=h;clear h;obtain ⟨y120,hy120⟩ : ∃ y_ : List (S34),y_ = (([] : List (S34))):=⟨_,rfl⟩;replace H : (spec_ReadRecs.l0 k a0 y120 a0 0 false) = some (r1,r2):=by first | (rw [hy120];with_reducible exact H) | (have H2_:=(Option.bind_some _ _).symm.trans H;rw [hy120];with_reducible exact H2_) | (have H2_:=(Option.bind_some _ _).symm.trans H;with_reducible exact H2_) | with_reducible exact H | (rw [hy120];exact H) | exact H
 have Ny120:=zMk hy120;clear hy120;have H':=zMk H;clear H
 go_enter Try.func10,Try.ntmps10
 go_wp2_with (first | ((with_reducible refine gate_dst (N:=8) rfl ?_);refine Kd.R_lit k34 _ 34 ?hg (N:=8) ?hd (xs:=([] : List (S34))) (inner:=[]) (ok:=fun _=>True) (okp:=fun _=>True) ?hr ?hp (fun _ hk=>hk) trivial (Below.refl _ _) (Nat.le_refl _) (by simp) ?_;(case hd=>rfl);(case hg=>rfl);(case hr=>first | (go_simp;done) | (go_simp;rfl));(case hp=>exact (Reps.none _ _));intro v121 w2 ho3 hb hg_ hnew_;clear hg_ hnew_;(first | rw [← Ny120.out] at ho3 | (simp only [Int.reduceToNat] at ho3;rw [← Ny120.out] at ho3));have n0_:=zMk (Kd.R_lower ho3 (below_size (hs HB)));have n1_:=zMk (below_step (hs HB) hb);clear HB;have HO122:=n0_;have HB:=n1_;clear n0_ n1_;clear hb ho3) | ((with_reducible refine gate_dst (N:=11) rfl ?_);refine box_event ?hg (N:=11) ?hd (cs:=#[.string a0,.int .i64 0,.bool false]) (t:=87) ?hr ?_;(case hd=>rfl);(case hg=>rfl);(case hr=>first | (go_simp;done) | (go_simp;rfl));intro gb123 hg w4 hbox hb;have n0_:=zMk (Kd.R_below (rs HO122) hb);have n1_:=zMk (below_step (hs HB) hb);have n2_:=zMk ((⟨hbox,(by rw [hg];exact (below_size (hs HB)) : w.heap.size ≤ gb123)⟩ : IsS87 w _ gb123 a0 0 false));have n3_:=zMk ((by rw [hg];exact (below_size (hs HB)) : w.heap.size ≤ gb123));have n4_:=zMk ((by rw [hg];exact (below_size (hs HB)) : w.heap.size ≤ gb123));clear HO122;clear HB;have HO122:=n0_;have HB:=n1_;have HI123:=n2_;have GW123:=n3_;have GE123:=n4_;clear n0_ n1_ n2_ n3_ n4_;clear hb hbox hg));go_loopg [4] k (fun kq v4 w'=>∃ (x4_1 : List (S34)) (x124000_1 : ByteArray) (x124001_1 : Int) (x124002_1 : Bool),Aside0 (spec_ReadRecs.l0 kq a0 x4_1 x124000_1 x124001_1 x124002_1 = some (r1,r2)) ∧ Aside0 (kq ≤ k) ∧ Aside0 (Kd.R k34 34 w' w.heap.size (fun _=>True) v4 x4_1) ∧ Aside0 (IsS87 w w' gb123 x124000_1 x124001_1 x124002_1) ∧ Aside0 (Below w.heap.size w w'));case atStart=>exact ⟨(y120),(a0),(0),(false),H',⟨Nat.le_refl _⟩,⟨rs HO122⟩,⟨by repeat (first | (with_reducible first | exact HI123.out | apply IsS87.alloc | apply IsS87.drewN | apply IsS87.drew | apply IsS87.set_0 | apply IsS87.set_1 | apply IsS87.set_2) | exact HI123.out)⟩,⟨by repeat (first | (with_reducible first | exact HB.out | apply below_alloc | apply pw_below_drewN | apply below_drew1 | refine below_set ?_ (IsS87.ge HI123.out)) | exact HB.out)⟩⟩
 case round =>
  clear H'
  try clear c1
  try clear p2
  obtain ⟨x4_1,x124000_1,x124001_1,x124002_1,HA,HK1,HO_4,HI123,HB⟩:=hrel;cases gk with
  | zero=>exact absurd HA.out (by simp [spec_ReadRecs.l0])
  | succ k1 =>
   have H:=HA.out;clear HA;simp only [spec_ReadRecs.l0] at H;have HC5:=zMk H;clear H;go_upto_region 3 with (fail);go_cut [25] (fun v25 wc=>∃ (kq : Nat) (x25_4 : Bool),v25 = .bool x25_4 ∧ Aside0 (spec_ReadRecs.j1 kq a0 x4_1 x25_4 x124000_1 x124001_1 x124002_1 = some (r1,r2)) ∧ Aside0 (kq ≤ k1) ∧ Aside0 (Kd.R k34 34 wc w.heap.size (fun _=>True) u4 x4_1) ∧ Aside0 (IsS87 w wc gb123 x124000_1 x124001_1 x124002_1) ∧ Aside0 (Below w.heap.size w wc))
   case first =>
    have H:=HC5.out;clear HC5
    by_cases c6 : x124001_1 < (a0.size : Int)
    ·rw [if_pos c6] at H;have c6b0 : decide (x124001_1 < (a0.size : Int)) = true:=decide_eq_true c6;clear c6
     (first | rw [c6b0] | (simp only [i64_w,i32_w];rw [c6b0]) | skip)
     have H':=zMk H;clear H;obtain ⟨HGz7,hgz7⟩:=HI123.out;have hcz7_0:=cellS87_0 HGz7;have hcz7_1:=cellS87_1 HGz7;have hcz7_2:=cellS87_2 HGz7;have hfz7_0:=zFr HGz7 0;have hfz7_1:=zFr HGz7 1;have hfz7_2:=zFr HGz7 2;clear HGz7 hgz7
     go_wp2
     go_meet
     case rel=>exact ⟨_,(!x124002_1),(by first | rfl | (simp;done) | (simp [*];done)),H',⟨by have:=HK1.out;first | omega | exact Nat.le_refl _⟩,⟨rs HO_4⟩,⟨by repeat (first | (with_reducible first | exact HI123.out | apply IsS87.alloc | apply IsS87.drewN | apply IsS87.drew | apply IsS87.set_0 | apply IsS87.set_1 | apply IsS87.set_2) | exact HI123.out)⟩,⟨by repeat (first | (with_reducible first | exact HB.out | apply below_alloc | apply pw_below_drewN | apply below_drew1 | refine below_set ?_ (IsS87.ge HI123.out)) | exact HB.out)⟩⟩
    rw [if_neg c6] at H;have c6b0 : decide (x124001_1 < (a0.size : Int)) = false:=decide_eq_false c6;clear c6
    (first | rw [c6b0] | (simp only [i64_w,i32_w];rw [c6b0]) | skip)
    have H':=zMk H;clear H;obtain ⟨HGz8,hgz8⟩:=HI123.out;have hcz8_0:=cellS87_0 HGz8;have hcz8_1:=cellS87_1 HGz8;have hcz8_2:=cellS87_2 HGz8;have hfz8_0:=zFr HGz8 0;have hfz8_1:=zFr HGz8 1;have hfz8_2:=zFr HGz8 2;clear HGz8 hgz8
    go_wp2
    go_meet
    case rel=>exact ⟨_,(false),(by first | rfl | (simp;done) | (simp [*];done)),H',⟨by have:=HK1.out;first | omega | exact Nat.le_refl _⟩,⟨rs HO_4⟩,⟨by repeat (first | (with_reducible first | exact HI123.out | apply IsS87.alloc | apply IsS87.drewN | apply IsS87.drew | apply IsS87.set_0 | apply IsS87.set_1 | apply IsS87.set_2) | exact HI123.out)⟩,⟨by repeat (first | (with_reducible first | exact HB.out | apply below_alloc | apply pw_below_drewN | apply below_drew1 | refine below_set ?_ (IsS87.ge HI123.out)) | exact HB.out)⟩⟩
   case rest =>
    clear HC5
    try clear c1
    try clear p2
    try clear c6
    try clear c6b0
    try clear hcz7_0
    try clear hcz7_1
    try clear hcz7_2
    try clear hcz8_0
    try clear hcz8_1
    try clear hcz8_2
    try clear hfz7_0
    try clear hfz7_1
    try clear hfz7_2
    try clear hfz8_0
    try clear hfz8_1
    try clear hfz8_2
    try clear p2
    obtain ⟨kq,x25_4,rfl,HA,HJ4,HO_4,HI123,HB⟩:=hcut;cases kq with
    | zero=>exact absurd HA.out (by simp [spec_ReadRecs.j1])
    | succ kj4 =>
     have H:=HA.out;clear HA;simp only [spec_ReadRecs.j1] at H
     by_cases c9 : x25_4 = true
     ·subst c9;have H1 : (if 0 ≤ x124001_1 then (if x124001_1 < (a0.size : Int) then ((spec_l06Var.f kj4 x124000_1 (wrap64 (x124001_1 + 1)) x124002_1).bind fun bt124=>((spec_l06Var.f kj4 bt124.2.1 bt124.2.2.1 bt124.2.2.2).bind fun bt129=>(if bt129.2.2.2 = true then (some ((([] : List (S34))),false)) else ((spec_RecOk.f kj4 (wrap64 (Int.tdiv (wrap64 (bt a0 x124001_1)) 16)) (Int.tmod (wrap64 (bt a0 x124001_1)) 16) bt124.1 bt129.1).bind fun t136=>(if t136 = true then (if x4_1.length < 4398046511104 then (spec_ReadRecs.l0 kj4 a0 (x4_1 ++ [(⟨wrap64 (Int.tdiv (wrap64 (bt a0 x124001_1)) 16),Int.tmod (wrap64 (bt a0 x124001_1)) 16,bt124.1,bt129.1⟩ : S34)]) bt129.2.1 bt129.2.2.1 bt129.2.2.2) else (none)) else (some ((([] : List (S34))),false))))))) else (none)) else (none)) = some (r1,r2):=by rw [if_pos rfl] at H;exact H
      clear H;have H:=H1;clear H1
      by_cases c10 : 0 ≤ x124001_1
      ·rw [if_pos c10] at H;have c10b0 : decide (0 ≤ x124001_1) = true:=decide_eq_true c10;clear c10
       by_cases c11 : x124001_1 < (a0.size : Int)
       ·rw [if_pos c11] at H;have c11b0 : decide (x124001_1 < (a0.size : Int)) = true:=decide_eq_true c11;clear c11;replace H:=Option.bind_eq_some_iff.mp H;obtain ⟨⟨t124,t125,t126,t127⟩,A130,H⟩:=H;replace H : ((spec_l06Var.f kj4 t125 t126 t127).bind fun bt129=>(if bt129.2.2.2 = true then (some ((([] : List (S34))),false)) else ((spec_RecOk.f kj4 (wrap64 (Int.tdiv (wrap64 (bt a0 x124001_1)) 16)) (Int.tmod (wrap64 (bt a0 x124001_1)) 16) t124 bt129.1).bind fun t136=>(if t136 = true then (if x4_1.length < 4398046511104 then (spec_ReadRecs.l0 kj4 a0 (x4_1 ++ [(⟨wrap64 (Int.tdiv (wrap64 (bt a0 x124001_1)) 16),Int.tmod (wrap64 (bt a0 x124001_1)) 16,t124,bt129.1⟩ : S34)]) bt129.2.1 bt129.2.2.1 bt129.2.2.2) else (none)) else (some ((([] : List (S34))),false)))))) = some (r1,r2):=H;have A13:=zMk A130;clear A130;replace H:=Option.bind_eq_some_iff.mp H;obtain ⟨⟨t129,t130,t131,t132⟩,A140,H⟩:=H;replace H : (if t132 = true then (some ((([] : List (S34))),false)) else ((spec_RecOk.f kj4 (wrap64 (Int.tdiv (wrap64 (bt a0 x124001_1)) 16)) (Int.tmod (wrap64 (bt a0 x124001_1)) 16) t124 t129).bind fun t136=>(if t136 = true then (if x4_1.length < 4398046511104 then (spec_ReadRecs.l0 kj4 a0 (x4_1 ++ [(⟨wrap64 (Int.tdiv (wrap64 (bt a0 x124001_1)) 16),Int.tmod (wrap64 (bt a0 x124001_1)) 16,t124,t129⟩ : S34)]) t130 t131 t132) else (none)) else (some ((([] : List (S34))),false))))) = some (r1,r2):=H;have A14:=zMk A140;clear A140
        by_cases c15 : t132 = true
        ·subst c15;have H1 : (some ((([] : List (S34))),false)) = some (r1,r2):=by rw [if_pos rfl] at H;exact H
         clear H;have H:=H1;clear H1;obtain ⟨y133,hy133⟩ : ∃ y_ : List (S34),y_ = (([] : List (S34))):=⟨_,rfl⟩;replace H : (some (y133,false)) = some (r1,r2):=by first | (rw [hy133];with_reducible exact H) | (have H2_:=(Option.bind_some _ _).symm.trans H;rw [hy133];with_reducible exact H2_) | (have H2_:=(Option.bind_some _ _).symm.trans H;with_reducible exact H2_) | with_reducible exact H | (rw [hy133];exact H) | exact H
         have Ny133:=zMk hy133;clear hy133;simp only [Option.some.injEq,Prod.mk.injEq] at H;obtain ⟨rfl,rfl⟩:=H;obtain ⟨HGz16,hgz16⟩:=HI123.out;have hcz16_0:=cellS87_0 HGz16;have hcz16_1:=cellS87_1 HGz16;have hcz16_2:=cellS87_2 HGz16;have hfz16_0:=zFr HGz16 0;have hfz16_1:=zFr HGz16 1;have hfz16_2:=zFr HGz16 2;clear HGz16 hgz16;have p12 : 0 ≤ (x124001_1 : Int):=of_decide_eq_true (by first | (with_reducible assumption) | assumption);have q12 : x124001_1 < (a0.size : Int):=of_decide_eq_true (by first | (with_reducible assumption) | assumption);have hx12:=bt_at a0 x124001_1;replace p12:=eq_true p12;replace q12:=eq_true q12;go_wp2_with (first | ((with_reducible refine gate_callee (f:=55) rfl ?_);refine goesL_ (some 46) rfl rfl Try.func55 (by kernel_rfl) rfl #[.pointer (some ⟨gb123,0,none⟩)] rfl (by (try simp only [List.map_toArray,List.map_cons,List.map_nil]);first | done | rfl | (simp only [List.length_drop,List.length_take];rfl)) ?_;(with_reducible refine (spec_l06Var.calls kj4 gb123 x124000_1 (wrap64 (x124001_1 + 1)) x124002_1 t124 t125 t126 t127 w _ ?side1 ?side2 A13.out).mono ?_);(case side1=>repeat (first | (with_reducible first | exact HI123.out | apply IsS87.alloc | apply IsS87.drewN | apply IsS87.drew | apply IsS87.set_0 | apply IsS87.set_1 | apply IsS87.set_2) | exact HI123.out));(case side2=>repeat (first | (with_reducible first | exact HB.out | apply below_alloc | apply pw_below_drewN | apply below_drew1 | refine below_set ?_ (IsS87.ge HI123.out)) | exact HB.out));rintro e w17 ⟨rfl,hi,hb,hk⟩;refine ⟨_,rfl,?_⟩;have n0_:=zMk (Kd.R_mono (Kd.R_keep (IsS87.apart (show IsS87 w _ gb123 x124000_1 (wrap64 (x124001_1 + 1)) x124002_1 from by repeat (first | (with_reducible first | exact HI123.out | apply IsS87.alloc | apply IsS87.drewN | apply IsS87.drew | apply IsS87.set_0 | apply IsS87.set_1 | apply IsS87.set_2) | exact HI123.out)) (by (with_reducible repeat (first | apply Kd.R_alloc | apply Kd.R_drewN | apply Kd.R_drew));exact (Kd.R_mono (Kd.R_far (p:=⟨gb123,1,none⟩) (IsS87.apart HI123.out HO_4.out (by decide)) (fun _ hk=>hk.2) (.int .i64 (wrap64 (x124001_1 + 1)))) (fun _ h_=>h_.1))) (by decide)) hk (fun _ h=>h.2)) (fun _ h=>h.1));have n1_:=zMk (hb);have n2_:=zMk (hi);clear HO_4;clear HB;clear HI123;have HO_4:=n0_;have HB:=n1_;have HI123:=n2_;clear n0_ n1_ n2_;(try clear hb);(try clear hb2);(try clear hk);(try clear hi)) | ((with_reducible refine gate_dst (N:=7) rfl ?_);refine box_event ?hg (N:=7) ?hd (cs:=#[.int .i64 0,.int .i64 0,.int .i64 0,.int .i64 0]) (t:=34) ?hr ?_;(case hd=>rfl);(case hg=>rfl);(case hr=>first | (go_simp;done) | (go_simp;rfl));intro gb128 hg w18 hbox hb;have n0_:=zMk (Kd.R_below (Kd.R_elderB (rs HO_4) gb128 (Nat.le_of_eq hg.symm)) hb);have n1_:=zMk (IsS87.below (by repeat (first | (with_reducible first | exact HI123.out | apply IsS87.alloc | apply IsS87.drewN | apply IsS87.drew | apply IsS87.set_0 | apply IsS87.set_1 | apply IsS87.set_2) | exact HI123.out)) hb);have n2_:=zMk (below_step (by repeat (first | (with_reducible first | exact HB.out | apply below_alloc | apply pw_below_drewN | apply below_drew1 | refine below_set ?_ (IsS87.ge HI123.out)) | exact HB.out)) hb);have n3_:=zMk (hbox);have n4_:=zMk ((by rw [hg];exact (below_size (by repeat (first | (with_reducible first | exact HB.out | apply below_alloc | apply pw_below_drewN | apply below_drew1 | refine below_set ?_ (IsS87.ge HI123.out)) | exact HB.out))) : w.heap.size ≤ gb128));have n5_:=zMk ((by rw [hg];exact (below_size (by repeat (first | (with_reducible first | exact HB.out | apply below_alloc | apply pw_below_drewN | apply below_drew1 | refine below_set ?_ (IsS87.ge HI123.out)) | exact HB.out))) : w.heap.size ≤ gb128));have n6_:=zMk ((by rw [hg];exact Nat.ne_of_lt (IsS87.lt (show IsS87 w _ gb123 t125 t126 t127 from by repeat (first | (with_reducible first | exact HI123.out | apply IsS87.alloc | apply IsS87.drewN | apply IsS87.drew | apply IsS87.set_0 | apply IsS87.set_1 | apply IsS87.set_2) | exact HI123.out))) : gb123 ≠ gb128));have n7_:=zMk ((by rw [hg];exact Nat.ne_of_gt (IsS87.lt (show IsS87 w _ gb123 t125 t126 t127 from by repeat (first | (with_reducible first | exact HI123.out | apply IsS87.alloc | apply IsS87.drewN | apply IsS87.drew | apply IsS87.set_0 | apply IsS87.set_1 | apply IsS87.set_2) | exact HI123.out))) : gb128 ≠ gb123));clear HO_4;clear HI123;clear HB;have HO_4:=n0_;have HI123:=n1_;have HB:=n2_;have BK128:=n3_;have GW128:=n4_;have GE128:=n5_;have NB123_128:=n6_;have NB128_123:=n7_;clear n0_ n1_ n2_ n3_ n4_ n5_ n6_ n7_;clear hb hbox hg;have hnb19:=NB128_123.out;have hnc19:=NB123_128.out;have hcz20_0 : w18.cell? ⟨gb128,0,none⟩ = some (.int .i64 0):=(zCl BK128.out 0).trans rfl;have hcz20_1 : w18.cell? ⟨gb128,1,none⟩ = some (.int .i64 0):=(zCl BK128.out 1).trans rfl;have hcz20_2 : w18.cell? ⟨gb128,2,none⟩ = some (.int .i64 0):=(zCl BK128.out 2).trans rfl;have hcz20_3 : w18.cell? ⟨gb128,3,none⟩ = some (.int .i64 0):=(zCl BK128.out 3).trans rfl;have hfz20_0:=zFr BK128.out 0;have hfz20_1:=zFr BK128.out 1;have hfz20_2:=zFr BK128.out 2;have hfz20_3:=zFr BK128.out 3) | ((with_reducible refine gate_callee (f:=55) rfl ?_);refine goesL_ (some 49) rfl rfl Try.func55 (by kernel_rfl) rfl #[.pointer (some ⟨gb123,0,none⟩)] rfl (by (try simp only [List.map_toArray,List.map_cons,List.map_nil]);first | done | rfl | (simp only [List.length_drop,List.length_take];rfl)) ?_;(with_reducible refine (spec_l06Var.calls kj4 gb123 t125 t126 t127 t129 t130 t131 true w _ ?side1 ?side2 A14.out).mono ?_);(case side1=>repeat (first | (with_reducible first | exact HI123.out | apply IsS87.alloc | apply IsS87.drewN | apply IsS87.drew | apply IsS87.set_0 | apply IsS87.set_1 | apply IsS87.set_2 | refine IsS87.far ?_ NB123_128.out _) | exact HI123.out));(case side2=>repeat (first | (with_reducible first | exact HB.out | apply below_alloc | apply pw_below_drewN | apply below_drew1 | refine below_set ?_ (IsS87.ge HI123.out) | refine below_set ?_ GE128.out) | exact HB.out));rintro e w21 ⟨rfl,hi,hb,hk⟩;refine ⟨_,rfl,?_⟩;have n0_:=zMk (Kd.R_mono (Kd.R_keep (IsS87.apart (show IsS87 w _ gb123 t125 t126 t127 from by repeat (first | (with_reducible first | exact HI123.out | apply IsS87.alloc | apply IsS87.drewN | apply IsS87.drew | apply IsS87.set_0 | apply IsS87.set_1 | apply IsS87.set_2 | refine IsS87.far ?_ NB123_128.out _) | exact HI123.out)) (by (with_reducible repeat (first | apply Kd.R_alloc | apply Kd.R_drewN | apply Kd.R_drew));exact (Kd.R_mono (Kd.R_far (p:=⟨gb128,3,none⟩) (Kd.R_far (p:=⟨gb128,2,none⟩) (Kd.R_far (p:=⟨gb128,1,none⟩) (Kd.R_far (p:=⟨gb128,0,none⟩) (Kd.R_mono HO_4.out (fun k_ hk=>(⟨hk,hk.2⟩ : _ ∧ k_ ≠ gb128))) (fun _ hk=>hk.2) (.int .i64 (wrap64 (Int.tdiv (wrap64 (bt a0 x124001_1)) 16)))) (fun _ hk=>hk.2) (.int .i64 (Int.tmod (wrap64 (bt a0 x124001_1)) 16))) (fun _ hk=>hk.2) (.int .i64 t124)) (fun _ hk=>hk.2) (.int .i64 0)) (fun _ h_=>h_.1))) (by decide)) hk (fun _ h=>h.2)) (fun _ h=>h.1));have n1_:=zMk (KeepBut.blk hk (g':=gb128) (o:=.cells #[.int .i64 (wrap64 (Int.tdiv (wrap64 (bt a0 x124001_1)) 16)),.int .i64 (Int.tmod (wrap64 (bt a0 x124001_1)) 16),.int .i64 t124,.int .i64 0] 34 (0,0)) (by (with_reducible repeat (first | refine blk_drewN ?_ _ | refine blk_drew ?_ | refine blk_alloc ?_ _));refine blk_put (cs:=#[.int .i64 (wrap64 (Int.tdiv (wrap64 (bt a0 x124001_1)) 16)),.int .i64 (Int.tmod (wrap64 (bt a0 x124001_1)) 16),.int .i64 t124,.int .i64 0]) ?_ 3 _ rfl;(with_reducible repeat (first | refine blk_drewN ?_ _ | refine blk_drew ?_ | refine blk_alloc ?_ _));refine blk_put (cs:=#[.int .i64 (wrap64 (Int.tdiv (wrap64 (bt a0 x124001_1)) 16)),.int .i64 (Int.tmod (wrap64 (bt a0 x124001_1)) 16),.int .i64 0,.int .i64 0]) ?_ 2 _ rfl;(with_reducible repeat (first | refine blk_drewN ?_ _ | refine blk_drew ?_ | refine blk_alloc ?_ _));refine blk_put (cs:=#[.int .i64 (wrap64 (Int.tdiv (wrap64 (bt a0 x124001_1)) 16)),.int .i64 0,.int .i64 0,.int .i64 0]) ?_ 1 _ rfl;(with_reducible repeat (first | refine blk_drewN ?_ _ | refine blk_drew ?_ | refine blk_alloc ?_ _));refine blk_put (cs:=#[.int .i64 0,.int .i64 0,.int .i64 0,.int .i64 0]) ?_ 0 _ rfl;(with_reducible repeat (first | refine blk_drewN ?_ _ | refine blk_drew ?_ | refine blk_alloc ?_ _));exact BK128.out) NB128_123.out (by simp));have n2_:=zMk (hb);have n3_:=zMk (hi);clear HO_4;clear BK128;clear HB;clear HI123;have HO_4:=n0_;have BK128:=n1_;have HB:=n2_;have HI123:=n3_;clear n0_ n1_ n2_ n3_;(try clear hb);(try clear hb2);(try clear hk);(try clear hi);have hcz22_0 : w21.cell? ⟨gb128,0,none⟩ = some (.int .i64 (wrap64 (Int.tdiv (wrap64 (bt a0 x124001_1)) 16))):=(zCl BK128.out 0).trans rfl;have hcz22_1 : w21.cell? ⟨gb128,1,none⟩ = some (.int .i64 (Int.tmod (wrap64 (bt a0 x124001_1)) 16)):=(zCl BK128.out 1).trans rfl;have hcz22_2 : w21.cell? ⟨gb128,2,none⟩ = some (.int .i64 t124):=(zCl BK128.out 2).trans rfl;have hcz22_3 : w21.cell? ⟨gb128,3,none⟩ = some (.int .i64 0):=(zCl BK128.out 3).trans rfl;have hfz22_0:=zFr BK128.out 0;have hfz22_1:=zFr BK128.out 1;have hfz22_2:=zFr BK128.out 2;have hfz22_3:=zFr BK128.out 3;obtain ⟨HGz23,hgz23⟩:=HI123.out;have hcz23_0:=cellS87_0 HGz23;have hcz23_1:=cellS87_1 HGz23;have hcz23_2:=cellS87_2 HGz23;have hfz23_0:=zFr HGz23 0;have hfz23_1:=zFr HGz23 1;have hfz23_2:=zFr HGz23 2;clear HGz23 hgz23) | ((with_reducible refine gate_dst (N:=60) rfl ?_);refine Kd.R_lit k34 _ 34 ?hg (N:=60) ?hd (xs:=([] : List (S34))) (inner:=[]) (ok:=fun _=>True) (okp:=fun _=>True) ?hr ?hp (fun _ hk=>hk) trivial (Below.refl _ _) (Nat.le_refl _) (by simp) ?_;(case hd=>rfl);(case hg=>rfl);(case hr=>first | (go_simp;done) | (go_simp;rfl));(case hp=>exact (Reps.none _ _));intro v134 w24 ho25 hb hg_ hnew_;clear hg_ hnew_;(first | rw [← Ny133.out] at ho25 | (simp only [Int.reduceToNat] at ho25;rw [← Ny133.out] at ho25));have n0_:=zMk (Kd.R_elder' (by (with_reducible repeat (first | apply Kd.R_alloc | apply Kd.R_drewN | apply Kd.R_drew));exact (Kd.R_mono (Kd.R_far (p:=⟨gb128,3,none⟩) (Kd.R_mono HO_4.out (fun k_ hk=>(⟨hk,hk.2⟩ : _ ∧ k_ ≠ gb128))) (fun _ hk=>hk.2) (.int .i64 t129)) (fun _ h_=>h_.1))) (Kd.R_base ho25) hb);have n1_:=zMk (Kd.R_lower (Kd.R_newB (Kd.R_new' ho25 (Kd.R_lt (by (with_reducible repeat (first | apply Kd.R_alloc | apply Kd.R_drewN | apply Kd.R_drew));exact (Kd.R_mono (Kd.R_far (p:=⟨gb128,3,none⟩) (Kd.R_mono HO_4.out (fun k_ hk=>(⟨hk,hk.2⟩ : _ ∧ k_ ≠ gb128))) (fun _ hk=>hk.2) (.int .i64 t129)) (fun _ h_=>h_.1))))) (g:=gb128) (o:=.cells #[.int .i64 (wrap64 (Int.tdiv (wrap64 (bt a0 x124001_1)) 16)),.int .i64 (Int.tmod (wrap64 (bt a0 x124001_1)) 16),.int .i64 t124,.int .i64 t129] 34 (0,0)) (by (with_reducible repeat (first | refine blk_drewN ?_ _ | refine blk_drew ?_ | refine blk_alloc ?_ _));refine blk_put (cs:=#[.int .i64 (wrap64 (Int.tdiv (wrap64 (bt a0 x124001_1)) 16)),.int .i64 (Int.tmod (wrap64 (bt a0 x124001_1)) 16),.int .i64 t124,.int .i64 0]) ?_ 3 _ rfl;(with_reducible repeat (first | refine blk_drewN ?_ _ | refine blk_drew ?_ | refine blk_alloc ?_ _));exact BK128.out)) (below_size (by repeat (first | (with_reducible first | exact HB.out | apply below_alloc | apply pw_below_drewN | apply below_drew1 | refine below_set ?_ (IsS87.ge HI123.out) | refine below_set ?_ GE128.out) | exact HB.out))));have n2_:=zMk (IsS87.below (show IsS87 w (w21.setCell ⟨gb128,3,none⟩ (.int .i64 t129)) gb123 t130 t131 true from by repeat (first | (with_reducible first | exact HI123.out | apply IsS87.alloc | apply IsS87.drewN | apply IsS87.drew | apply IsS87.set_0 | apply IsS87.set_1 | apply IsS87.set_2 | refine IsS87.far ?_ NB123_128.out _) | exact HI123.out)) hb);have n3_:=zMk (blk_below (g:=gb128) (o:=.cells #[.int .i64 (wrap64 (Int.tdiv (wrap64 (bt a0 x124001_1)) 16)),.int .i64 (Int.tmod (wrap64 (bt a0 x124001_1)) 16),.int .i64 t124,.int .i64 t129] 34 (0,0)) (by (with_reducible repeat (first | refine blk_drewN ?_ _ | refine blk_drew ?_ | refine blk_alloc ?_ _));refine blk_put (cs:=#[.int .i64 (wrap64 (Int.tdiv (wrap64 (bt a0 x124001_1)) 16)),.int .i64 (Int.tmod (wrap64 (bt a0 x124001_1)) 16),.int .i64 t124,.int .i64 0]) ?_ 3 _ rfl;(with_reducible repeat (first | refine blk_drewN ?_ _ | refine blk_drew ?_ | refine blk_alloc ?_ _));exact BK128.out) hb);have n4_:=zMk (below_step (by repeat (first | (with_reducible first | exact HB.out | apply below_alloc | apply pw_below_drewN | apply below_drew1 | refine below_set ?_ (IsS87.ge HI123.out) | refine below_set ?_ GE128.out) | exact HB.out)) hb);clear HO_4;clear HI123;clear BK128;clear HB;have HO_4:=n0_;have HO135:=n1_;have HI123:=n2_;have BK128:=n3_;have HB:=n4_;clear n0_ n1_ n2_ n3_ n4_;clear hb ho25))
         go_ret2
         exact ⟨_,by first | rfl | (simp [errW_none,errW_some] <;> rfl) | (simp [*,errW_none,errW_some] <;> rfl),by (with_reducible repeat (first | apply Kd.R_alloc | apply Kd.R_drewN | apply Kd.R_drew));exact Kd.R_mono HO135.out (fun _ hk=>trivial),by repeat (first | (with_reducible first | exact HB.out | apply below_alloc | apply pw_below_drewN | apply below_drew1 | refine below_set ?_ (IsS87.ge HI123.out) | refine below_set ?_ GE128.out) | exact HB.out)⟩
        replace c15:=Bool.eq_false_iff.mpr c15;subst c15;have H1 : ((spec_RecOk.f kj4 (wrap64 (Int.tdiv (wrap64 (bt a0 x124001_1)) 16)) (Int.tmod (wrap64 (bt a0 x124001_1)) 16) t124 t129).bind fun t136=>(if t136 = true then (if x4_1.length < 4398046511104 then (spec_ReadRecs.l0 kj4 a0 (x4_1 ++ [(⟨wrap64 (Int.tdiv (wrap64 (bt a0 x124001_1)) 16),Int.tmod (wrap64 (bt a0 x124001_1)) 16,t124,t129⟩ : S34)]) t130 t131 false) else (none)) else (some ((([] : List (S34))),false)))) = some (r1,r2):=by rw [if_neg (show ¬ (false = true) by decide)] at H;exact H
        clear H;have H:=H1;clear H1;replace H:=Option.bind_eq_some_iff.mp H;obtain ⟨t136,A260,H⟩:=H;replace H : (if t136 = true then (if x4_1.length < 4398046511104 then (spec_ReadRecs.l0 kj4 a0 (x4_1 ++ [(⟨wrap64 (Int.tdiv (wrap64 (bt a0 x124001_1)) 16),Int.tmod (wrap64 (bt a0 x124001_1)) 16,t124,t129⟩ : S34)]) t130 t131 false) else (none)) else (some ((([] : List (S34))),false))) = some (r1,r2):=H;have A26:=zMk A260;clear A260
        by_cases c27 : t136 = true
        ·subst c27;have H1 : (if x4_1.length < 4398046511104 then (spec_ReadRecs.l0 kj4 a0 (x4_1 ++ [(⟨wrap64 (Int.tdiv (wrap64 (bt a0 x124001_1)) 16),Int.tmod (wrap64 (bt a0 x124001_1)) 16,t124,t129⟩ : S34)]) t130 t131 false) else (none)) = some (r1,r2):=by rw [if_pos rfl] at H;exact H
         clear H;have H:=H1;clear H1
         by_cases c28 : x4_1.length < 4398046511104
         ·rw [if_pos c28] at H;have LMc28:=zMk c28;clear c28;obtain ⟨y137,hy137⟩ : ∃ y_ : List (S34),y_ = (x4_1 ++ [(⟨wrap64 (Int.tdiv (wrap64 (bt a0 x124001_1)) 16),Int.tmod (wrap64 (bt a0 x124001_1)) 16,t124,t129⟩ : S34)]):=⟨_,rfl⟩;replace H : (spec_ReadRecs.l0 kj4 a0 y137 t130 t131 false) = some (r1,r2):=by first | (rw [hy137];with_reducible exact H) | (have H2_:=(Option.bind_some _ _).symm.trans H;rw [hy137];with_reducible exact H2_) | (have H2_:=(Option.bind_some _ _).symm.trans H;with_reducible exact H2_) | with_reducible exact H | (rw [hy137];exact H) | exact H
          have Ny137:=zMk hy137;clear hy137;have H':=zMk H;clear H;obtain ⟨HGz29,hgz29⟩:=HI123.out;have hcz29_0:=cellS87_0 HGz29;have hcz29_1:=cellS87_1 HGz29;have hcz29_2:=cellS87_2 HGz29;have hfz29_0:=zFr HGz29 0;have hfz29_1:=zFr HGz29 1;have hfz29_2:=zFr HGz29 2;clear HGz29 hgz29;have p12 : 0 ≤ (x124001_1 : Int):=of_decide_eq_true (by first | (with_reducible assumption) | assumption);have q12 : x124001_1 < (a0.size : Int):=of_decide_eq_true (by first | (with_reducible assumption) | assumption);have hx12:=bt_at a0 x124001_1;replace p12:=eq_true p12;replace q12:=eq_true q12;go_wp2_with (first | ((with_reducible refine gate_callee (f:=55) rfl ?_);refine goesL_ (some 46) rfl rfl Try.func55 (by kernel_rfl) rfl #[.pointer (some ⟨gb123,0,none⟩)] rfl (by (try simp only [List.map_toArray,List.map_cons,List.map_nil]);first | done | rfl | (simp only [List.length_drop,List.length_take];rfl)) ?_;(with_reducible refine (spec_l06Var.calls kj4 gb123 x124000_1 (wrap64 (x124001_1 + 1)) x124002_1 t124 t125 t126 t127 w _ ?side1 ?side2 A13.out).mono ?_);(case side1=>repeat (first | (with_reducible first | exact HI123.out | apply IsS87.alloc | apply IsS87.drewN | apply IsS87.drew | apply IsS87.set_0 | apply IsS87.set_1 | apply IsS87.set_2) | exact HI123.out));(case side2=>repeat (first | (with_reducible first | exact HB.out | apply below_alloc | apply pw_below_drewN | apply below_drew1 | refine below_set ?_ (IsS87.ge HI123.out)) | exact HB.out));rintro e w30 ⟨rfl,hi,hb,hk⟩;refine ⟨_,rfl,?_⟩;have n0_:=zMk (Kd.R_mono (Kd.R_keep (IsS87.apart (show IsS87 w _ gb123 x124000_1 (wrap64 (x124001_1 + 1)) x124002_1 from by repeat (first | (with_reducible first | exact HI123.out | apply IsS87.alloc | apply IsS87.drewN | apply IsS87.drew | apply IsS87.set_0 | apply IsS87.set_1 | apply IsS87.set_2) | exact HI123.out)) (by (with_reducible repeat (first | apply Kd.R_alloc | apply Kd.R_drewN | apply Kd.R_drew));exact (Kd.R_mono (Kd.R_far (p:=⟨gb123,1,none⟩) (IsS87.apart HI123.out HO_4.out (by decide)) (fun _ hk=>hk.2) (.int .i64 (wrap64 (x124001_1 + 1)))) (fun _ h_=>h_.1))) (by decide)) hk (fun _ h=>h.2)) (fun _ h=>h.1));have n1_:=zMk (hb);have n2_:=zMk (hi);clear HO_4;clear HB;clear HI123;have HO_4:=n0_;have HB:=n1_;have HI123:=n2_;clear n0_ n1_ n2_;(try clear hb);(try clear hb2);(try clear hk);(try clear hi)) | ((with_reducible refine gate_dst (N:=7) rfl ?_);refine box_event ?hg (N:=7) ?hd (cs:=#[.int .i64 0,.int .i64 0,.int .i64 0,.int .i64 0]) (t:=34) ?hr ?_;(case hd=>rfl);(case hg=>rfl);(case hr=>first | (go_simp;done) | (go_simp;rfl));intro gb128 hg w31 hbox hb;have n0_:=zMk (Kd.R_below (Kd.R_elderB (rs HO_4) gb128 (Nat.le_of_eq hg.symm)) hb);have n1_:=zMk (IsS87.below (by repeat (first | (with_reducible first | exact HI123.out | apply IsS87.alloc | apply IsS87.drewN | apply IsS87.drew | apply IsS87.set_0 | apply IsS87.set_1 | apply IsS87.set_2) | exact HI123.out)) hb);have n2_:=zMk (below_step (by repeat (first | (with_reducible first | exact HB.out | apply below_alloc | apply pw_below_drewN | apply below_drew1 | refine below_set ?_ (IsS87.ge HI123.out)) | exact HB.out)) hb);have n3_:=zMk (hbox);have n4_:=zMk ((by rw [hg];exact (below_size (by repeat (first | (with_reducible first | exact HB.out | apply below_alloc | apply pw_below_drewN | apply below_drew1 | refine below_set ?_ (IsS87.ge HI123.out)) | exact HB.out))) : w.heap.size ≤ gb128));have n5_:=zMk ((by rw [hg];exact (below_size (by repeat (first | (with_reducible first | exact HB.out | apply below_alloc | apply pw_below_drewN | apply below_drew1 | refine below_set ?_ (IsS87.ge HI123.out)) | exact HB.out))) : w.heap.size ≤ gb128));have n6_:=zMk ((by rw [hg];exact Nat.ne_of_lt (IsS87.lt (show IsS87 w _ gb123 t125 t126 t127 from by repeat (first | (with_reducible first | exact HI123.out | apply IsS87.alloc | apply IsS87.drewN | apply IsS87.drew | apply IsS87.set_0 | apply IsS87.set_1 | apply IsS87.set_2) | exact HI123.out))) : gb123 ≠ gb128));have n7_:=zMk ((by rw [hg];exact Nat.ne_of_gt (IsS87.lt (show IsS87 w _ gb123 t125 t126 t127 from by repeat (first | (with_reducible first | exact HI123.out | apply IsS87.alloc | apply IsS87.drewN | apply IsS87.drew | apply IsS87.set_0 | apply IsS87.set_1 | apply IsS87.set_2) | exact HI123.out))) : gb128 ≠ gb123));clear HO_4;clear HI123;clear HB;have HO_4:=n0_;have HI123:=n1_;have HB:=n2_;have BK128:=n3_;have GW128:=n4_;have GE128:=n5_;have NB123_128:=n6_;have NB128_123:=n7_;clear n0_ n1_ n2_ n3_ n4_ n5_ n6_ n7_;clear hb hbox hg;have hnb32:=NB128_123.out;have hnc32:=NB123_128.out;have hcz33_0 : w31.cell? ⟨gb128,0,none⟩ = some (.int .i64 0):=(zCl BK128.out 0).trans rfl;have hcz33_1 : w31.cell? ⟨gb128,1,none⟩ = some (.int .i64 0):=(zCl BK128.out 1).trans rfl;have hcz33_2 : w31.cell? ⟨gb128,2,none⟩ = some (.int .i64 0):=(zCl BK128.out 2).trans rfl;have hcz33_3 : w31.cell? ⟨gb128,3,none⟩ = some (.int .i64 0):=(zCl BK128.out 3).trans rfl;have hfz33_0:=zFr BK128.out 0;have hfz33_1:=zFr BK128.out 1;have hfz33_2:=zFr BK128.out 2;have hfz33_3:=zFr BK128.out 3) | ((with_reducible refine gate_callee (f:=55) rfl ?_);refine goesL_ (some 49) rfl rfl Try.func55 (by kernel_rfl) rfl #[.pointer (some ⟨gb123,0,none⟩)] rfl (by (try simp only [List.map_toArray,List.map_cons,List.map_nil]);first | done | rfl | (simp only [List.length_drop,List.length_take];rfl)) ?_;(with_reducible refine (spec_l06Var.calls kj4 gb123 t125 t126 t127 t129 t130 t131 false w _ ?side1 ?side2 A14.out).mono ?_);(case side1=>repeat (first | (with_reducible first | exact HI123.out | apply IsS87.alloc | apply IsS87.drewN | apply IsS87.drew | apply IsS87.set_0 | apply IsS87.set_1 | apply IsS87.set_2 | refine IsS87.far ?_ NB123_128.out _) | exact HI123.out));(case side2=>repeat (first | (with_reducible first | exact HB.out | apply below_alloc | apply pw_below_drewN | apply below_drew1 | refine below_set ?_ (IsS87.ge HI123.out) | refine below_set ?_ GE128.out) | exact HB.out));rintro e w34 ⟨rfl,hi,hb,hk⟩;refine ⟨_,rfl,?_⟩;have n0_:=zMk (Kd.R_mono (Kd.R_keep (IsS87.apart (show IsS87 w _ gb123 t125 t126 t127 from by repeat (first | (with_reducible first | exact HI123.out | apply IsS87.alloc | apply IsS87.drewN | apply IsS87.drew | apply IsS87.set_0 | apply IsS87.set_1 | apply IsS87.set_2 | refine IsS87.far ?_ NB123_128.out _) | exact HI123.out)) (by (with_reducible repeat (first | apply Kd.R_alloc | apply Kd.R_drewN | apply Kd.R_drew));exact (Kd.R_mono (Kd.R_far (p:=⟨gb128,3,none⟩) (Kd.R_far (p:=⟨gb128,2,none⟩) (Kd.R_far (p:=⟨gb128,1,none⟩) (Kd.R_far (p:=⟨gb128,0,none⟩) (Kd.R_mono HO_4.out (fun k_ hk=>(⟨hk,hk.2⟩ : _ ∧ k_ ≠ gb128))) (fun _ hk=>hk.2) (.int .i64 (wrap64 (Int.tdiv (wrap64 (bt a0 x124001_1)) 16)))) (fun _ hk=>hk.2) (.int .i64 (Int.tmod (wrap64 (bt a0 x124001_1)) 16))) (fun _ hk=>hk.2) (.int .i64 t124)) (fun _ hk=>hk.2) (.int .i64 0)) (fun _ h_=>h_.1))) (by decide)) hk (fun _ h=>h.2)) (fun _ h=>h.1));have n1_:=zMk (KeepBut.blk hk (g':=gb128) (o:=.cells #[.int .i64 (wrap64 (Int.tdiv (wrap64 (bt a0 x124001_1)) 16)),.int .i64 (Int.tmod (wrap64 (bt a0 x124001_1)) 16),.int .i64 t124,.int .i64 0] 34 (0,0)) (by (with_reducible repeat (first | refine blk_drewN ?_ _ | refine blk_drew ?_ | refine blk_alloc ?_ _));refine blk_put (cs:=#[.int .i64 (wrap64 (Int.tdiv (wrap64 (bt a0 x124001_1)) 16)),.int .i64 (Int.tmod (wrap64 (bt a0 x124001_1)) 16),.int .i64 t124,.int .i64 0]) ?_ 3 _ rfl;(with_reducible repeat (first | refine blk_drewN ?_ _ | refine blk_drew ?_ | refine blk_alloc ?_ _));refine blk_put (cs:=#[.int .i64 (wrap64 (Int.tdiv (wrap64 (bt a0 x124001_1)) 16)),.int .i64 (Int.tmod (wrap64 (bt a0 x124001_1)) 16),.int .i64 0,.int .i64 0]) ?_ 2 _ rfl;(with_reducible repeat (first | refine blk_drewN ?_ _ | refine blk_drew ?_ | refine blk_alloc ?_ _));refine blk_put (cs:=#[.int .i64 (wrap64 (Int.tdiv (wrap64 (bt a0 x124001_1)) 16)),.int .i64 0,.int .i64 0,.int .i64 0]) ?_ 1 _ rfl;(with_reducible repeat (first | refine blk_drewN ?_ _ | refine blk_drew ?_ | refine blk_alloc ?_ _));refine blk_put (cs:=#[.int .i64 0,.int .i64 0,.int .i64 0,.int .i64 0]) ?_ 0 _ rfl;(with_reducible repeat (first | refine blk_drewN ?_ _ | refine blk_drew ?_ | refine blk_alloc ?_ _));exact BK128.out) NB128_123.out (by simp));have n2_:=zMk (hb);have n3_:=zMk (hi);clear HO_4;clear BK128;clear HB;clear HI123;have HO_4:=n0_;have BK128:=n1_;have HB:=n2_;have HI123:=n3_;clear n0_ n1_ n2_ n3_;(try clear hb);(try clear hb2);(try clear hk);(try clear hi);have hcz35_0 : w34.cell? ⟨gb128,0,none⟩ = some (.int .i64 (wrap64 (Int.tdiv (wrap64 (bt a0 x124001_1)) 16))):=(zCl BK128.out 0).trans rfl;have hcz35_1 : w34.cell? ⟨gb128,1,none⟩ = some (.int .i64 (Int.tmod (wrap64 (bt a0 x124001_1)) 16)):=(zCl BK128.out 1).trans rfl;have hcz35_2 : w34.cell? ⟨gb128,2,none⟩ = some (.int .i64 t124):=(zCl BK128.out 2).trans rfl;have hcz35_3 : w34.cell? ⟨gb128,3,none⟩ = some (.int .i64 0):=(zCl BK128.out 3).trans rfl;have hfz35_0:=zFr BK128.out 0;have hfz35_1:=zFr BK128.out 1;have hfz35_2:=zFr BK128.out 2;have hfz35_3:=zFr BK128.out 3;obtain ⟨HGz36,hgz36⟩:=HI123.out;have hcz36_0:=cellS87_0 HGz36;have hcz36_1:=cellS87_1 HGz36;have hcz36_2:=cellS87_2 HGz36;have hfz36_0:=zFr HGz36 0;have hfz36_1:=zFr HGz36 1;have hfz36_2:=zFr HGz36 2;clear HGz36 hgz36) | (go_at_call 22;(with_reducible refine (spec_RecOk.calls kj4 (wrap64 (Int.tdiv (wrap64 (bt a0 x124001_1)) 16)) (Int.tmod (wrap64 (bt a0 x124001_1)) 16) t124 t129 true _ A26.out).mono ?_);rintro e w37 ⟨rfl,hb⟩;have n0_:=zMk (Kd.R_below (by (with_reducible repeat (first | apply Kd.R_alloc | apply Kd.R_drewN | apply Kd.R_drew));exact (Kd.R_mono (Kd.R_far (p:=⟨gb128,3,none⟩) (Kd.R_mono HO_4.out (fun k_ hk=>(⟨hk,hk.2⟩ : _ ∧ k_ ≠ gb128))) (fun _ hk=>hk.2) (.int .i64 t129)) (fun _ h_=>h_.1))) hb);have n1_:=zMk (IsS87.below (show IsS87 w (w34.setCell ⟨gb128,3,none⟩ (.int .i64 t129)) gb123 t130 t131 false from by repeat (first | (with_reducible first | exact HI123.out | apply IsS87.alloc | apply IsS87.drewN | apply IsS87.drew | apply IsS87.set_0 | apply IsS87.set_1 | apply IsS87.set_2 | refine IsS87.far ?_ NB123_128.out _) | exact HI123.out)) hb);have n2_:=zMk (blk_below (g:=gb128) (o:=.cells #[.int .i64 (wrap64 (Int.tdiv (wrap64 (bt a0 x124001_1)) 16)),.int .i64 (Int.tmod (wrap64 (bt a0 x124001_1)) 16),.int .i64 t124,.int .i64 t129] 34 (0,0)) (by (with_reducible repeat (first | refine blk_drewN ?_ _ | refine blk_drew ?_ | refine blk_alloc ?_ _));refine blk_put (cs:=#[.int .i64 (wrap64 (Int.tdiv (wrap64 (bt a0 x124001_1)) 16)),.int .i64 (Int.tmod (wrap64 (bt a0 x124001_1)) 16),.int .i64 t124,.int .i64 0]) ?_ 3 _ rfl;(with_reducible repeat (first | refine blk_drewN ?_ _ | refine blk_drew ?_ | refine blk_alloc ?_ _));exact BK128.out) hb);have n3_:=zMk (below_step (by repeat (first | (with_reducible first | exact HB.out | apply below_alloc | apply pw_below_drewN | apply below_drew1 | refine below_set ?_ (IsS87.ge HI123.out) | refine below_set ?_ GE128.out) | exact HB.out)) hb);clear HO_4;clear HI123;clear BK128;clear HB;have HO_4:=n0_;have HI123:=n1_;have BK128:=n2_;have HB:=n3_;clear n0_ n1_ n2_ n3_;(try clear hb);(try clear hb2);(try clear hk);(try clear hi);have hcz38_0 : w37.cell? ⟨gb128,0,none⟩ = some (.int .i64 (wrap64 (Int.tdiv (wrap64 (bt a0 x124001_1)) 16))):=(zCl BK128.out 0).trans rfl;have hcz38_1 : w37.cell? ⟨gb128,1,none⟩ = some (.int .i64 (Int.tmod (wrap64 (bt a0 x124001_1)) 16)):=(zCl BK128.out 1).trans rfl;have hcz38_2 : w37.cell? ⟨gb128,2,none⟩ = some (.int .i64 t124):=(zCl BK128.out 2).trans rfl;have hcz38_3 : w37.cell? ⟨gb128,3,none⟩ = some (.int .i64 t129):=(zCl BK128.out 3).trans rfl;have hfz38_0:=zFr BK128.out 0;have hfz38_1:=zFr BK128.out 1;have hfz38_2:=zFr BK128.out 2;have hfz38_3:=zFr BK128.out 3) | ((with_reducible refine gate_builtin (b:=.append) (xs:=#[.tmp 61,.tmp 63]) rfl ?_);at_builtin;refine Kd.R_append k34 (w0:=w) w.heap.size rfl (.tmp 61) (.tmp 63) 22 34 (.agg #[(.int .i64 0),(.int .i64 0),(.int .i64 0),(.int .i64 0)]) 32 rfl Try.underlying22 info34 rfl (by decide) (by omega) u4 x4_1 (⟨wrap64 (Int.tdiv (wrap64 (bt a0 x124001_1)) 16),Int.tmod (wrap64 (bt a0 x124001_1)) 16,t124,t129⟩ : S34) [.int .i64 (wrap64 (Int.tdiv (wrap64 (bt a0 x124001_1)) 16)),.int .i64 (Int.tmod (wrap64 (bt a0 x124001_1)) 16),.int .i64 t124,.int .i64 t129] (fun k_=>k_ ≠ gb128) (fun _=>False) rfl rfl ?aP (fun _ hk=>hk.elim) ?aF ?aO ?aB ?aS ?aL ?_;(case aP=>exact k34_mkM _ _ _ (⟨wrap64 (Int.tdiv (wrap64 (bt a0 x124001_1)) 16),Int.tmod (wrap64 (bt a0 x124001_1)) 16,t124,t129⟩ : S34));(case aB=>exact (by repeat (first | (with_reducible first | exact HB.out | apply below_alloc | apply pw_below_drewN | apply below_drew1 | refine below_set ?_ (IsS87.ge HI123.out) | refine below_set ?_ GE128.out) | exact HB.out)));(case aF=>exact (fun k_ hk=>Kd.freshB (g:=gb128) (o:=.cells #[.int .i64 (wrap64 (Int.tdiv (wrap64 (bt a0 x124001_1)) 16)),.int .i64 (Int.tmod (wrap64 (bt a0 x124001_1)) 16),.int .i64 t124,.int .i64 t129] 34 (0,0)) (bs BK128) k_ hk));(case aO=>exact (by (with_reducible repeat (first | apply Kd.R_alloc | apply Kd.R_drewN | apply Kd.R_drew));exact Kd.R_mono HO_4.out (fun _ hk=>hk.2)));(case aS=>exact (below_size (by repeat (first | (with_reducible first | exact HB.out | apply below_alloc | apply pw_below_drewN | apply below_drew1 | refine below_set ?_ (IsS87.ge HI123.out) | refine below_set ?_ GE128.out) | exact HB.out))));(case aL=>have:=LMc28.out;omega);intro v138 w39 ho hb hg hat;rw [← Ny137.out] at ho;have n0_:=zMk (IsS87.grown (by repeat (first | (with_reducible first | exact HI123.out | apply IsS87.alloc | apply IsS87.drewN | apply IsS87.drew | apply IsS87.set_0 | apply IsS87.set_1 | apply IsS87.set_2 | refine IsS87.far ?_ NB123_128.out _) | exact HI123.out)) hg (IsS87.own_ne HI123.out HO_4.out (by decide)));have n1_:=zMk (blk_grown (g:=gb128) (o:=.cells #[.int .i64 (wrap64 (Int.tdiv (wrap64 (bt a0 x124001_1)) 16)),.int .i64 (Int.tmod (wrap64 (bt a0 x124001_1)) 16),.int .i64 t124,.int .i64 t129] 34 (0,0)) (bs BK128) hg (Kd.R_away HO_4.out (fun _ hk=>hk.2)));have n2_:=zMk (hb);have n3_:=zMk (ho);clear HI123;clear BK128;clear HB;clear HO_4;have HI123:=n0_;have BK128:=n1_;have HB:=n2_;have HO139:=n3_;clear n0_ n1_ n2_ n3_;clear ho hb hg hat));go_roundg kj4;case measure=>have:=HK1.out;have:=HJ4.out;omega
          case rel=>exact ⟨(y137),(t130),(t131),(false),H',⟨by have:=HK1.out;have:=HJ4.out;omega⟩,⟨by (with_reducible repeat (first | apply Kd.R_alloc | apply Kd.R_drewN | apply Kd.R_drew));exact Kd.R_mono HO139.out (fun _ hk=>trivial)⟩,⟨by repeat (first | (with_reducible first | exact HI123.out | apply IsS87.alloc | apply IsS87.drewN | apply IsS87.drew | apply IsS87.set_0 | apply IsS87.set_1 | apply IsS87.set_2 | refine IsS87.far ?_ NB123_128.out _) | exact HI123.out)⟩,⟨by repeat (first | (with_reducible first | exact HB.out | apply below_alloc | apply pw_below_drewN | apply below_drew1 | refine below_set ?_ (IsS87.ge HI123.out) | refine below_set ?_ GE128.out) | exact HB.out)⟩⟩
         rw [if_neg c28] at H;exact absurd H (by simp)
        replace c27:=Bool.eq_false_iff.mpr c27;subst c27;have H1 : (some ((([] : List (S34))),false)) = some (r1,r2):=by rw [if_neg (show ¬ (false = true) by decide)] at H;exact H
        clear H;have H:=H1;clear H1;obtain ⟨y140,hy140⟩ : ∃ y_ : List (S34),y_ = (([] : List (S34))):=⟨_,rfl⟩;replace H : (some (y140,false)) = some (r1,r2):=by first | (rw [hy140];with_reducible exact H) | (have H2_:=(Option.bind_some _ _).symm.trans H;rw [hy140];with_reducible exact H2_) | (have H2_:=(Option.bind_some _ _).symm.trans H;with_reducible exact H2_) | with_reducible exact H | (rw [hy140];exact H) | exact H
        have Ny140:=zMk hy140;clear hy140;simp only [Option.some.injEq,Prod.mk.injEq] at H;obtain ⟨rfl,rfl⟩:=H;obtain ⟨HGz40,hgz40⟩:=HI123.out;have hcz40_0:=cellS87_0 HGz40;have hcz40_1:=cellS87_1 HGz40;have hcz40_2:=cellS87_2 HGz40;have hfz40_0:=zFr HGz40 0;have hfz40_1:=zFr HGz40 1;have hfz40_2:=zFr HGz40 2;clear HGz40 hgz40;have p12 : 0 ≤ (x124001_1 : Int):=of_decide_eq_true (by first | (with_reducible assumption) | assumption);have q12 : x124001_1 < (a0.size : Int):=of_decide_eq_true (by first | (with_reducible assumption) | assumption);have hx12:=bt_at a0 x124001_1;replace p12:=eq_true p12;replace q12:=eq_true q12;go_wp2_with (first | ((with_reducible refine gate_callee (f:=55) rfl ?_);refine goesL_ (some 46) rfl rfl Try.func55 (by kernel_rfl) rfl #[.pointer (some ⟨gb123,0,none⟩)] rfl (by (try simp only [List.map_toArray,List.map_cons,List.map_nil]);first | done | rfl | (simp only [List.length_drop,List.length_take];rfl)) ?_;(with_reducible refine (spec_l06Var.calls kj4 gb123 x124000_1 (wrap64 (x124001_1 + 1)) x124002_1 t124 t125 t126 t127 w _ ?side1 ?side2 A13.out).mono ?_);(case side1=>repeat (first | (with_reducible first | exact HI123.out | apply IsS87.alloc | apply IsS87.drewN | apply IsS87.drew | apply IsS87.set_0 | apply IsS87.set_1 | apply IsS87.set_2) | exact HI123.out));(case side2=>repeat (first | (with_reducible first | exact HB.out | apply below_alloc | apply pw_below_drewN | apply below_drew1 | refine below_set ?_ (IsS87.ge HI123.out)) | exact HB.out));rintro e w41 ⟨rfl,hi,hb,hk⟩;refine ⟨_,rfl,?_⟩;have n0_:=zMk (Kd.R_mono (Kd.R_keep (IsS87.apart (show IsS87 w _ gb123 x124000_1 (wrap64 (x124001_1 + 1)) x124002_1 from by repeat (first | (with_reducible first | exact HI123.out | apply IsS87.alloc | apply IsS87.drewN | apply IsS87.drew | apply IsS87.set_0 | apply IsS87.set_1 | apply IsS87.set_2) | exact HI123.out)) (by (with_reducible repeat (first | apply Kd.R_alloc | apply Kd.R_drewN | apply Kd.R_drew));exact (Kd.R_mono (Kd.R_far (p:=⟨gb123,1,none⟩) (IsS87.apart HI123.out HO_4.out (by decide)) (fun _ hk=>hk.2) (.int .i64 (wrap64 (x124001_1 + 1)))) (fun _ h_=>h_.1))) (by decide)) hk (fun _ h=>h.2)) (fun _ h=>h.1));have n1_:=zMk (hb);have n2_:=zMk (hi);clear HO_4;clear HB;clear HI123;have HO_4:=n0_;have HB:=n1_;have HI123:=n2_;clear n0_ n1_ n2_;(try clear hb);(try clear hb2);(try clear hk);(try clear hi)) | ((with_reducible refine gate_dst (N:=7) rfl ?_);refine box_event ?hg (N:=7) ?hd (cs:=#[.int .i64 0,.int .i64 0,.int .i64 0,.int .i64 0]) (t:=34) ?hr ?_;(case hd=>rfl);(case hg=>rfl);(case hr=>first | (go_simp;done) | (go_simp;rfl));intro gb128 hg w42 hbox hb;have n0_:=zMk (Kd.R_below (Kd.R_elderB (rs HO_4) gb128 (Nat.le_of_eq hg.symm)) hb);have n1_:=zMk (IsS87.below (by repeat (first | (with_reducible first | exact HI123.out | apply IsS87.alloc | apply IsS87.drewN | apply IsS87.drew | apply IsS87.set_0 | apply IsS87.set_1 | apply IsS87.set_2) | exact HI123.out)) hb);have n2_:=zMk (below_step (by repeat (first | (with_reducible first | exact HB.out | apply below_alloc | apply pw_below_drewN | apply below_drew1 | refine below_set ?_ (IsS87.ge HI123.out)) | exact HB.out)) hb);have n3_:=zMk (hbox);have n4_:=zMk ((by rw [hg];exact (below_size (by repeat (first | (with_reducible first | exact HB.out | apply below_alloc | apply pw_below_drewN | apply below_drew1 | refine below_set ?_ (IsS87.ge HI123.out)) | exact HB.out))) : w.heap.size ≤ gb128));have n5_:=zMk ((by rw [hg];exact (below_size (by repeat (first | (with_reducible first | exact HB.out | apply below_alloc | apply pw_below_drewN | apply below_drew1 | refine below_set ?_ (IsS87.ge HI123.out)) | exact HB.out))) : w.heap.size ≤ gb128));have n6_:=zMk ((by rw [hg];exact Nat.ne_of_lt (IsS87.lt (show IsS87 w _ gb123 t125 t126 t127 from by repeat (first | (with_reducible first | exact HI123.out | apply IsS87.alloc | apply IsS87.drewN | apply IsS87.drew | apply IsS87.set_0 | apply IsS87.set_1 | apply IsS87.set_2) | exact HI123.out))) : gb123 ≠ gb128));have n7_:=zMk ((by rw [hg];exact Nat.ne_of_gt (IsS87.lt (show IsS87 w _ gb123 t125 t126 t127 from by repeat (first | (with_reducible first | exact HI123.out | apply IsS87.alloc | apply IsS87.drewN | apply IsS87.drew | apply IsS87.set_0 | apply IsS87.set_1 | apply IsS87.set_2) | exact HI123.out))) : gb128 ≠ gb123));clear HO_4;clear HI123;clear HB;have HO_4:=n0_;have HI123:=n1_;have HB:=n2_;have BK128:=n3_;have GW128:=n4_;have GE128:=n5_;have NB123_128:=n6_;have NB128_123:=n7_;clear n0_ n1_ n2_ n3_ n4_ n5_ n6_ n7_;clear hb hbox hg;have hnb43:=NB128_123.out;have hnc43:=NB123_128.out;have hcz44_0 : w42.cell? ⟨gb128,0,none⟩ = some (.int .i64 0):=(zCl BK128.out 0).trans rfl;have hcz44_1 : w42.cell? ⟨gb128,1,none⟩ = some (.int .i64 0):=(zCl BK128.out 1).trans rfl;have hcz44_2 : w42.cell? ⟨gb128,2,none⟩ = some (.int .i64 0):=(zCl BK128.out 2).trans rfl;have hcz44_3 : w42.cell? ⟨gb128,3,none⟩ = some (.int .i64 0):=(zCl BK128.out 3).trans rfl;have hfz44_0:=zFr BK128.out 0;have hfz44_1:=zFr BK128.out 1;have hfz44_2:=zFr BK128.out 2;have hfz44_3:=zFr BK128.out 3) | ((with_reducible refine gate_callee (f:=55) rfl ?_);refine goesL_ (some 49) rfl rfl Try.func55 (by kernel_rfl) rfl #[.pointer (some ⟨gb123,0,none⟩)] rfl (by (try simp only [List.map_toArray,List.map_cons,List.map_nil]);first | done | rfl | (simp only [List.length_drop,List.length_take];rfl)) ?_;(with_reducible refine (spec_l06Var.calls kj4 gb123 t125 t126 t127 t129 t130 t131 false w _ ?side1 ?side2 A14.out).mono ?_);(case side1=>repeat (first | (with_reducible first | exact HI123.out | apply IsS87.alloc | apply IsS87.drewN | apply IsS87.drew | apply IsS87.set_0 | apply IsS87.set_1 | apply IsS87.set_2 | refine IsS87.far ?_ NB123_128.out _) | exact HI123.out));(case side2=>repeat (first | (with_reducible first | exact HB.out | apply below_alloc | apply pw_below_drewN | apply below_drew1 | refine below_set ?_ (IsS87.ge HI123.out) | refine below_set ?_ GE128.out) | exact HB.out));rintro e w45 ⟨rfl,hi,hb,hk⟩;refine ⟨_,rfl,?_⟩;have n0_:=zMk (Kd.R_mono (Kd.R_keep (IsS87.apart (show IsS87 w _ gb123 t125 t126 t127 from by repeat (first | (with_reducible first | exact HI123.out | apply IsS87.alloc | apply IsS87.drewN | apply IsS87.drew | apply IsS87.set_0 | apply IsS87.set_1 | apply IsS87.set_2 | refine IsS87.far ?_ NB123_128.out _) | exact HI123.out)) (by (with_reducible repeat (first | apply Kd.R_alloc | apply Kd.R_drewN | apply Kd.R_drew));exact (Kd.R_mono (Kd.R_far (p:=⟨gb128,3,none⟩) (Kd.R_far (p:=⟨gb128,2,none⟩) (Kd.R_far (p:=⟨gb128,1,none⟩) (Kd.R_far (p:=⟨gb128,0,none⟩) (Kd.R_mono HO_4.out (fun k_ hk=>(⟨hk,hk.2⟩ : _ ∧ k_ ≠ gb128))) (fun _ hk=>hk.2) (.int .i64 (wrap64 (Int.tdiv (wrap64 (bt a0 x124001_1)) 16)))) (fun _ hk=>hk.2) (.int .i64 (Int.tmod (wrap64 (bt a0 x124001_1)) 16))) (fun _ hk=>hk.2) (.int .i64 t124)) (fun _ hk=>hk.2) (.int .i64 0)) (fun _ h_=>h_.1))) (by decide)) hk (fun _ h=>h.2)) (fun _ h=>h.1));have n1_:=zMk (KeepBut.blk hk (g':=gb128) (o:=.cells #[.int .i64 (wrap64 (Int.tdiv (wrap64 (bt a0 x124001_1)) 16)),.int .i64 (Int.tmod (wrap64 (bt a0 x124001_1)) 16),.int .i64 t124,.int .i64 0] 34 (0,0)) (by (with_reducible repeat (first | refine blk_drewN ?_ _ | refine blk_drew ?_ | refine blk_alloc ?_ _));refine blk_put (cs:=#[.int .i64 (wrap64 (Int.tdiv (wrap64 (bt a0 x124001_1)) 16)),.int .i64 (Int.tmod (wrap64 (bt a0 x124001_1)) 16),.int .i64 t124,.int .i64 0]) ?_ 3 _ rfl;(with_reducible repeat (first | refine blk_drewN ?_ _ | refine blk_drew ?_ | refine blk_alloc ?_ _));refine blk_put (cs:=#[.int .i64 (wrap64 (Int.tdiv (wrap64 (bt a0 x124001_1)) 16)),.int .i64 (Int.tmod (wrap64 (bt a0 x124001_1)) 16),.int .i64 0,.int .i64 0]) ?_ 2 _ rfl;(with_reducible repeat (first | refine blk_drewN ?_ _ | refine blk_drew ?_ | refine blk_alloc ?_ _));refine blk_put (cs:=#[.int .i64 (wrap64 (Int.tdiv (wrap64 (bt a0 x124001_1)) 16)),.int .i64 0,.int .i64 0,.int .i64 0]) ?_ 1 _ rfl;(with_reducible repeat (first | refine blk_drewN ?_ _ | refine blk_drew ?_ | refine blk_alloc ?_ _));refine blk_put (cs:=#[.int .i64 0,.int .i64 0,.int .i64 0,.int .i64 0]) ?_ 0 _ rfl;(with_reducible repeat (first | refine blk_drewN ?_ _ | refine blk_drew ?_ | refine blk_alloc ?_ _));exact BK128.out) NB128_123.out (by simp));have n2_:=zMk (hb);have n3_:=zMk (hi);clear HO_4;clear BK128;clear HB;clear HI123;have HO_4:=n0_;have BK128:=n1_;have HB:=n2_;have HI123:=n3_;clear n0_ n1_ n2_ n3_;(try clear hb);(try clear hb2);(try clear hk);(try clear hi);have hcz46_0 : w45.cell? ⟨gb128,0,none⟩ = some (.int .i64 (wrap64 (Int.tdiv (wrap64 (bt a0 x124001_1)) 16))):=(zCl BK128.out 0).trans rfl;have hcz46_1 : w45.cell? ⟨gb128,1,none⟩ = some (.int .i64 (Int.tmod (wrap64 (bt a0 x124001_1)) 16)):=(zCl BK128.out 1).trans rfl;have hcz46_2 : w45.cell? ⟨gb128,2,none⟩ = some (.int .i64 t124):=(zCl BK128.out 2).trans rfl;have hcz46_3 : w45.cell? ⟨gb128,3,none⟩ = some (.int .i64 0):=(zCl BK128.out 3).trans rfl;have hfz46_0:=zFr BK128.out 0;have hfz46_1:=zFr BK128.out 1;have hfz46_2:=zFr BK128.out 2;have hfz46_3:=zFr BK128.out 3;obtain ⟨HGz47,hgz47⟩:=HI123.out;have hcz47_0:=cellS87_0 HGz47;have hcz47_1:=cellS87_1 HGz47;have hcz47_2:=cellS87_2 HGz47;have hfz47_0:=zFr HGz47 0;have hfz47_1:=zFr HGz47 1;have hfz47_2:=zFr HGz47 2;clear HGz47 hgz47) | (go_at_call 22;(with_reducible refine (spec_RecOk.calls kj4 (wrap64 (Int.tdiv (wrap64 (bt a0 x124001_1)) 16)) (Int.tmod (wrap64 (bt a0 x124001_1)) 16) t124 t129 false _ A26.out).mono ?_);rintro e w48 ⟨rfl,hb⟩;have n0_:=zMk (Kd.R_below (by (with_reducible repeat (first | apply Kd.R_alloc | apply Kd.R_drewN | apply Kd.R_drew));exact (Kd.R_mono (Kd.R_far (p:=⟨gb128,3,none⟩) (Kd.R_mono HO_4.out (fun k_ hk=>(⟨hk,hk.2⟩ : _ ∧ k_ ≠ gb128))) (fun _ hk=>hk.2) (.int .i64 t129)) (fun _ h_=>h_.1))) hb);have n1_:=zMk (IsS87.below (show IsS87 w (w45.setCell ⟨gb128,3,none⟩ (.int .i64 t129)) gb123 t130 t131 false from by repeat (first | (with_reducible first | exact HI123.out | apply IsS87.alloc | apply IsS87.drewN | apply IsS87.drew | apply IsS87.set_0 | apply IsS87.set_1 | apply IsS87.set_2 | refine IsS87.far ?_ NB123_128.out _) | exact HI123.out)) hb);have n2_:=zMk (blk_below (g:=gb128) (o:=.cells #[.int .i64 (wrap64 (Int.tdiv (wrap64 (bt a0 x124001_1)) 16)),.int .i64 (Int.tmod (wrap64 (bt a0 x124001_1)) 16),.int .i64 t124,.int .i64 t129] 34 (0,0)) (by (with_reducible repeat (first | refine blk_drewN ?_ _ | refine blk_drew ?_ | refine blk_alloc ?_ _));refine blk_put (cs:=#[.int .i64 (wrap64 (Int.tdiv (wrap64 (bt a0 x124001_1)) 16)),.int .i64 (Int.tmod (wrap64 (bt a0 x124001_1)) 16),.int .i64 t124,.int .i64 0]) ?_ 3 _ rfl;(with_reducible repeat (first | refine blk_drewN ?_ _ | refine blk_drew ?_ | refine blk_alloc ?_ _));exact BK128.out) hb);have n3_:=zMk (below_step (by repeat (first | (with_reducible first | exact HB.out | apply below_alloc | apply pw_below_drewN | apply below_drew1 | refine below_set ?_ (IsS87.ge HI123.out) | refine below_set ?_ GE128.out) | exact HB.out)) hb);clear HO_4;clear HI123;clear BK128;clear HB;have HO_4:=n0_;have HI123:=n1_;have BK128:=n2_;have HB:=n3_;clear n0_ n1_ n2_ n3_;(try clear hb);(try clear hb2);(try clear hk);(try clear hi)) | ((with_reducible refine gate_dst (N:=60) rfl ?_);refine Kd.R_lit k34 _ 34 ?hg (N:=60) ?hd (xs:=([] : List (S34))) (inner:=[]) (ok:=fun _=>True) (okp:=fun _=>True) ?hr ?hp (fun _ hk=>hk) trivial (Below.refl _ _) (Nat.le_refl _) (by simp) ?_;(case hd=>rfl);(case hg=>rfl);(case hr=>first | (go_simp;done) | (go_simp;rfl));(case hp=>exact (Reps.none _ _));intro v141 w49 ho50 hb hg_ hnew_;clear hg_ hnew_;(first | rw [← Ny140.out] at ho50 | (simp only [Int.reduceToNat] at ho50;rw [← Ny140.out] at ho50));have n0_:=zMk (Kd.R_elder' (rs HO_4) (Kd.R_base ho50) hb);have n1_:=zMk (Kd.R_lower (Kd.R_newB (Kd.R_new' ho50 (Kd.R_lt (rs HO_4))) (g:=gb128) (o:=.cells #[.int .i64 (wrap64 (Int.tdiv (wrap64 (bt a0 x124001_1)) 16)),.int .i64 (Int.tmod (wrap64 (bt a0 x124001_1)) 16),.int .i64 t124,.int .i64 t129] 34 (0,0)) (bs BK128)) (below_size (by repeat (first | (with_reducible first | exact HB.out | apply below_alloc | apply pw_below_drewN | apply below_drew1 | refine below_set ?_ (IsS87.ge HI123.out) | refine below_set ?_ GE128.out) | exact HB.out))));have n2_:=zMk (IsS87.below (by repeat (first | (with_reducible first | exact HI123.out | apply IsS87.alloc | apply IsS87.drewN | apply IsS87.drew | apply IsS87.set_0 | apply IsS87.set_1 | apply IsS87.set_2 | refine IsS87.far ?_ NB123_128.out _) | exact HI123.out)) hb);have n3_:=zMk (blk_below (g:=gb128) (o:=.cells #[.int .i64 (wrap64 (Int.tdiv (wrap64 (bt a0 x124001_1)) 16)),.int .i64 (Int.tmod (wrap64 (bt a0 x124001_1)) 16),.int .i64 t124,.int .i64 t129] 34 (0,0)) (bs BK128) hb);have n4_:=zMk (below_step (by repeat (first | (with_reducible first | exact HB.out | apply below_alloc | apply pw_below_drewN | apply below_drew1 | refine below_set ?_ (IsS87.ge HI123.out) | refine below_set ?_ GE128.out) | exact HB.out)) hb);clear HO_4;clear HI123;clear BK128;clear HB;have HO_4:=n0_;have HO142:=n1_;have HI123:=n2_;have BK128:=n3_;have HB:=n4_;clear n0_ n1_ n2_ n3_ n4_;clear hb ho50))
        go_ret2
        exact ⟨_,by first | rfl | (simp [errW_none,errW_some] <;> rfl) | (simp [*,errW_none,errW_some] <;> rfl),by (with_reducible repeat (first | apply Kd.R_alloc | apply Kd.R_drewN | apply Kd.R_drew));exact Kd.R_mono HO142.out (fun _ hk=>trivial),by repeat (first | (with_reducible first | exact HB.out | apply below_alloc | apply pw_below_drewN | apply below_drew1 | refine below_set ?_ (IsS87.ge HI123.out) | refine below_set ?_ GE128.out) | exact HB.out)⟩
       rw [if_neg c11] at H;exact absurd H (by simp)
      rw [if_neg c10] at H;exact absurd H (by simp)
     replace c9:=Bool.eq_false_iff.mpr c9;subst c9;have H1 : (some (x4_1,true)) = some (r1,r2):=by rw [if_neg (show ¬ (false = true) by decide)] at H;exact H
     clear H;have H:=H1;clear H1;simp only [Option.some.injEq,Prod.mk.injEq] at H;obtain ⟨rfl,rfl⟩:=H
     go_wp2
     go_ret2
     exact ⟨_,by first | rfl | (simp [errW_none,errW_some] <;> rfl) | (simp [*,errW_none,errW_some] <;> rfl),rs HO_4,by repeat (first | (with_reducible first | exact HB.out | apply below_alloc | apply pw_below_drewN | apply below_drew1 | refine below_set ?_ (IsS87.ge HI123.out)) | exact HB.out)⟩
end Go.Proofs.Ytcpgpchdplpfiaa.PR

namespace Go.Proofs.Ytcpgpchdplpfiaa.PR
open Go.RowKit Go.Proofs.YtcpgpchdplpfiaaW.PrintWords Go.Proofs.YtcpgpchdplpfiaaW.PrintLast Go.Proofs.YtcpgpchdplpfiaaW.PrintMore
attribute [local go_sem] max2_int min2_int max_two min_two max_three min_three max_four min_four   -- for this text's walks alone
set_option linter.unusedVariables false
set_option linter.unusedSimpArgs false
def impl_in.f (a0 : Int) (a1 : Int) (a2 : Int) : Option (Bool):=if a0 ≥ a1 then (some (decide (a0 ≤ a2))) else (some false)
set_option maxHeartbeats 8000000 in
set_option maxRecDepth 100000 in
theorem impl_in.calls (a0 : Int) (a1 : Int) (a2 : Int) (r : Bool) (w : World) (h : impl_in.f a0 a1 a2 = some r) :
  Calls Try.prog 61 #[.int .i64 a0,.int .i64 a1,.int .i64 a2] w fun e w'=>e = .returned (.bool r) ∧ Drawn0 w w':=by
 have H : (if a0 ≥ a1 then (some (decide (a0 ≤ a2))) else (some false)) = some r:=h;clear h
 by_cases c4 : a0 ≥ a1
 ·rw [if_pos c4] at H;have c4b0 : decide (a1 ≤ a0) = true:=decide_eq_true c4;clear c4;obtain rfl:=Option.some.inj H
  go_enter Try.func61,Try.ntmps61
  go_wp2
  go_ret
  exact ⟨by first | rfl | (simp;done) | (simp [*];done),by repeat (first | exact Drawn0.refl _ | apply Drawn0.step)⟩
 rw [if_neg c4] at H;have c4b0 : decide (a1 ≤ a0) = false:=decide_eq_false c4;clear c4;obtain rfl:=Option.some.inj H
 go_enter Try.func61,Try.ntmps61
 go_wp2
 go_ret
 exact ⟨by first | rfl | (simp;done) | (simp [*];done),by repeat (first | exact Drawn0.refl _ | apply Drawn0.step)⟩
end Go.Proofs.Ytcpgpchdplpfiaa.PR

namespace Go.Proofs.Ytcpgpchdplpfiaa.PR
open Go.RowKit Go.Proofs.YtcpgpchdplpfiaaW.PrintWords Go.Proofs.YtcpgpchdplpfiaaW.PrintLast Go.Proofs.YtcpgpchdplpfiaaW.PrintMore
attribute [local go_sem] max2_int min2_int max_two min_two max_three min_three max_four min_four   -- for this text's walks alone
set_option linter.unusedVariables false
set_option linter.unusedSimpArgs false
def impl_RecOk.j0 : Nat → Bool → Int → Int → Int → Int → Option (Bool)
 | 0,_,_,_,_,_=>none
 | k + 1,x32,x144000,x144001,x144002,x144003=>if x32 = true then (some false) else (if x144000 = 2 then ((impl_in.f x144002 0 9).bind fun t146=>(some t146)) else (if x144000 = 3 then (some (x144002 == 0)) else (if x144000 = 4 then ((impl_in.f x144002 0 15).bind fun t147=>(if t147 = true then ((impl_in.f x144003 1 1000000000).bind fun t148=>(some t148)) else (some false))) else (if x144000 = 5 then ((impl_in.f x144002 0 15).bind fun t149=>(some t149)) else (some false)))))
def impl_RecOk.f (k : Nat) (a0_0 : Int) (a0_1 : Int) (a0_2 : Int) (a0_3 : Int) : Option (Bool):=if a0_0 = 1 then (if a0_1 = 0 then ((impl_in.f a0_2 0 1000000000).bind fun t144=>(if t144 = true then (some (a0_3 == 0)) else (some false))) else (some false)) else ((impl_in.f a0_1 1 9).bind fun t145=>(if t145 = true then (if a0_0 = 4 then (impl_RecOk.j0 k false a0_0 a0_1 a0_2 a0_3) else (impl_RecOk.j0 k (a0_3 != 0) a0_0 a0_1 a0_2 a0_3)) else (impl_RecOk.j0 k true a0_0 a0_1 a0_2 a0_3)))
theorem impl_RecOk.mono_l : ∀ k,(∀ y0 y1 y2 y3 y4,LeO (impl_RecOk.j0 k y0 y1 y2 y3 y4) (impl_RecOk.j0 (k + 1) y0 y1 y2 y3 y4))
 | 0=>fun _ _ _ _ _ r h=>by simp [impl_RecOk.j0] at h
 | k + 1=>by
  have ih0:=impl_RecOk.mono_l k;intro y0 y1 y2 y3 y4;unfold impl_RecOk.j0
  repeat' first
  | (with_reducible exact ih0 _ _ _ _ _)
  | (with_reducible exact LeO.refl _)
  | (with_reducible exact LeO.none _)
  | (with_reducible refine LeO.ite ?_ ?_)
  | (with_reducible refine LeO.bind ?_ (fun _=>?_))
  | exact ih0 _ _ _ _ _
  | exact LeO.none _
  | refine LeO.ite ?_ ?_
  | refine LeO.bind ?_ (fun _=>?_)
theorem impl_RecOk.mono : ∀ a0 a1 a2 a3 k,LeO (impl_RecOk.f k a0 a1 a2 a3) (impl_RecOk.f (k + 1) a0 a1 a2 a3):=by
 intro a0 a1 a2 a3 k;have ih0:=impl_RecOk.mono_l k;unfold impl_RecOk.f
 repeat' first
   | (with_reducible exact ih0 _ _ _ _ _)
   | (with_reducible exact LeO.refl _)
   | (with_reducible exact LeO.none _)
   | (with_reducible refine LeO.ite ?_ ?_)
   | (with_reducible refine LeO.bind ?_ (fun _=>?_))
   | exact ih0 _ _ _ _ _
   | exact LeO.none _
   | refine LeO.ite ?_ ?_
   | refine LeO.bind ?_ (fun _=>?_)
set_option maxHeartbeats 8000000 in
set_option maxRecDepth 100000 in
theorem impl_RecOk.calls (k : Nat) (a0_0 : Int) (a0_1 : Int) (a0_2 : Int) (a0_3 : Int) (r : Bool) (w : World) (h : impl_RecOk.f k a0_0 a0_1 a0_2 a0_3 = some r) :
  Calls Try.prog 18 #[.agg #[.int .i64 a0_0,.int .i64 a0_1,.int .i64 a0_2,.int .i64 a0_3]] w fun e w'=>e = .returned (.bool r) ∧ Below w.heap.size w w':=by
 have hu34:=Try.underlying34;have HB:=zMk (Below.refl w.heap.size w);have H : (if a0_0 = 1 then (if a0_1 = 0 then ((impl_in.f a0_2 0 1000000000).bind fun t144=>(if t144 = true then (some (a0_3 == 0)) else (some false))) else (some false)) else ((impl_in.f a0_1 1 9).bind fun t145=>(if t145 = true then (if a0_0 = 4 then (impl_RecOk.j0 k false a0_0 a0_1 a0_2 a0_3) else (impl_RecOk.j0 k (a0_3 != 0) a0_0 a0_1 a0_2 a0_3)) else (impl_RecOk.j0 k true a0_0 a0_1 a0_2 a0_3)))) = some r:=h;clear h
 by_cases c2 : a0_0 = 1
 ·rw [if_pos c2] at H;have c2b0 : (a0_0 == 1) = true:=beq_iff_eq.mpr c2;have c2b1 : (a0_0 != 1) = false:=bne_eq_false_iff_eq.mpr c2;clear c2
  by_cases c3 : a0_1 = 0
  ·rw [if_pos c3] at H;have c3b0 : (a0_1 == 0) = true:=beq_iff_eq.mpr c3;have c3b1 : (a0_1 != 0) = false:=bne_eq_false_iff_eq.mpr c3;clear c3;replace H:=Option.bind_eq_some_iff.mp H;obtain ⟨t144,A40,H⟩:=H;replace H : (if t144 = true then (some (a0_3 == 0)) else (some false)) = some r:=H;have A4:=zMk A40;clear A40
   by_cases c5 : t144 = true
   ·subst c5;have H1 : (some (a0_3 == 0)) = some r:=by rw [if_pos rfl] at H;exact H
    clear H;have H:=H1;clear H1;obtain rfl:=Option.some.inj H
    go_enter Try.func18,Try.ntmps18
    go_wp2_with (first | ((with_reducible refine gate_dst (N:=1) rfl ?_);refine box_event ?hg (N:=1) ?hd (cs:=#[.int .i64 a0_0,.int .i64 a0_1,.int .i64 a0_2,.int .i64 a0_3]) (t:=34) ?hr ?_;(case hd=>rfl);(case hg=>rfl);(case hr=>first | (go_simp;done) | (go_simp;rfl));intro gb143 hg w6 hbox hb;have n0_:=zMk (below_step (hs HB) hb);have n1_:=zMk (hbox);have n2_:=zMk ((by rw [hg];exact (below_size (hs HB)) : w.heap.size ≤ gb143));have n3_:=zMk ((by rw [hg];exact (below_size (hs HB)) : w.heap.size ≤ gb143));clear HB;have HB:=n0_;have BK143:=n1_;have GW143:=n2_;have GE143:=n3_;clear n0_ n1_ n2_ n3_;clear hb hbox hg;have hcz7_0 : w6.cell? ⟨gb143,0,none⟩ = some (.int .i64 a0_0):=(zCl BK143.out 0).trans rfl;have hcz7_1 : w6.cell? ⟨gb143,1,none⟩ = some (.int .i64 a0_1):=(zCl BK143.out 1).trans rfl;have hcz7_2 : w6.cell? ⟨gb143,2,none⟩ = some (.int .i64 a0_2):=(zCl BK143.out 2).trans rfl;have hcz7_3 : w6.cell? ⟨gb143,3,none⟩ = some (.int .i64 a0_3):=(zCl BK143.out 3).trans rfl;have hfz7_0:=zFr BK143.out 0;have hfz7_1:=zFr BK143.out 1;have hfz7_2:=zFr BK143.out 2;have hfz7_3:=zFr BK143.out 3) | (go_at_call 61;(with_reducible refine (impl_in.calls a0_2 0 1000000000 true _ A4.out).mono ?_);rintro e w' ⟨rfl,⟨nd,rfl⟩⟩))
    go_ret
    exact ⟨by first | rfl | (simp [errW_none,errW_some] <;> rfl) | (simp [*,errW_none,errW_some] <;> rfl),hs1 HB GE143⟩
   replace c5:=Bool.eq_false_iff.mpr c5;subst c5;have H1 : (some false) = some r:=by rw [if_neg (show ¬ (false = true) by decide)] at H;exact H
   clear H;have H:=H1;clear H1;obtain rfl:=Option.some.inj H
   go_enter Try.func18,Try.ntmps18
   go_wp2_with (first | ((with_reducible refine gate_dst (N:=1) rfl ?_);refine box_event ?hg (N:=1) ?hd (cs:=#[.int .i64 a0_0,.int .i64 a0_1,.int .i64 a0_2,.int .i64 a0_3]) (t:=34) ?hr ?_;(case hd=>rfl);(case hg=>rfl);(case hr=>first | (go_simp;done) | (go_simp;rfl));intro gb143 hg w8 hbox hb;have n0_:=zMk (below_step (hs HB) hb);have n1_:=zMk (hbox);have n2_:=zMk ((by rw [hg];exact (below_size (hs HB)) : w.heap.size ≤ gb143));have n3_:=zMk ((by rw [hg];exact (below_size (hs HB)) : w.heap.size ≤ gb143));clear HB;have HB:=n0_;have BK143:=n1_;have GW143:=n2_;have GE143:=n3_;clear n0_ n1_ n2_ n3_;clear hb hbox hg;have hcz9_0 : w8.cell? ⟨gb143,0,none⟩ = some (.int .i64 a0_0):=(zCl BK143.out 0).trans rfl;have hcz9_1 : w8.cell? ⟨gb143,1,none⟩ = some (.int .i64 a0_1):=(zCl BK143.out 1).trans rfl;have hcz9_2 : w8.cell? ⟨gb143,2,none⟩ = some (.int .i64 a0_2):=(zCl BK143.out 2).trans rfl;have hcz9_3 : w8.cell? ⟨gb143,3,none⟩ = some (.int .i64 a0_3):=(zCl BK143.out 3).trans rfl;have hfz9_0:=zFr BK143.out 0;have hfz9_1:=zFr BK143.out 1;have hfz9_2:=zFr BK143.out 2;have hfz9_3:=zFr BK143.out 3) | (go_at_call 61;(with_reducible refine (impl_in.calls a0_2 0 1000000000 false _ A4.out).mono ?_);rintro e w' ⟨rfl,⟨nd,rfl⟩⟩))
   go_ret
   exact ⟨by first | rfl | (simp [errW_none,errW_some] <;> rfl) | (simp [*,errW_none,errW_some] <;> rfl),hs1 HB GE143⟩
  rw [if_neg c3] at H;have c3b0 : (a0_1 == 0) = false:=beq_eq_false_iff_ne.mpr c3;have c3b1 : (a0_1 != 0) = true:=bne_iff_ne.mpr c3;obtain rfl:=Option.some.inj H
  go_enter Try.func18,Try.ntmps18
  go_wp2_with (first | ((with_reducible refine gate_dst (N:=1) rfl ?_);refine box_event ?hg (N:=1) ?hd (cs:=#[.int .i64 a0_0,.int .i64 a0_1,.int .i64 a0_2,.int .i64 a0_3]) (t:=34) ?hr ?_;(case hd=>rfl);(case hg=>rfl);(case hr=>first | (go_simp;done) | (go_simp;rfl));intro gb143 hg w10 hbox hb;have n0_:=zMk (below_step (hs HB) hb);have n1_:=zMk (hbox);have n2_:=zMk ((by rw [hg];exact (below_size (hs HB)) : w.heap.size ≤ gb143));have n3_:=zMk ((by rw [hg];exact (below_size (hs HB)) : w.heap.size ≤ gb143));clear HB;have HB:=n0_;have BK143:=n1_;have GW143:=n2_;have GE143:=n3_;clear n0_ n1_ n2_ n3_;clear hb hbox hg;have hcz11_0 : w10.cell? ⟨gb143,0,none⟩ = some (.int .i64 a0_0):=(zCl BK143.out 0).trans rfl;have hcz11_1 : w10.cell? ⟨gb143,1,none⟩ = some (.int .i64 a0_1):=(zCl BK143.out 1).trans rfl;have hcz11_2 : w10.cell? ⟨gb143,2,none⟩ = some (.int .i64 a0_2):=(zCl BK143.out 2).trans rfl;have hcz11_3 : w10.cell? ⟨gb143,3,none⟩ = some (.int .i64 a0_3):=(zCl BK143.out 3).trans rfl;have hfz11_0:=zFr BK143.out 0;have hfz11_1:=zFr BK143.out 1;have hfz11_2:=zFr BK143.out 2;have hfz11_3:=zFr BK143.out 3))
  go_ret
  exact ⟨by first | rfl | (simp [errW_none,errW_some] <;> rfl) | (simp [*,errW_none,errW_some] <;> rfl),hs1 HB GE143⟩
 rw [if_neg c2] at H;have c2b0 : (a0_0 == 1) = false:=beq_eq_false_iff_ne.mpr c2;have c2b1 : (a0_0 != 1) = true:=bne_iff_ne.mpr c2;have HC12:=zMk H;clear H
 go_enter Try.func18,Try.ntmps18
 go_upto_region 3 with (first | ((with_reducible refine gate_dst (N:=1) rfl ?_);refine box_event ?hg (N:=1) ?hd (cs:=#[.int .i64 a0_0,.int .i64 a0_1,.int .i64 a0_2,.int .i64 a0_3]) (t:=34) ?hr ?_;(case hd=>rfl);(case hg=>rfl);(case hr=>first | (go_simp;done) | (go_simp;rfl));intro gb143 hg w13 hbox hb;have n0_:=zMk (below_step (hs HB) hb);have n1_:=zMk (hbox);have n2_:=zMk ((by rw [hg];exact (below_size (hs HB)) : w.heap.size ≤ gb143));have n3_:=zMk ((by rw [hg];exact (below_size (hs HB)) : w.heap.size ≤ gb143));clear HB;have HB:=n0_;have BK143:=n1_;have GW143:=n2_;have GE143:=n3_;clear n0_ n1_ n2_ n3_;clear hb hbox hg;have hcz14_0 : w13.cell? ⟨gb143,0,none⟩ = some (.int .i64 a0_0):=(zCl BK143.out 0).trans rfl;have hcz14_1 : w13.cell? ⟨gb143,1,none⟩ = some (.int .i64 a0_1):=(zCl BK143.out 1).trans rfl;have hcz14_2 : w13.cell? ⟨gb143,2,none⟩ = some (.int .i64 a0_2):=(zCl BK143.out 2).trans rfl;have hcz14_3 : w13.cell? ⟨gb143,3,none⟩ = some (.int .i64 a0_3):=(zCl BK143.out 3).trans rfl;have hfz14_0:=zFr BK143.out 0;have hfz14_1:=zFr BK143.out 1;have hfz14_2:=zFr BK143.out 2;have hfz14_3:=zFr BK143.out 3))
 (try simp only [Act.put,List.setIfInBounds_toArray,List.set_cons_zero,List.set_cons_succ])
 go_cut [32] (fun v32 wc=>∃ (kq : Nat) (x32_11 : Bool),v32 = .bool x32_11 ∧ Aside0 (impl_RecOk.j0 kq x32_11 a0_0 a0_1 a0_2 a0_3 = some r) ∧ Aside0 (kq ≤ k) ∧ Aside0 (wc.heap[gb143]? = some (.cells #[.int .i64 a0_0,.int .i64 a0_1,.int .i64 a0_2,.int .i64 a0_3] 34 (0,0))) ∧ Aside0 (Below w.heap.size w wc))
 case first =>
  have H:=HC12.out;clear HC12;replace H:=Option.bind_eq_some_iff.mp H;obtain ⟨t145,A150,H⟩:=H;replace H : (if t145 = true then (if a0_0 = 4 then (impl_RecOk.j0 k false a0_0 a0_1 a0_2 a0_3) else (impl_RecOk.j0 k (a0_3 != 0) a0_0 a0_1 a0_2 a0_3)) else (impl_RecOk.j0 k true a0_0 a0_1 a0_2 a0_3)) = some r:=H;have A15:=zMk A150;clear A150
  by_cases c16 : t145 = true
  ·subst c16;have H1 : (if a0_0 = 4 then (impl_RecOk.j0 k false a0_0 a0_1 a0_2 a0_3) else (impl_RecOk.j0 k (a0_3 != 0) a0_0 a0_1 a0_2 a0_3)) = some r:=by rw [if_pos rfl] at H;exact H
   clear H;have H:=H1;clear H1
   by_cases c17 : a0_0 = 4
   ·rw [if_pos c17] at H;have c17b0 : (a0_0 == 4) = true:=beq_iff_eq.mpr c17;have c17b1 : (a0_0 != 4) = false:=bne_eq_false_iff_eq.mpr c17;clear c17
    (first | rw [c17b0] | (simp only [i64_w,i32_w];rw [c17b0]) | skip)
    have H':=zMk H;clear H;have hcz18_0 : w13.cell? ⟨gb143,0,none⟩ = some (.int .i64 a0_0):=(zCl BK143.out 0).trans rfl;have hcz18_1 : w13.cell? ⟨gb143,1,none⟩ = some (.int .i64 a0_1):=(zCl BK143.out 1).trans rfl;have hcz18_2 : w13.cell? ⟨gb143,2,none⟩ = some (.int .i64 a0_2):=(zCl BK143.out 2).trans rfl;have hcz18_3 : w13.cell? ⟨gb143,3,none⟩ = some (.int .i64 a0_3):=(zCl BK143.out 3).trans rfl;have hfz18_0:=zFr BK143.out 0;have hfz18_1:=zFr BK143.out 1;have hfz18_2:=zFr BK143.out 2;have hfz18_3:=zFr BK143.out 3;go_wp2_with (first | ((with_reducible refine gate_callee (f:=61) rfl ?_);refine goesL_ (some 21) rfl rfl Try.func61 (by kernel_rfl) rfl #[.int .i64 a0_1,.int .i64 1,.int .i64 9] rfl (by (try simp only [List.map_toArray,List.map_cons,List.map_nil]);first | done | rfl | (simp only [List.length_drop,List.length_take];rfl)) ?_;(with_reducible refine (impl_in.calls a0_1 1 9 true _ A15.out).mono ?_);rintro e w' ⟨rfl,⟨nd,rfl⟩⟩;refine ⟨_,rfl,?_⟩))
    go_meet
    case rel=>exact ⟨_,(false),(by first | rfl | (simp;done) | (simp [*];done)),H',⟨by first | omega | exact Nat.le_refl _⟩,⟨bs BK143⟩,⟨hs1 HB GE143⟩⟩
   rw [if_neg c17] at H;have c17b0 : (a0_0 == 4) = false:=beq_eq_false_iff_ne.mpr c17;have c17b1 : (a0_0 != 4) = true:=bne_iff_ne.mpr c17
   (first | rw [c17b0] | (simp only [i64_w,i32_w];rw [c17b0]) | skip)
   have H':=zMk H;clear H;have hcz19_0 : w13.cell? ⟨gb143,0,none⟩ = some (.int .i64 a0_0):=(zCl BK143.out 0).trans rfl;have hcz19_1 : w13.cell? ⟨gb143,1,none⟩ = some (.int .i64 a0_1):=(zCl BK143.out 1).trans rfl;have hcz19_2 : w13.cell? ⟨gb143,2,none⟩ = some (.int .i64 a0_2):=(zCl BK143.out 2).trans rfl;have hcz19_3 : w13.cell? ⟨gb143,3,none⟩ = some (.int .i64 a0_3):=(zCl BK143.out 3).trans rfl;have hfz19_0:=zFr BK143.out 0;have hfz19_1:=zFr BK143.out 1;have hfz19_2:=zFr BK143.out 2;have hfz19_3:=zFr BK143.out 3;go_wp2_with (first | ((with_reducible refine gate_callee (f:=61) rfl ?_);refine goesL_ (some 21) rfl rfl Try.func61 (by kernel_rfl) rfl #[.int .i64 a0_1,.int .i64 1,.int .i64 9] rfl (by (try simp only [List.map_toArray,List.map_cons,List.map_nil]);first | done | rfl | (simp only [List.length_drop,List.length_take];rfl)) ?_;(with_reducible refine (impl_in.calls a0_1 1 9 true _ A15.out).mono ?_);rintro e w' ⟨rfl,⟨nd,rfl⟩⟩;refine ⟨_,rfl,?_⟩))
   go_meet
   case rel=>exact ⟨_,((a0_3 != 0)),(by first | rfl | (simp;done) | (simp [*];done)),H',⟨by first | omega | exact Nat.le_refl _⟩,⟨bs BK143⟩,⟨hs1 HB GE143⟩⟩
  replace c16:=Bool.eq_false_iff.mpr c16;subst c16;have H1 : (impl_RecOk.j0 k true a0_0 a0_1 a0_2 a0_3) = some r:=by rw [if_neg (show ¬ (false = true) by decide)] at H;exact H
  clear H;have H:=H1;clear H1;have H':=zMk H;clear H;have hcz20_0 : w13.cell? ⟨gb143,0,none⟩ = some (.int .i64 a0_0):=(zCl BK143.out 0).trans rfl;have hcz20_1 : w13.cell? ⟨gb143,1,none⟩ = some (.int .i64 a0_1):=(zCl BK143.out 1).trans rfl;have hcz20_2 : w13.cell? ⟨gb143,2,none⟩ = some (.int .i64 a0_2):=(zCl BK143.out 2).trans rfl;have hcz20_3 : w13.cell? ⟨gb143,3,none⟩ = some (.int .i64 a0_3):=(zCl BK143.out 3).trans rfl;have hfz20_0:=zFr BK143.out 0;have hfz20_1:=zFr BK143.out 1;have hfz20_2:=zFr BK143.out 2;have hfz20_3:=zFr BK143.out 3;go_wp2_with (first | ((with_reducible refine gate_callee (f:=61) rfl ?_);refine goesL_ (some 21) rfl rfl Try.func61 (by kernel_rfl) rfl #[.int .i64 a0_1,.int .i64 1,.int .i64 9] rfl (by (try simp only [List.map_toArray,List.map_cons,List.map_nil]);first | done | rfl | (simp only [List.length_drop,List.length_take];rfl)) ?_;(with_reducible refine (impl_in.calls a0_1 1 9 false _ A15.out).mono ?_);rintro e w' ⟨rfl,⟨nd,rfl⟩⟩;refine ⟨_,rfl,?_⟩))
  go_meet
  case rel=>exact ⟨_,(true),(by first | rfl | (simp;done) | (simp [*];done)),H',⟨by first | omega | exact Nat.le_refl _⟩,⟨bs BK143⟩,⟨hs1 HB GE143⟩⟩
 case rest =>
  clear HC12
  try clear c1
  try clear c2
  try clear c2b0
  try clear c2b1
  try clear p2
  try clear c3
  try clear c3b0
  try clear c3b1
  try clear c5
  try clear c6
  try clear c16
  try clear c17
  try clear c17b0
  try clear c17b1
  try clear c18
  try clear hcz11_0
  try clear hcz11_1
  try clear hcz11_2
  try clear hcz11_3
  try clear hcz14_0
  try clear hcz14_1
  try clear hcz14_2
  try clear hcz14_3
  try clear hcz18_0
  try clear hcz18_1
  try clear hcz18_2
  try clear hcz18_3
  try clear hcz19_0
  try clear hcz19_1
  try clear hcz19_2
  try clear hcz19_3
  try clear hcz20_0
  try clear hcz20_1
  try clear hcz20_2
  try clear hcz20_3
  try clear hcz7_0
  try clear hcz7_1
  try clear hcz7_2
  try clear hcz7_3
  try clear hcz9_0
  try clear hcz9_1
  try clear hcz9_2
  try clear hcz9_3
  try clear hfz11_0
  try clear hfz11_1
  try clear hfz11_2
  try clear hfz11_3
  try clear hfz14_0
  try clear hfz14_1
  try clear hfz14_2
  try clear hfz14_3
  try clear hfz18_0
  try clear hfz18_1
  try clear hfz18_2
  try clear hfz18_3
  try clear hfz19_0
  try clear hfz19_1
  try clear hfz19_2
  try clear hfz19_3
  try clear hfz20_0
  try clear hfz20_1
  try clear hfz20_2
  try clear hfz20_3
  try clear hfz7_0
  try clear hfz7_1
  try clear hfz7_2
  try clear hfz7_3
  try clear hfz9_0
  try clear hfz9_1
  try clear hfz9_2
  try clear hfz9_3
  obtain ⟨kq,x32_11,rfl,HA,HJ11,BK143,HB⟩:=hcut;cases kq with
  | zero=>exact absurd HA.out (by simp [impl_RecOk.j0])
  | succ kj11 =>
   have H:=HA.out;clear HA;simp only [impl_RecOk.j0] at H
   by_cases c21 : x32_11 = true
   ·subst c21;have H1 : (some false) = some r:=by rw [if_pos rfl] at H;exact H
    clear H;have H:=H1;clear H1;obtain rfl:=Option.some.inj H
    go_wp2
    go_ret
    exact ⟨by first | rfl | (simp [errW_none,errW_some] <;> rfl) | (simp [*,errW_none,errW_some] <;> rfl),hs1 HB GE143⟩
   replace c21:=Bool.eq_false_iff.mpr c21;subst c21;have H1 : (if a0_0 = 2 then ((impl_in.f a0_2 0 9).bind fun t146=>(some t146)) else (if a0_0 = 3 then (some (a0_2 == 0)) else (if a0_0 = 4 then ((impl_in.f a0_2 0 15).bind fun t147=>(if t147 = true then ((impl_in.f a0_3 1 1000000000).bind fun t148=>(some t148)) else (some false))) else (if a0_0 = 5 then ((impl_in.f a0_2 0 15).bind fun t149=>(some t149)) else (some false))))) = some r:=by rw [if_neg (show ¬ (false = true) by decide)] at H;exact H
   clear H;have H:=H1;clear H1
   by_cases c22 : a0_0 = 2
   ·rw [if_pos c22] at H;have c22b0 : (a0_0 == 2) = true:=beq_iff_eq.mpr c22;have c22b1 : (a0_0 != 2) = false:=bne_eq_false_iff_eq.mpr c22;clear c22;replace H:=Option.bind_eq_some_iff.mp H;obtain ⟨t146,A230,H⟩:=H;replace H : (some t146) = some r:=H;have A23:=zMk A230;clear A230;obtain rfl:=Option.some.inj H;have hcz24_0 : wc.cell? ⟨gb143,0,none⟩ = some (.int .i64 a0_0):=(zCl BK143.out 0).trans rfl;have hcz24_1 : wc.cell? ⟨gb143,1,none⟩ = some (.int .i64 a0_1):=(zCl BK143.out 1).trans rfl;have hcz24_2 : wc.cell? ⟨gb143,2,none⟩ = some (.int .i64 a0_2):=(zCl BK143.out 2).trans rfl;have hcz24_3 : wc.cell? ⟨gb143,3,none⟩ = some (.int .i64 a0_3):=(zCl BK143.out 3).trans rfl;have hfz24_0:=zFr BK143.out 0;have hfz24_1:=zFr BK143.out 1;have hfz24_2:=zFr BK143.out 2;have hfz24_3:=zFr BK143.out 3;go_wp2_with (first | ((with_reducible refine gate_callee (f:=61) rfl ?_);refine goesL_ (some 39) rfl rfl Try.func61 (by kernel_rfl) rfl #[.int .i64 a0_2,.int .i64 0,.int .i64 9] rfl (by (try simp only [List.map_toArray,List.map_cons,List.map_nil]);first | done | rfl | (simp only [List.length_drop,List.length_take];rfl)) ?_;(with_reducible refine (impl_in.calls a0_2 0 9 t146 _ A23.out).mono ?_);rintro e w' ⟨rfl,⟨nd,rfl⟩⟩;refine ⟨_,rfl,?_⟩))
    go_ret
    exact ⟨by first | rfl | (simp [errW_none,errW_some] <;> rfl) | (simp [*,errW_none,errW_some] <;> rfl),hs1 HB GE143⟩
   rw [if_neg c22] at H;have c22b0 : (a0_0 == 2) = false:=beq_eq_false_iff_ne.mpr c22;have c22b1 : (a0_0 != 2) = true:=bne_iff_ne.mpr c22
   by_cases c25 : a0_0 = 3
   ·rw [if_pos c25] at H;have c25b0 : (a0_0 == 3) = true:=beq_iff_eq.mpr c25;have c25b1 : (a0_0 != 3) = false:=bne_eq_false_iff_eq.mpr c25;clear c25;obtain rfl:=Option.some.inj H;have hcz26_0 : wc.cell? ⟨gb143,0,none⟩ = some (.int .i64 a0_0):=(zCl BK143.out 0).trans rfl;have hcz26_1 : wc.cell? ⟨gb143,1,none⟩ = some (.int .i64 a0_1):=(zCl BK143.out 1).trans rfl;have hcz26_2 : wc.cell? ⟨gb143,2,none⟩ = some (.int .i64 a0_2):=(zCl BK143.out 2).trans rfl;have hcz26_3 : wc.cell? ⟨gb143,3,none⟩ = some (.int .i64 a0_3):=(zCl BK143.out 3).trans rfl;have hfz26_0:=zFr BK143.out 0;have hfz26_1:=zFr BK143.out 1;have hfz26_2:=zFr BK143.out 2;have hfz26_3:=zFr BK143.out 3
    go_wp2
    go_ret
    exact ⟨by first | rfl | (simp [errW_none,errW_some] <;> rfl) | (simp [*,errW_none,errW_some] <;> rfl),hs1 HB GE143⟩
   rw [if_neg c25] at H;have c25b0 : (a0_0 == 3) = false:=beq_eq_false_iff_ne.mpr c25;have c25b1 : (a0_0 != 3) = true:=bne_iff_ne.mpr c25
   by_cases c27 : a0_0 = 4
   ·rw [if_pos c27] at H;have c27b0 : (a0_0 == 4) = true:=beq_iff_eq.mpr c27;have c27b1 : (a0_0 != 4) = false:=bne_eq_false_iff_eq.mpr c27;clear c27;replace H:=Option.bind_eq_some_iff.mp H;obtain ⟨t147,A280,H⟩:=H;replace H : (if t147 = true then ((impl_in.f a0_3 1 1000000000).bind fun t148=>(some t148)) else (some false)) = some r:=H;have A28:=zMk A280;clear A280
    by_cases c29 : t147 = true
    ·subst c29;have H1 : ((impl_in.f a0_3 1 1000000000).bind fun t148=>(some t148)) = some r:=by rw [if_pos rfl] at H;exact H
     clear H;have H:=H1;clear H1;replace H:=Option.bind_eq_some_iff.mp H;obtain ⟨t148,A300,H⟩:=H;replace H : (some t148) = some r:=H;have A30:=zMk A300;clear A300;obtain rfl:=Option.some.inj H;have hcz31_0 : wc.cell? ⟨gb143,0,none⟩ = some (.int .i64 a0_0):=(zCl BK143.out 0).trans rfl;have hcz31_1 : wc.cell? ⟨gb143,1,none⟩ = some (.int .i64 a0_1):=(zCl BK143.out 1).trans rfl;have hcz31_2 : wc.cell? ⟨gb143,2,none⟩ = some (.int .i64 a0_2):=(zCl BK143.out 2).trans rfl;have hcz31_3 : wc.cell? ⟨gb143,3,none⟩ = some (.int .i64 a0_3):=(zCl BK143.out 3).trans rfl;have hfz31_0:=zFr BK143.out 0;have hfz31_1:=zFr BK143.out 1;have hfz31_2:=zFr BK143.out 2;have hfz31_3:=zFr BK143.out 3;go_wp2_with (first | ((with_reducible refine gate_callee (f:=61) rfl ?_);refine goesL_ (some 49) rfl rfl Try.func61 (by kernel_rfl) rfl #[.int .i64 a0_2,.int .i64 0,.int .i64 15] rfl (by (try simp only [List.map_toArray,List.map_cons,List.map_nil]);first | done | rfl | (simp only [List.length_drop,List.length_take];rfl)) ?_;(with_reducible refine (impl_in.calls a0_2 0 15 true _ A28.out).mono ?_);rintro e w' ⟨rfl,⟨nd,rfl⟩⟩;refine ⟨_,rfl,?_⟩) | (go_at_call 61;(with_reducible refine (impl_in.calls a0_3 1 1000000000 t148 _ A30.out).mono ?_);rintro e w' ⟨rfl,⟨nd,rfl⟩⟩))
     go_ret
     exact ⟨by first | rfl | (simp [errW_none,errW_some] <;> rfl) | (simp [*,errW_none,errW_some] <;> rfl),hs1 HB GE143⟩
    replace c29:=Bool.eq_false_iff.mpr c29;subst c29;have H1 : (some false) = some r:=by rw [if_neg (show ¬ (false = true) by decide)] at H;exact H
    clear H;have H:=H1;clear H1;obtain rfl:=Option.some.inj H;have hcz32_0 : wc.cell? ⟨gb143,0,none⟩ = some (.int .i64 a0_0):=(zCl BK143.out 0).trans rfl;have hcz32_1 : wc.cell? ⟨gb143,1,none⟩ = some (.int .i64 a0_1):=(zCl BK143.out 1).trans rfl;have hcz32_2 : wc.cell? ⟨gb143,2,none⟩ = some (.int .i64 a0_2):=(zCl BK143.out 2).trans rfl;have hcz32_3 : wc.cell? ⟨gb143,3,none⟩ = some (.int .i64 a0_3):=(zCl BK143.out 3).trans rfl;have hfz32_0:=zFr BK143.out 0;have hfz32_1:=zFr BK143.out 1;have hfz32_2:=zFr BK143.out 2;have hfz32_3:=zFr BK143.out 3;go_wp2_with (first | ((with_reducible refine gate_callee (f:=61) rfl ?_);refine goesL_ (some 49) rfl rfl Try.func61 (by kernel_rfl) rfl #[.int .i64 a0_2,.int .i64 0,.int .i64 15] rfl (by (try simp only [List.map_toArray,List.map_cons,List.map_nil]);first | done | rfl | (simp only [List.length_drop,List.length_take];rfl)) ?_;(with_reducible refine (impl_in.calls a0_2 0 15 false _ A28.out).mono ?_);rintro e w' ⟨rfl,⟨nd,rfl⟩⟩;refine ⟨_,rfl,?_⟩))
    go_ret
    exact ⟨by first | rfl | (simp [errW_none,errW_some] <;> rfl) | (simp [*,errW_none,errW_some] <;> rfl),hs1 HB GE143⟩
   rw [if_neg c27] at H;have c27b0 : (a0_0 == 4) = false:=beq_eq_false_iff_ne.mpr c27;have c27b1 : (a0_0 != 4) = true:=bne_iff_ne.mpr c27
   by_cases c33 : a0_0 = 5
   ·rw [if_pos c33] at H;have c33b0 : (a0_0 == 5) = true:=beq_iff_eq.mpr c33;have c33b1 : (a0_0 != 5) = false:=bne_eq_false_iff_eq.mpr c33;clear c33;replace H:=Option.bind_eq_some_iff.mp H;obtain ⟨t149,A340,H⟩:=H;replace H : (some t149) = some r:=H;have A34:=zMk A340;clear A340;obtain rfl:=Option.some.inj H;have hcz35_0 : wc.cell? ⟨gb143,0,none⟩ = some (.int .i64 a0_0):=(zCl BK143.out 0).trans rfl;have hcz35_1 : wc.cell? ⟨gb143,1,none⟩ = some (.int .i64 a0_1):=(zCl BK143.out 1).trans rfl;have hcz35_2 : wc.cell? ⟨gb143,2,none⟩ = some (.int .i64 a0_2):=(zCl BK143.out 2).trans rfl;have hcz35_3 : wc.cell? ⟨gb143,3,none⟩ = some (.int .i64 a0_3):=(zCl BK143.out 3).trans rfl;have hfz35_0:=zFr BK143.out 0;have hfz35_1:=zFr BK143.out 1;have hfz35_2:=zFr BK143.out 2;have hfz35_3:=zFr BK143.out 3;go_wp2_with (first | ((with_reducible refine gate_callee (f:=61) rfl ?_);refine goesL_ (some 59) rfl rfl Try.func61 (by kernel_rfl) rfl #[.int .i64 a0_2,.int .i64 0,.int .i64 15] rfl (by (try simp only [List.map_toArray,List.map_cons,List.map_nil]);first | done | rfl | (simp only [List.length_drop,List.length_take];rfl)) ?_;(with_reducible refine (impl_in.calls a0_2 0 15 t149 _ A34.out).mono ?_);rintro e w' ⟨rfl,⟨nd,rfl⟩⟩;refine ⟨_,rfl,?_⟩))
    go_ret
    exact ⟨by first | rfl | (simp [errW_none,errW_some] <;> rfl) | (simp [*,errW_none,errW_some] <;> rfl),hs1 HB GE143⟩
   rw [if_neg c33] at H;have c33b0 : (a0_0 == 5) = false:=beq_eq_false_iff_ne.mpr c33;have c33b1 : (a0_0 != 5) = true:=bne_iff_ne.mpr c33;obtain rfl:=Option.some.inj H;have hcz36_0 : wc.cell? ⟨gb143,0,none⟩ = some (.int .i64 a0_0):=(zCl BK143.out 0).trans rfl;have hcz36_1 : wc.cell? ⟨gb143,1,none⟩ = some (.int .i64 a0_1):=(zCl BK143.out 1).trans rfl;have hcz36_2 : wc.cell? ⟨gb143,2,none⟩ = some (.int .i64 a0_2):=(zCl BK143.out 2).trans rfl;have hcz36_3 : wc.cell? ⟨gb143,3,none⟩ = some (.int .i64 a0_3):=(zCl BK143.out 3).trans rfl;have hfz36_0:=zFr BK143.out 0;have hfz36_1:=zFr BK143.out 1;have hfz36_2:=zFr BK143.out 2;have hfz36_3:=zFr BK143.out 3
   go_wp2
   go_ret
   exact ⟨by first | rfl | (simp [errW_none,errW_some] <;> rfl) | (simp [*,errW_none,errW_some] <;> rfl),hs1 HB GE143⟩
end Go.Proofs.Ytcpgpchdplpfiaa.PR

namespace Go.Proofs.Ytcpgpchdplpfiaa.PR
open Go.RowKit Go.Proofs.YtcpgpchdplpfiaaW.PrintWords Go.Proofs.YtcpgpchdplpfiaaW.PrintLast Go.Proofs.YtcpgpchdplpfiaaW.PrintMore
attribute [local go_sem] max2_int min2_int max_two min_two max_three min_three max_four min_four   -- for this text's walks alone
set_option linter.unusedVariables false
set_option linter.unusedSimpArgs false
mutual
def impl_ReadVar.l0 : Nat → ByteArray → Int → Int → Int → Option (Int × Int × Bool)
 | 0,_,_,_,_=>none
 | k + 1,x0,x1,x7,x8=>if x8 < 5 then (if x1 ≥ 0 then (impl_ReadVar.j1 k x0 x1 x7 x8 (decide (x1 < (wrap64 ((x0.size : Int) - x8))))) else (impl_ReadVar.j1 k x0 x1 x7 x8 false)) else (impl_ReadVar.j1 k x0 x1 x7 x8 false)
def impl_ReadVar.j1 : Nat → ByteArray → Int → Int → Int → Bool → Option (Int × Int × Bool)
 | 0,_,_,_,_,_=>none
 | k + 1,x0,x1,x7,x8,x23=>if x23 = true then (if 0 ≤ (wrap64 (x1 + x8)) then (if (wrap64 (x1 + x8)) < (x0.size : Int) then (if 0 ≤ (wrap64 (7 * x8)) then (if (wrap64 (bt x0 (wrap64 (x1 + x8)))) ≥ 128 then (impl_ReadVar.l0 k x0 x1 (wrap64 (x7 + (shl .i64 (Int.tmod (wrap64 (bt x0 (wrap64 (x1 + x8)))) 128) (wrap64 (7 * x8))))) (wrap64 (x8 + 1))) else (if (wrap64 (bt x0 (wrap64 (x1 + x8)))) = 0 then (if x8 > 0 then (some (0,0,false)) else (if (wrap64 (x7 + (shl .i64 (Int.tmod (wrap64 (bt x0 (wrap64 (x1 + x8)))) 128) (wrap64 (7 * x8))))) > 1000000000 then (some (0,0,false)) else (some (wrap64 (x7 + (shl .i64 (Int.tmod (wrap64 (bt x0 (wrap64 (x1 + x8)))) 128) (wrap64 (7 * x8)))),wrap64 ((wrap64 (x1 + x8)) + 1),true)))) else (if (wrap64 (x7 + (shl .i64 (Int.tmod (wrap64 (bt x0 (wrap64 (x1 + x8)))) 128) (wrap64 (7 * x8))))) > 1000000000 then (some (0,0,false)) else (some (wrap64 (x7 + (shl .i64 (Int.tmod (wrap64 (bt x0 (wrap64 (x1 + x8)))) 128) (wrap64 (7 * x8)))),wrap64 ((wrap64 (x1 + x8)) + 1),true))))) else (none)) else (none)) else (none)) else (some (0,0,false))
end
def impl_ReadVar.f (k : Nat) (a0 : ByteArray) (a1 : Int) : Option (Int × Int × Bool):=impl_ReadVar.l0 k a0 a1 0 0
theorem impl_ReadVar.mono_l : ∀ k,(∀ y0 y1 y2 y3,LeO (impl_ReadVar.l0 k y0 y1 y2 y3) (impl_ReadVar.l0 (k + 1) y0 y1 y2 y3)) ∧ (∀ y0 y1 y2 y3 y4,LeO (impl_ReadVar.j1 k y0 y1 y2 y3 y4) (impl_ReadVar.j1 (k + 1) y0 y1 y2 y3 y4))
 | 0=>⟨fun _ _ _ _ r h=>by simp [impl_ReadVar.l0] at h,fun _ _ _ _ _ r h=>by simp [impl_ReadVar.j1] at h⟩
 | k + 1=>by
  obtain ⟨ih0,ih1⟩:=impl_ReadVar.mono_l k;refine ⟨?_,?_⟩
  ·intro y0 y1 y2 y3;unfold impl_ReadVar.l0
   repeat' first
   | (with_reducible exact ih0 _ _ _ _)
   | (with_reducible exact ih1 _ _ _ _ _)
   | (with_reducible exact LeO.refl _)
   | (with_reducible exact LeO.none _)
   | (with_reducible refine LeO.ite ?_ ?_)
   | (with_reducible refine LeO.bind ?_ (fun _=>?_))
   | exact ih0 _ _ _ _
   | exact ih1 _ _ _ _ _
   | exact LeO.none _
   | refine LeO.ite ?_ ?_
   | refine LeO.bind ?_ (fun _=>?_)
  intro y0 y1 y2 y3 y4;unfold impl_ReadVar.j1
  repeat' first
  | (with_reducible exact ih0 _ _ _ _)
  | (with_reducible exact ih1 _ _ _ _ _)
  | (with_reducible exact LeO.refl _)
  | (with_reducible exact LeO.none _)
  | (with_reducible refine LeO.ite ?_ ?_)
  | (with_reducible refine LeO.bind ?_ (fun _=>?_))
  | exact ih0 _ _ _ _
  | exact ih1 _ _ _ _ _
  | exact LeO.none _
  | refine LeO.ite ?_ ?_
  | refine LeO.bind ?_ (fun _=>?_)
theorem impl_ReadVar.mono : ∀ a0 a1 k,LeO (impl_ReadVar.f k a0 a1) (impl_ReadVar.f (k + 1) a0 a1):=by
 intro a0 a1 k;obtain ⟨ih0,ih1⟩:=impl_ReadVar.mono_l k;unfold impl_ReadVar.f
 repeat' first
   | (with_reducible exact ih0 _ _ _ _)
   | (with_reducible exact ih1 _ _ _ _ _)
   | (with_reducible exact LeO.refl _)
   | (with_reducible exact LeO.none _)
   | (with_reducible refine LeO.ite ?_ ?_)
   | (with_reducible refine LeO.bind ?_ (fun _=>?_))
   | exact ih0 _ _ _ _
   | exact ih1 _ _ _ _ _
   | exact LeO.none _
   | refine LeO.ite ?_ ?_
   | refine LeO.bind ?_ (fun _=>?_)
set_option maxHeartbeats 8000000 in
set_option maxRecDepth 100000 in
theorem impl_ReadVar.calls (k : Nat) (a0 : ByteArray) (a1 : Int) (r1 : Int) (r2 : Int) (r3 : Bool) (w : World) (h : impl_ReadVar.f k a0 a1 = some (r1,r2,r3)) :
  Calls Try.prog 56 #[.string a0,.int .i64 a1] w fun e w'=>e = .returned (.tuple #[.int .i64 r1,.int .i64 r2,.bool r3]) ∧ Drawn0 w w':=by
 have H : (impl_ReadVar.l0 k a0 a1 0 0) = some (r1,r2,r3):=h;clear h;have H':=zMk H;clear H
 go_enter Try.func56,Try.ntmps56
 go_wp2
 go_loopg [7,8] k (fun kq v7 v8 w'=>∃ (x7_1 : Int) (x8_1 : Int),v7 = .int .i64 x7_1 ∧ v8 = .int .i64 x8_1 ∧ Aside0 (impl_ReadVar.l0 kq a0 a1 x7_1 x8_1 = some (r1,r2,r3)) ∧ Aside0 (kq ≤ k) ∧ Drawn0 w w');case atStart=>exact ⟨(0),(0),(by first | rfl | (simp;done) | (simp [*];done)),(by first | rfl | (simp;done) | (simp [*];done)),H',⟨Nat.le_refl _⟩,by repeat (first | exact Drawn0.refl _ | apply Drawn0.step)⟩
 case round =>
  clear H'
  try clear p2
  obtain ⟨x7_1,x8_1,rfl,rfl,HA,HK1,⟨m1,rfl⟩⟩:=hrel;cases gk with
  | zero=>exact absurd HA.out (by simp [impl_ReadVar.l0])
  | succ k1 =>
   have H:=HA.out;clear HA;simp only [impl_ReadVar.l0] at H;have HC3:=zMk H;clear H;go_upto_region 3 with (fail);go_cut [23] (fun v23 wc=>∃ (kq : Nat) (x23_2 : Bool),v23 = .bool x23_2 ∧ Aside0 (impl_ReadVar.j1 kq a0 a1 x7_1 x8_1 x23_2 = some (r1,r2,r3)) ∧ Aside0 (kq ≤ k1) ∧ Drawn0 w wc)
   case first =>
    have H:=HC3.out;clear HC3
    by_cases c4 : x8_1 < 5
    ·rw [if_pos c4] at H;have c4b0 : decide (x8_1 < 5) = true:=decide_eq_true c4;clear c4
     (first | rw [c4b0] | (simp only [i64_w,i32_w];rw [c4b0]) | skip)
     by_cases c5 : a1 ≥ 0
     ·rw [if_pos c5] at H;have c5b0 : decide (0 ≤ a1) = true:=decide_eq_true c5;clear c5;have H':=zMk H;clear H
      go_wp2
      go_meet
      case rel=>exact ⟨_,(decide (a1 < (wrap64 ((a0.size : Int) - x8_1)))),(by first | rfl | (simp;done) | (simp [*];done)),H',⟨by have:=HK1.out;first | omega | exact Nat.le_refl _⟩,by repeat (first | exact Drawn0.refl _ | apply Drawn0.step)⟩
     rw [if_neg c5] at H;have c5b0 : decide (0 ≤ a1) = false:=decide_eq_false c5;clear c5;have H':=zMk H;clear H
     go_wp2
     go_meet
     case rel=>exact ⟨_,(false),(by first | rfl | (simp;done) | (simp [*];done)),H',⟨by have:=HK1.out;first | omega | exact Nat.le_refl _⟩,by repeat (first | exact Drawn0.refl _ | apply Drawn0.step)⟩
    rw [if_neg c4] at H;have c4b0 : decide (x8_1 < 5) = false:=decide_eq_false c4;clear c4
    (first | rw [c4b0] | (simp only [i64_w,i32_w];rw [c4b0]) | skip)
    have H':=zMk H;clear H
    go_wp2
    go_meet
    case rel=>exact ⟨_,(false),(by first | rfl | (simp;done) | (simp [*];done)),H',⟨by have:=HK1.out;first | omega | exact Nat.le_refl _⟩,by repeat (first | exact Drawn0.refl _ | apply Drawn0.step)⟩
   case rest =>
    clear HC3
    try clear p2
    try clear c4
    try clear c4b0
    try clear c5
    try clear c5b0
    try clear p2
    obtain ⟨kq,x23_2,rfl,HA,HJ2,⟨mc2,rfl⟩⟩:=hcut;cases kq with
    | zero=>exact absurd HA.out (by simp [impl_ReadVar.j1])
    | succ kj2 =>
     have H:=HA.out;clear HA;simp only [impl_ReadVar.j1] at H
     by_cases c6 : x23_2 = true
     ·subst c6;have H1 : (if 0 ≤ (wrap64 (a1 + x8_1)) then (if (wrap64 (a1 + x8_1)) < (a0.size : Int) then (if 0 ≤ (wrap64 (7 * x8_1)) then (if (wrap64 (bt a0 (wrap64 (a1 + x8_1)))) ≥ 128 then (impl_ReadVar.l0 kj2 a0 a1 (wrap64 (x7_1 + (shl .i64 (Int.tmod (wrap64 (bt a0 (wrap64 (a1 + x8_1)))) 128) (wrap64 (7 * x8_1))))) (wrap64 (x8_1 + 1))) else (if (wrap64 (bt a0 (wrap64 (a1 + x8_1)))) = 0 then (if x8_1 > 0 then (some (0,0,false)) else (if (wrap64 (x7_1 + (shl .i64 (Int.tmod (wrap64 (bt a0 (wrap64 (a1 + x8_1)))) 128) (wrap64 (7 * x8_1))))) > 1000000000 then (some (0,0,false)) else (some (wrap64 (x7_1 + (shl .i64 (Int.tmod (wrap64 (bt a0 (wrap64 (a1 + x8_1)))) 128) (wrap64 (7 * x8_1)))),wrap64 ((wrap64 (a1 + x8_1)) + 1),true)))) else (if (wrap64 (x7_1 + (shl .i64 (Int.tmod (wrap64 (bt a0 (wrap64 (a1 + x8_1)))) 128) (wrap64 (7 * x8_1))))) > 1000000000 then (some (0,0,false)) else (some (wrap64 (x7_1 + (shl .i64 (Int.tmod (wrap64 (bt a0 (wrap64 (a1 + x8_1)))) 128) (wrap64 (7 * x8_1)))),wrap64 ((wrap64 (a1 + x8_1)) + 1),true))))) else (none)) else (none)) else (none)) = some (r1,r2,r3):=by rw [if_pos rfl] at H;exact H
      clear H;have H:=H1;clear H1;obtain ⟨ji7,hji7⟩ : ∃ j_ : Int,(wrap64 (a1 + x8_1)) = j_:=⟨_,rfl⟩;replace H : (if 0 ≤ (ji7) then (if (ji7) < (a0.size : Int) then (if 0 ≤ (wrap64 (7 * x8_1)) then (if (wrap64 (bt a0 (ji7))) ≥ 128 then (impl_ReadVar.l0 kj2 a0 a1 (wrap64 (x7_1 + (shl .i64 (Int.tmod (wrap64 (bt a0 (ji7))) 128) (wrap64 (7 * x8_1))))) (wrap64 (x8_1 + 1))) else (if (wrap64 (bt a0 (ji7))) = 0 then (if x8_1 > 0 then (some (0,0,false)) else (if (wrap64 (x7_1 + (shl .i64 (Int.tmod (wrap64 (bt a0 (ji7))) 128) (wrap64 (7 * x8_1))))) > 1000000000 then (some (0,0,false)) else (some (wrap64 (x7_1 + (shl .i64 (Int.tmod (wrap64 (bt a0 (ji7))) 128) (wrap64 (7 * x8_1)))),wrap64 ((ji7) + 1),true)))) else (if (wrap64 (x7_1 + (shl .i64 (Int.tmod (wrap64 (bt a0 (ji7))) 128) (wrap64 (7 * x8_1))))) > 1000000000 then (some (0,0,false)) else (some (wrap64 (x7_1 + (shl .i64 (Int.tmod (wrap64 (bt a0 (ji7))) 128) (wrap64 (7 * x8_1)))),wrap64 ((ji7) + 1),true))))) else (none)) else (none)) else (none)) = some (r1,r2,r3):=by first | (rw [hji7] at H;exact H) | (simp only [hji7] at H ⊢;exact H)
      have hji7w : (IntKind.i64.wrap (a1 + x8_1)) = ji7:=(i64_w _).trans hji7
      by_cases c8 : 0 ≤ (ji7)
      ·rw [if_pos c8] at H;have c8b0 : decide (0 ≤ (ji7)) = true:=decide_eq_true c8;clear c8
       by_cases c9 : (ji7) < (a0.size : Int)
       ·rw [if_pos c9] at H;have c9b0 : decide ((ji7) < (a0.size : Int)) = true:=decide_eq_true c9;clear c9;obtain ⟨ji11,hji11⟩ : ∃ j_ : Int,(wrap64 (7 * x8_1)) = j_:=⟨_,rfl⟩;replace H : (if 0 ≤ (ji11) then (if (wrap64 (bt a0 (ji7))) ≥ 128 then (impl_ReadVar.l0 kj2 a0 a1 (wrap64 (x7_1 + (shl .i64 (Int.tmod (wrap64 (bt a0 (ji7))) 128) (ji11)))) (wrap64 (x8_1 + 1))) else (if (wrap64 (bt a0 (ji7))) = 0 then (if x8_1 > 0 then (some (0,0,false)) else (if (wrap64 (x7_1 + (shl .i64 (Int.tmod (wrap64 (bt a0 (ji7))) 128) (ji11)))) > 1000000000 then (some (0,0,false)) else (some (wrap64 (x7_1 + (shl .i64 (Int.tmod (wrap64 (bt a0 (ji7))) 128) (ji11))),wrap64 ((ji7) + 1),true)))) else (if (wrap64 (x7_1 + (shl .i64 (Int.tmod (wrap64 (bt a0 (ji7))) 128) (ji11)))) > 1000000000 then (some (0,0,false)) else (some (wrap64 (x7_1 + (shl .i64 (Int.tmod (wrap64 (bt a0 (ji7))) 128) (ji11))),wrap64 ((ji7) + 1),true))))) else (none)) = some (r1,r2,r3):=by first | (rw [hji11] at H;exact H) | (simp only [hji11] at H ⊢;exact H)
        have hji11w : (IntKind.i64.wrap (7 * x8_1)) = ji11:=(i64_w _).trans hji11
        by_cases c12 : 0 ≤ (ji11)
        ·rw [if_pos c12] at H;have c12b0:=eq_true c12;have c12b1 : decide (0 ≤ (ji11)) = true:=decide_eq_true c12;clear c12;obtain ⟨ji13,hji13⟩ : ∃ j_ : Int,(shl .i64 (Int.tmod (wrap64 (bt a0 (ji7))) 128) (ji11)) = j_:=⟨_,rfl⟩;replace H : (if (wrap64 (bt a0 (ji7))) ≥ 128 then (impl_ReadVar.l0 kj2 a0 a1 (wrap64 (x7_1 + (ji13))) (wrap64 (x8_1 + 1))) else (if (wrap64 (bt a0 (ji7))) = 0 then (if x8_1 > 0 then (some (0,0,false)) else (if (wrap64 (x7_1 + (ji13))) > 1000000000 then (some (0,0,false)) else (some (wrap64 (x7_1 + (ji13)),wrap64 ((ji7) + 1),true)))) else (if (wrap64 (x7_1 + (ji13))) > 1000000000 then (some (0,0,false)) else (some (wrap64 (x7_1 + (ji13)),wrap64 ((ji7) + 1),true))))) = some (r1,r2,r3):=by first | (rw [hji13] at H;exact H) | (simp only [hji13] at H ⊢;exact H)
         have hji13_ : (IntKind.i64.wrap ((Int.tmod (wrap64 (bt a0 (ji7))) 128) * 2 ^ min (ji11).toNat 64)) = ji13:=hji13;have hji13z : (ji11) ≤ 64 → (IntKind.i64.wrap ((Int.tmod (wrap64 (bt a0 (ji7))) 128) * 2 ^ (ji11).toNat)) = ji13:=shl_small hji13;have hji13y : (wrap64 ((Int.tmod (wrap64 (bt a0 (ji7))) 128) * 2 ^ min (ji11).toNat 64)) = ji13:=(i64_w _).symm.trans hji13_;have hji13x : (ji11) ≤ 64 → (wrap64 ((Int.tmod (wrap64 (bt a0 (ji7))) 128) * 2 ^ (ji11).toNat)) = ji13:=fun h_=>(i64_w _).symm.trans (hji13z h_)
         by_cases c14 : (wrap64 (bt a0 (ji7))) ≥ 128
         ·rw [if_pos c14] at H;have c14b0 : decide (128 ≤ (wrap64 (bt a0 (ji7)))) = true:=decide_eq_true c14;clear c14;have H':=zMk H;clear H;have p10 : 0 ≤ ((ji7) : Int):=of_decide_eq_true (by first | (with_reducible assumption) | assumption);have q10 : (ji7) < (a0.size : Int):=of_decide_eq_true (by first | (with_reducible assumption) | assumption);have hx10:=bt_at a0 (ji7);replace p10:=eq_true p10;replace q10:=eq_true q10
          go_wp2
          go_roundg kj2;case measure=>have:=HK1.out;have:=HJ2.out;omega
          case rel=>exact ⟨(wrap64 (x7_1 + (ji13))),(wrap64 (x8_1 + 1)),(by first | rfl | (simp;done) | (simp only [← hji13] <;> (first | rfl | simp)) | (simp [*];done)),(by first | rfl | (simp;done) | (simp [*];done)),H',⟨by have:=HK1.out;have:=HJ2.out;omega⟩,by repeat (first | exact Drawn0.refl _ | apply Drawn0.step)⟩
         rw [if_neg c14] at H;have c14b0 : decide (128 ≤ (wrap64 (bt a0 (ji7)))) = false:=decide_eq_false c14;clear c14
         by_cases c15 : (wrap64 (bt a0 (ji7))) = 0
         ·rw [if_pos c15] at H;have c15b0 : ((wrap64 (bt a0 (ji7))) == 0) = true:=beq_iff_eq.mpr c15;have c15b1 : ((wrap64 (bt a0 (ji7))) != 0) = false:=bne_eq_false_iff_eq.mpr c15;clear c15
          by_cases c16 : x8_1 > 0
          ·rw [if_pos c16] at H;have c16b0 : decide (0 < x8_1) = true:=decide_eq_true c16;clear c16;simp only [Option.some.injEq,Prod.mk.injEq] at H;obtain ⟨rfl,rfl,rfl⟩:=H;have p10 : 0 ≤ ((ji7) : Int):=of_decide_eq_true (by first | (with_reducible assumption) | assumption);have q10 : (ji7) < (a0.size : Int):=of_decide_eq_true (by first | (with_reducible assumption) | assumption);have hx10:=bt_at a0 (ji7);replace p10:=eq_true p10;replace q10:=eq_true q10
           go_wp2
           go_ret3
           exact ⟨by first | rfl | (simp;done) | (simp only [← hji7,← hji11,← hji13] <;> (first | rfl | simp)) | (simp [*];done),by repeat (first | exact Drawn0.refl _ | apply Drawn0.step)⟩
          rw [if_neg c16] at H;have c16b0 : decide (0 < x8_1) = false:=decide_eq_false c16;clear c16
          by_cases c17 : (wrap64 (x7_1 + (ji13))) > 1000000000
          ·rw [if_pos c17] at H;have c17b0 : decide (1000000000 < (wrap64 (x7_1 + (ji13)))) = true:=decide_eq_true c17;clear c17;simp only [Option.some.injEq,Prod.mk.injEq] at H;obtain ⟨rfl,rfl,rfl⟩:=H;have p10 : 0 ≤ ((ji7) : Int):=of_decide_eq_true (by first | (with_reducible assumption) | assumption);have q10 : (ji7) < (a0.size : Int):=of_decide_eq_true (by first | (with_reducible assumption) | assumption);have hx10:=bt_at a0 (ji7);replace p10:=eq_true p10;replace q10:=eq_true q10
           go_wp2
           go_ret3
           exact ⟨by first | rfl | (simp;done) | (simp only [← hji7,← hji11,← hji13] <;> (first | rfl | simp)) | (simp [*];done),by repeat (first | exact Drawn0.refl _ | apply Drawn0.step)⟩
          rw [if_neg c17] at H;have c17b0 : decide (1000000000 < (wrap64 (x7_1 + (ji13)))) = false:=decide_eq_false c17;clear c17;simp only [Option.some.injEq,Prod.mk.injEq] at H;obtain ⟨rfl,rfl,rfl⟩:=H;have p10 : 0 ≤ ((ji7) : Int):=of_decide_eq_true (by first | (with_reducible assumption) | assumption);have q10 : (ji7) < (a0.size : Int):=of_decide_eq_true (by first | (with_reducible assumption) | assumption);have hx10:=bt_at a0 (ji7);replace p10:=eq_true p10;replace q10:=eq_true q10
          go_wp2
          go_ret3
          exact ⟨by first | rfl | (simp;done) | (simp only [← hji7,← hji11,← hji13] <;> (first | rfl | simp)) | (simp [*];done),by repeat (first | exact Drawn0.refl _ | apply Drawn0.step)⟩
         rw [if_neg c15] at H;have c15b0 : ((wrap64 (bt a0 (ji7))) == 0) = false:=beq_eq_false_iff_ne.mpr c15;have c15b1 : ((wrap64 (bt a0 (ji7))) != 0) = true:=bne_iff_ne.mpr c15
         by_cases c18 : (wrap64 (x7_1 + (ji13))) > 1000000000
         ·rw [if_pos c18] at H;have c18b0 : decide (1000000000 < (wrap64 (x7_1 + (ji13)))) = true:=decide_eq_true c18;clear c18;simp only [Option.some.injEq,Prod.mk.injEq] at H;obtain ⟨rfl,rfl,rfl⟩:=H;have p10 : 0 ≤ ((ji7) : Int):=of_decide_eq_true (by first | (with_reducible assumption) | assumption);have q10 : (ji7) < (a0.size : Int):=of_decide_eq_true (by first | (with_reducible assumption) | assumption);have hx10:=bt_at a0 (ji7);replace p10:=eq_true p10;replace q10:=eq_true q10
          go_wp2
          go_ret3
          exact ⟨by first | rfl | (simp;done) | (simp only [← hji7,← hji11,← hji13] <;> (first | rfl | simp)) | (simp [*];done),by repeat (first | exact Drawn0.refl _ | apply Drawn0.step)⟩
         rw [if_neg c18] at H;have c18b0 : decide (1000000000 < (wrap64 (x7_1 + (ji13)))) = false:=decide_eq_false c18;clear c18;simp only [Option.some.injEq,Prod.mk.injEq] at H;obtain ⟨rfl,rfl,rfl⟩:=H;have p10 : 0 ≤ ((ji7) : Int):=of_decide_eq_true (by first | (with_reducible assumption) | assumption);have q10 : (ji7) < (a0.size : Int):=of_decide_eq_true (by first | (with_reducible assumption) | assumption);have hx10:=bt_at a0 (ji7);replace p10:=eq_true p10;replace q10:=eq_true q10
         go_wp2
         go_ret3
         exact ⟨by first | rfl | (simp;done) | (simp only [← hji7,← hji11,← hji13] <;> (first | rfl | simp)) | (simp [*];done),by repeat (first | exact Drawn0.refl _ | apply Drawn0.step)⟩
        rw [if_neg c12] at H;exact absurd H (by simp)
       rw [if_neg c9] at H;exact absurd H (by simp)
      rw [if_neg c8] at H;exact absurd H (by simp)
     replace c6:=Bool.eq_false_iff.mpr c6;subst c6;have H1 : (some (0,0,false)) = some (r1,r2,r3):=by rw [if_neg (show ¬ (false = true) by decide)] at H;exact H
     clear H;have H:=H1;clear H1;simp only [Option.some.injEq,Prod.mk.injEq] at H;obtain ⟨rfl,rfl,rfl⟩:=H
     go_wp2
     go_ret3
     exact ⟨by first | rfl | (simp;done) | (simp [*];done),by repeat (first | exact Drawn0.refl _ | apply Drawn0.step)⟩
end Go.Proofs.Ytcpgpchdplpfiaa.PR
