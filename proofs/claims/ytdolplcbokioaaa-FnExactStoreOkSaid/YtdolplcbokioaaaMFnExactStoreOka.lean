/- FnExactStoreOk: functions of the translation as Lean functions with what their calls come to, plain lemmas on them, and, at the end, the row. Parts of one proof, merged by a program of this session; each part's own sentence stands at its head. -/
import Derived.Test.YtdolplcbokioaaaProg
import Derived.Below
import Derived.Deep.Draws
import Derived.Deep.AppendLies
import Derived.Maps.AppendAt
import Derived.OwnWalk
import Derived.Laws.BytesArg
import Derived.Laws.MakeOwn
import Derived.Laws.OwnMore
import Derived.Deep.OwnRows
import Derived.Tactics
import Derived.Lib.ConvBytes
import Derived.Laws.Slices
import Derived.WalkKit
import Derived.KernelRfl
import Derived.RowKit3
import Derived.Deep.LoopGhost
import Derived.Deep.QuietTactic
import Derived.BigQuiet
import Derived.WideLaws
import Derived.Deep.DeepCutAuto
import Derived.Deep.CutBlock
import Derived.Deep.RegionHeld3
import Derived.Laws.Rows
import Derived.Lib.AppendStr
import Derived.ArgAppend
import Derived.Laws.IdiomCopy
import Derived.OrdersHeld
import Derived.Laws.BitsLemmas
import Derived.RowKit
import Derived.Test.YtdolplcbokioaaaMFnExactStoreOkwa
/- Short words for facts that are carried over worlds that only drew or made an object. -/
namespace Go.Proofs.YtdolplcbokioaaaW.PrintWords
open Go.RowKit

inductive Strip (w0 : World) : World → Prop
  | refl : Strip w0 w0
  | alloc {w : World} (h : Strip w0 w) (o : Obj) : Strip w0 (w.alloc o)
  | drew {w : World} (h : Strip w0 w) : Strip w0 w.drew
  | drewN {w : World} (h : Strip w0 w) (m : Nat) : Strip w0 (w.drewN m)
theorem rs {α : Type} {d : Kd α} {e : TypeId} {w0 w : World} {base : Nat} {ok : Nat → Prop} {v : Value} {xs : List α} (a : Aside0 (d.R e w0 base ok v xs))
    (s : Strip w0 w := by (with_reducible repeat (first | refine Strip.alloc ?_ _ | refine Strip.drewN ?_ _ | refine Strip.drew ?_)); with_reducible exact Strip.refl) : d.R e w base ok v xs := by
  induction s with
  | refl => exact a.out
  | alloc _ o ih => exact Kd.R_alloc ih o
  | drew _ ih => exact Kd.R_drew ih
  | drewN _ m ih => exact Kd.R_drewN ih m
theorem bs {w0 w : World} {g : Nat} {o : Obj} (a : Aside0 (w0.heap[g]? = some o))
    (s : Strip w0 w := by (with_reducible repeat (first | refine Strip.alloc ?_ _ | refine Strip.drewN ?_ _ | refine Strip.drew ?_)); with_reducible exact Strip.refl) : w.heap[g]? = some o := by
  induction s with
  | refl => exact a.out
  | alloc _ o ih => exact blk_alloc ih o
  | drew _ ih => exact blk_drew ih
  | drewN _ m ih => exact blk_drewN ih m
theorem hs {u w0 w : World} (a : Aside0 (Below u.heap.size u w0))
    (s : Strip w0 w := by (with_reducible repeat (first | refine Strip.alloc ?_ _ | refine Strip.drewN ?_ _ | refine Strip.drew ?_)); with_reducible exact Strip.refl) : Below u.heap.size u w := by
  induction s with
  | refl => exact a.out
  | alloc _ o ih => exact below_alloc ih o
  | drew _ ih => exact below_drew1 ih
  | drewN _ m ih => exact pw_below_drewN ih m
theorem ss {α : Type} {d : Kd α} {e : TypeId} {w0 w : World} {base : Nat} {ok : Nat → Prop} {v : Value} {xs : List α} (a : Aside0 (d.S e w0 base ok v xs))
    (s : Strip w0 w := by (with_reducible repeat (first | refine Strip.alloc ?_ _ | refine Strip.drewN ?_ _ | refine Strip.drew ?_)); with_reducible exact Strip.refl) : d.S e w base ok v xs := by
  induction s with
  | refl => exact a.out
  | alloc _ o ih => exact Kd.S_alloc ih o
  | drew _ ih => exact Kd.S_drew ih
  | drewN _ m ih => exact Kd.S_drewN ih m
inductive StripG (G : Nat → Prop) (w0 : World) : World → Prop
  | refl : StripG G w0 w0
  | alloc {w : World} (h : StripG G w0 w) (o : Obj) : StripG G w0 (w.alloc o)
  | drew {w : World} (h : StripG G w0 w) : StripG G w0 w.drew
  | drewN {w : World} (h : StripG G w0 w) (m : Nat) : StripG G w0 (w.drewN m)
  | set {w : World} {g j : Nat} {v : Value} (h : StripG G w0 w) (hg : G g) : StripG G w0 (w.setCell ⟨g, j, none⟩ v)
theorem hsG {G : Nat → Prop} {u w0 w : World} (a : Below u.heap.size u w0) (hG : ∀ g, G g → u.heap.size ≤ g) (s : StripG G w0 w) : Below u.heap.size u w := by
  induction s with
  | refl => exact a
  | alloc _ o ih => exact below_alloc ih o
  | drew _ ih => exact below_drew1 ih
  | drewN _ m ih => exact pw_below_drewN ih m
  | set _ hg ih => exact below_set ih (hG _ hg)
theorem hs1 {u w0 w : World} {g1 : Nat} (a : Aside0 (Below u.heap.size u w0)) (b1 : Aside0 (u.heap.size ≤ g1))
    (s : StripG (fun g => g = g1) w0 w := by repeat (first | (with_reducible exact StripG.refl) | (with_reducible refine StripG.alloc ?_ _) | (with_reducible refine StripG.drewN ?_ _) | (with_reducible refine StripG.drew ?_) | (with_reducible refine StripG.set ?_ (by repeat (first | (with_reducible exact rfl) | (with_reducible exact Or.inl rfl) | (with_reducible apply Or.inr)))))) : Below u.heap.size u w :=
  hsG a.out (fun g h => by subst h; exact b1.out) s
theorem hs2 {u w0 w : World} {g1 g2 : Nat} (a : Aside0 (Below u.heap.size u w0)) (b1 : Aside0 (u.heap.size ≤ g1)) (b2 : Aside0 (u.heap.size ≤ g2))
    (s : StripG (fun g => g = g1 ∨ g = g2) w0 w := by repeat (first | (with_reducible exact StripG.refl) | (with_reducible refine StripG.alloc ?_ _) | (with_reducible refine StripG.drewN ?_ _) | (with_reducible refine StripG.drew ?_) | (with_reducible refine StripG.set ?_ (by repeat (first | (with_reducible exact rfl) | (with_reducible exact Or.inl rfl) | (with_reducible apply Or.inr)))))) : Below u.heap.size u w :=
  hsG a.out (fun g (h : g = g1 ∨ g = g2) => by rcases h with rfl | rfl <;> (first | exact b1.out | exact b2.out)) s
theorem hs3 {u w0 w : World} {g1 g2 g3 : Nat} (a : Aside0 (Below u.heap.size u w0)) (b1 : Aside0 (u.heap.size ≤ g1)) (b2 : Aside0 (u.heap.size ≤ g2)) (b3 : Aside0 (u.heap.size ≤ g3))
    (s : StripG (fun g => g = g1 ∨ g = g2 ∨ g = g3) w0 w := by repeat (first | (with_reducible exact StripG.refl) | (with_reducible refine StripG.alloc ?_ _) | (with_reducible refine StripG.drewN ?_ _) | (with_reducible refine StripG.drew ?_) | (with_reducible refine StripG.set ?_ (by repeat (first | (with_reducible exact rfl) | (with_reducible exact Or.inl rfl) | (with_reducible apply Or.inr)))))) : Below u.heap.size u w :=
  hsG a.out (fun g (h : g = g1 ∨ g = g2 ∨ g = g3) => by rcases h with rfl | rfl | rfl <;> (first | exact b1.out | exact b2.out | exact b3.out)) s
theorem hs4 {u w0 w : World} {g1 g2 g3 g4 : Nat} (a : Aside0 (Below u.heap.size u w0)) (b1 : Aside0 (u.heap.size ≤ g1)) (b2 : Aside0 (u.heap.size ≤ g2)) (b3 : Aside0 (u.heap.size ≤ g3)) (b4 : Aside0 (u.heap.size ≤ g4))
    (s : StripG (fun g => g = g1 ∨ g = g2 ∨ g = g3 ∨ g = g4) w0 w := by repeat (first | (with_reducible exact StripG.refl) | (with_reducible refine StripG.alloc ?_ _) | (with_reducible refine StripG.drewN ?_ _) | (with_reducible refine StripG.drew ?_) | (with_reducible refine StripG.set ?_ (by repeat (first | (with_reducible exact rfl) | (with_reducible exact Or.inl rfl) | (with_reducible apply Or.inr)))))) : Below u.heap.size u w :=
  hsG a.out (fun g (h : g = g1 ∨ g = g2 ∨ g = g3 ∨ g = g4) => by rcases h with rfl | rfl | rfl | rfl <;> (first | exact b1.out | exact b2.out | exact b3.out | exact b4.out)) s
theorem hs5 {u w0 w : World} {g1 g2 g3 g4 g5 : Nat} (a : Aside0 (Below u.heap.size u w0)) (b1 : Aside0 (u.heap.size ≤ g1)) (b2 : Aside0 (u.heap.size ≤ g2)) (b3 : Aside0 (u.heap.size ≤ g3)) (b4 : Aside0 (u.heap.size ≤ g4)) (b5 : Aside0 (u.heap.size ≤ g5))
    (s : StripG (fun g => g = g1 ∨ g = g2 ∨ g = g3 ∨ g = g4 ∨ g = g5) w0 w := by repeat (first | (with_reducible exact StripG.refl) | (with_reducible refine StripG.alloc ?_ _) | (with_reducible refine StripG.drewN ?_ _) | (with_reducible refine StripG.drew ?_) | (with_reducible refine StripG.set ?_ (by repeat (first | (with_reducible exact rfl) | (with_reducible exact Or.inl rfl) | (with_reducible apply Or.inr)))))) : Below u.heap.size u w :=
  hsG a.out (fun g (h : g = g1 ∨ g = g2 ∨ g = g3 ∨ g = g4 ∨ g = g5) => by rcases h with rfl | rfl | rfl | rfl | rfl <;> (first | exact b1.out | exact b2.out | exact b3.out | exact b4.out | exact b5.out)) s
end Go.Proofs.YtdolplcbokioaaaW.PrintWords

namespace Go.Proofs.Ytdolplcbokioaaa.PB
open Go.RowKit Go.Proofs.YtdolplcbokioaaaW.PrintWords Go.Proofs.YtdolplcbokioaaaW.PrintLast Go.Proofs.YtdolplcbokioaaaW.PrintMore
attribute [local go_sem] max2_int min2_int max_two min_two max_three min_three max_four min_four   -- for this text's walks alone
set_option linter.unusedVariables false
set_option linter.unusedSimpArgs false
def errW : Option Int → Value
 | none=>.nilIface
 | some c=>.iface 0 (.int .i64 c)
theorem errW_none : errW none = .nilIface:=rfl
theorem errW_some (c : Int) : errW (some c) = .iface 0 (.int .i64 c):=rfl
theorem info3 : (Try.prog.info? 3).map (fun i=>(i.zero,i.size,i.bytes)) = some (some (.int .i64 0),1,8):=by kernel_rfl
theorem info4 : (Try.prog.info? 4).map (fun i=>(i.zero,i.size,i.bytes)) = some (some (.bool false),1,1):=by kernel_rfl
theorem info5 : (Try.prog.info? 5).map (fun i=>(i.zero,i.size,i.bytes)) = some (some (.int .u8 0),1,1):=by kernel_rfl
theorem info9 : (Try.prog.info? 9).map (fun i=>(i.zero,i.size,i.bytes)) = some (some (.string ⟨#[]⟩),1,16):=by kernel_rfl
theorem info33 : (Try.prog.info? 33).map (fun i=>(i.zero,i.size,i.bytes)) = some (some (.agg #[(.int .i64 0),(.int .i64 0),(.int .i64 0),(.int .i64 0),(.int .i64 0),(.string ⟨#[]⟩)]),6,56):=by kernel_rfl
theorem info71 : (Try.prog.info? 71).map (fun i=>(i.zero,i.size,i.bytes)) = some (some (.agg #[(.bool false),(.int .i64 0),(.slice none 0 0)]),3,40):=by kernel_rfl
theorem info90 : (Try.prog.info? 90).map (fun i=>(i.zero,i.size,i.bytes)) = some (some (.agg #[(.int .i64 0),(.int .i64 0),(.int .i64 0),(.int .i64 0)]),4,32):=by kernel_rfl
theorem info133 : (Try.prog.info? 133).map (fun i=>(i.zero,i.size,i.bytes)) = some (some (.agg #[(.bool false),(.slice none 0 0)]),2,32):=by kernel_rfl
theorem info142 : (Try.prog.info? 142).map (fun i=>(i.zero,i.size,i.bytes)) = some (some (.agg #[(.int .i64 0),(.string ⟨#[]⟩)]),2,24):=by kernel_rfl
theorem info147 : (Try.prog.info? 147).map (fun i=>(i.zero,i.size,i.bytes)) = some (some (.agg #[(.int .i64 0),(.int .i64 0)]),2,16):=by kernel_rfl
-- the values' own types
structure S90 where
 f0 : Int
 f1 : Int
 f2 : Int
 f3 : Int
def z90 : S90:=⟨(0 : Int),(0 : Int),(0 : Int),(0 : Int)⟩
def k90 : Kd S90:=Kd.iso (Kd.pair (Kd.int .i64) (Kd.pair (Kd.int .i64) (Kd.pair (Kd.int .i64) (Kd.int .i64)))) (fun x : S90=>(x.f0,x.f1,x.f2,x.f3))
theorem k90_open {w : World} {x : S90} {cs : List Value} (h : k90.K w x cs) : cs = [.int .i64 x.f0,.int .i64 x.f1,.int .i64 x.f2,.int .i64 x.f3]:=by
 obtain ⟨_,_,rfl,rfl,⟨_,_,rfl,rfl,⟨_,_,rfl,rfl,rfl⟩⟩⟩:=h;exact rfl
theorem k90_openM {w : World} {base : Nat} {ok : Nat → Prop} {x : S90} {cs : List Value} (h : k90.M w base ok x cs) : cs = [.int .i64 x.f0,.int .i64 x.f1,.int .i64 x.f2,.int .i64 x.f3]:=by
 obtain ⟨_,_,rfl,rfl,⟨_,_,rfl,rfl,⟨_,_,rfl,rfl,rfl⟩⟩⟩:=h;exact rfl
theorem k90_mk (w : World) (x : S90)  : k90.K w x [.int .i64 x.f0,.int .i64 x.f1,.int .i64 x.f2,.int .i64 x.f3]:=⟨[.int .i64 x.f0],[.int .i64 x.f1,.int .i64 x.f2,.int .i64 x.f3],rfl,rfl,⟨[.int .i64 x.f1],[.int .i64 x.f2,.int .i64 x.f3],rfl,rfl,⟨[.int .i64 x.f2],[.int .i64 x.f3],rfl,rfl,rfl⟩⟩⟩
theorem k90_mkM (w : World) (base : Nat) (ok : Nat → Prop) (x : S90)  : k90.M w base ok x [.int .i64 x.f0,.int .i64 x.f1,.int .i64 x.f2,.int .i64 x.f3]:=⟨[.int .i64 x.f0],[.int .i64 x.f1,.int .i64 x.f2,.int .i64 x.f3],rfl,rfl,⟨[.int .i64 x.f1],[.int .i64 x.f2,.int .i64 x.f3],rfl,rfl,⟨[.int .i64 x.f2],[.int .i64 x.f3],rfl,rfl,rfl⟩⟩⟩
theorem k90_mkF (W : World) (ok : Nat → Prop) (x : S90) : Kd.FK k90 W ok x [.int .i64 x.f0,.int .i64 x.f1,.int .i64 x.f2,.int .i64 x.f3]:=fun W2 _=>k90_mk W2 x
def rd_T90 (xs : List S90) (i : Int) : S90:=xs.getD i.toNat z90
theorem at_T90 {w : World} {A : Option Addr} {n : Nat} {xs : List S90} (h : Kd.C k90 w A n xs) (i : Int) (h0 : 0 ≤ i) (h1 : i < n) : ∃ ad ,A = some ad ∧ w.cell? (ad.add (i.toNat * 4)) = some (.int .i64 (rd_T90 xs i).f0) ∧ w.cell? ⟨(ad.add (i.toNat * 4)).block,(ad.add (i.toNat * 4)).off + 1,none⟩ = some (.int .i64 (rd_T90 xs i).f1) ∧ w.cell? ⟨(ad.add (i.toNat * 4)).block,(ad.add (i.toNat * 4)).off + 2,none⟩ = some (.int .i64 (rd_T90 xs i).f2) ∧ w.cell? ⟨(ad.add (i.toNat * 4)).block,(ad.add (i.toNat * 4)).off + 3,none⟩ = some (.int .i64 (rd_T90 xs i).f3):=by
 obtain ⟨ad,c,e,_,hK,hc0⟩:=Kd.C_get h z90 i h0 h1;have hc : ∀ j u,c[j]? = some u → w.cell? (ad.add (i.toNat * 4 + j)) = some u:=hc0;obtain rfl:=k90_open hK;exact ⟨ad,e,hc 0 _ rfl,by rw [← add_field _ _ 1 (by omega)];exact hc 1 _ rfl,by rw [← add_field _ _ 2 (by omega)];exact hc 2 _ rfl,by rw [← add_field _ _ 3 (by omega)];exact hc 3 _ rfl⟩
structure S33 where
 f0 : Int
 f1 : Int
 f2 : Int
 f3 : Int
 f4 : Int
 f5 : ByteArray
def z33 : S33:=⟨(0 : Int),(0 : Int),(0 : Int),(0 : Int),(0 : Int),(⟨#[]⟩ : ByteArray)⟩
def k33 : Kd S33:=Kd.iso (Kd.pair (Kd.int .i64) (Kd.pair (Kd.int .i64) (Kd.pair (Kd.int .i64) (Kd.pair (Kd.int .i64) (Kd.pair (Kd.int .i64) Kd.string))))) (fun x : S33=>(x.f0,x.f1,x.f2,x.f3,x.f4,x.f5))
theorem k33_open {w : World} {x : S33} {cs : List Value} (h : k33.K w x cs) : cs = [.int .i64 x.f0,.int .i64 x.f1,.int .i64 x.f2,.int .i64 x.f3,.int .i64 x.f4,.string x.f5]:=by
 obtain ⟨_,_,rfl,rfl,⟨_,_,rfl,rfl,⟨_,_,rfl,rfl,⟨_,_,rfl,rfl,⟨_,_,rfl,rfl,rfl⟩⟩⟩⟩⟩:=h;exact rfl
theorem k33_openM {w : World} {base : Nat} {ok : Nat → Prop} {x : S33} {cs : List Value} (h : k33.M w base ok x cs) : cs = [.int .i64 x.f0,.int .i64 x.f1,.int .i64 x.f2,.int .i64 x.f3,.int .i64 x.f4,.string x.f5]:=by
 obtain ⟨_,_,rfl,rfl,⟨_,_,rfl,rfl,⟨_,_,rfl,rfl,⟨_,_,rfl,rfl,⟨_,_,rfl,rfl,rfl⟩⟩⟩⟩⟩:=h;exact rfl
theorem k33_mk (w : World) (x : S33)  : k33.K w x [.int .i64 x.f0,.int .i64 x.f1,.int .i64 x.f2,.int .i64 x.f3,.int .i64 x.f4,.string x.f5]:=⟨[.int .i64 x.f0],[.int .i64 x.f1,.int .i64 x.f2,.int .i64 x.f3,.int .i64 x.f4,.string x.f5],rfl,rfl,⟨[.int .i64 x.f1],[.int .i64 x.f2,.int .i64 x.f3,.int .i64 x.f4,.string x.f5],rfl,rfl,⟨[.int .i64 x.f2],[.int .i64 x.f3,.int .i64 x.f4,.string x.f5],rfl,rfl,⟨[.int .i64 x.f3],[.int .i64 x.f4,.string x.f5],rfl,rfl,⟨[.int .i64 x.f4],[.string x.f5],rfl,rfl,rfl⟩⟩⟩⟩⟩
theorem k33_mkM (w : World) (base : Nat) (ok : Nat → Prop) (x : S33)  : k33.M w base ok x [.int .i64 x.f0,.int .i64 x.f1,.int .i64 x.f2,.int .i64 x.f3,.int .i64 x.f4,.string x.f5]:=⟨[.int .i64 x.f0],[.int .i64 x.f1,.int .i64 x.f2,.int .i64 x.f3,.int .i64 x.f4,.string x.f5],rfl,rfl,⟨[.int .i64 x.f1],[.int .i64 x.f2,.int .i64 x.f3,.int .i64 x.f4,.string x.f5],rfl,rfl,⟨[.int .i64 x.f2],[.int .i64 x.f3,.int .i64 x.f4,.string x.f5],rfl,rfl,⟨[.int .i64 x.f3],[.int .i64 x.f4,.string x.f5],rfl,rfl,⟨[.int .i64 x.f4],[.string x.f5],rfl,rfl,rfl⟩⟩⟩⟩⟩
theorem k33_mkF (W : World) (ok : Nat → Prop) (x : S33) : Kd.FK k33 W ok x [.int .i64 x.f0,.int .i64 x.f1,.int .i64 x.f2,.int .i64 x.f3,.int .i64 x.f4,.string x.f5]:=fun W2 _=>k33_mk W2 x
def rd_T33 (xs : List S33) (i : Int) : S33:=xs.getD i.toNat z33
theorem at_T33 {w : World} {A : Option Addr} {n : Nat} {xs : List S33} (h : Kd.C k33 w A n xs) (i : Int) (h0 : 0 ≤ i) (h1 : i < n) : ∃ ad ,A = some ad ∧ w.cell? (ad.add (i.toNat * 6)) = some (.int .i64 (rd_T33 xs i).f0) ∧ w.cell? ⟨(ad.add (i.toNat * 6)).block,(ad.add (i.toNat * 6)).off + 1,none⟩ = some (.int .i64 (rd_T33 xs i).f1) ∧ w.cell? ⟨(ad.add (i.toNat * 6)).block,(ad.add (i.toNat * 6)).off + 2,none⟩ = some (.int .i64 (rd_T33 xs i).f2) ∧ w.cell? ⟨(ad.add (i.toNat * 6)).block,(ad.add (i.toNat * 6)).off + 3,none⟩ = some (.int .i64 (rd_T33 xs i).f3) ∧ w.cell? ⟨(ad.add (i.toNat * 6)).block,(ad.add (i.toNat * 6)).off + 4,none⟩ = some (.int .i64 (rd_T33 xs i).f4) ∧ w.cell? ⟨(ad.add (i.toNat * 6)).block,(ad.add (i.toNat * 6)).off + 5,none⟩ = some (.string (rd_T33 xs i).f5):=by
 obtain ⟨ad,c,e,_,hK,hc0⟩:=Kd.C_get h z33 i h0 h1;have hc : ∀ j u,c[j]? = some u → w.cell? (ad.add (i.toNat * 6 + j)) = some u:=hc0;obtain rfl:=k33_open hK;exact ⟨ad,e,hc 0 _ rfl,by rw [← add_field _ _ 1 (by omega)];exact hc 1 _ rfl,by rw [← add_field _ _ 2 (by omega)];exact hc 2 _ rfl,by rw [← add_field _ _ 3 (by omega)];exact hc 3 _ rfl,by rw [← add_field _ _ 4 (by omega)];exact hc 4 _ rfl,by rw [← add_field _ _ 5 (by omega)];exact hc 5 _ rfl⟩
structure S36 where
 f0 : Int
 f1 : Int
 f2 : S33
def z36 : S36:=⟨(0 : Int),(0 : Int),z33⟩
def k36 : Kd S36:=Kd.iso (Kd.pair (Kd.int .i64) (Kd.pair (Kd.int .i64) k33)) (fun x : S36=>(x.f0,x.f1,x.f2))
theorem k36_open {w : World} {x : S36} {cs : List Value} (h : k36.K w x cs) : cs = [.int .i64 x.f0,.int .i64 x.f1,.int .i64 x.f2.f0,.int .i64 x.f2.f1,.int .i64 x.f2.f2,.int .i64 x.f2.f3,.int .i64 x.f2.f4,.string x.f2.f5]:=by
 obtain ⟨_,_,rfl,rfl,⟨_,_,rfl,rfl,s2⟩⟩:=h;obtain rfl:=k33_open s2;exact rfl
theorem k36_openM {w : World} {base : Nat} {ok : Nat → Prop} {x : S36} {cs : List Value} (h : k36.M w base ok x cs) : cs = [.int .i64 x.f0,.int .i64 x.f1,.int .i64 x.f2.f0,.int .i64 x.f2.f1,.int .i64 x.f2.f2,.int .i64 x.f2.f3,.int .i64 x.f2.f4,.string x.f2.f5]:=by
 obtain ⟨_,_,rfl,rfl,⟨_,_,rfl,rfl,s2⟩⟩:=h;obtain rfl:=k33_openM s2;exact rfl
theorem k36_mk (w : World) (x : S36)  : k36.K w x [.int .i64 x.f0,.int .i64 x.f1,.int .i64 x.f2.f0,.int .i64 x.f2.f1,.int .i64 x.f2.f2,.int .i64 x.f2.f3,.int .i64 x.f2.f4,.string x.f2.f5]:=⟨[.int .i64 x.f0],[.int .i64 x.f1,.int .i64 x.f2.f0,.int .i64 x.f2.f1,.int .i64 x.f2.f2,.int .i64 x.f2.f3,.int .i64 x.f2.f4,.string x.f2.f5],rfl,rfl,⟨[.int .i64 x.f1],[.int .i64 x.f2.f0,.int .i64 x.f2.f1,.int .i64 x.f2.f2,.int .i64 x.f2.f3,.int .i64 x.f2.f4,.string x.f2.f5],rfl,rfl,(k33_mk w x.f2 )⟩⟩
theorem k36_mkM (w : World) (base : Nat) (ok : Nat → Prop) (x : S36)  : k36.M w base ok x [.int .i64 x.f0,.int .i64 x.f1,.int .i64 x.f2.f0,.int .i64 x.f2.f1,.int .i64 x.f2.f2,.int .i64 x.f2.f3,.int .i64 x.f2.f4,.string x.f2.f5]:=⟨[.int .i64 x.f0],[.int .i64 x.f1,.int .i64 x.f2.f0,.int .i64 x.f2.f1,.int .i64 x.f2.f2,.int .i64 x.f2.f3,.int .i64 x.f2.f4,.string x.f2.f5],rfl,rfl,⟨[.int .i64 x.f1],[.int .i64 x.f2.f0,.int .i64 x.f2.f1,.int .i64 x.f2.f2,.int .i64 x.f2.f3,.int .i64 x.f2.f4,.string x.f2.f5],rfl,rfl,(k33_mkM w base ok x.f2 )⟩⟩
theorem k36_mkF (W : World) (ok : Nat → Prop) (x : S36) : Kd.FK k36 W ok x [.int .i64 x.f0,.int .i64 x.f1,.int .i64 x.f2.f0,.int .i64 x.f2.f1,.int .i64 x.f2.f2,.int .i64 x.f2.f3,.int .i64 x.f2.f4,.string x.f2.f5]:=fun W2 _=>k36_mk W2 x
def rd_T36 (xs : List S36) (i : Int) : S36:=xs.getD i.toNat z36
theorem at_T36 {w : World} {A : Option Addr} {n : Nat} {xs : List S36} (h : Kd.C k36 w A n xs) (i : Int) (h0 : 0 ≤ i) (h1 : i < n) : ∃ ad ,A = some ad ∧ w.cell? (ad.add (i.toNat * 8)) = some (.int .i64 (rd_T36 xs i).f0) ∧ w.cell? ⟨(ad.add (i.toNat * 8)).block,(ad.add (i.toNat * 8)).off + 1,none⟩ = some (.int .i64 (rd_T36 xs i).f1) ∧ w.cell? ⟨(ad.add (i.toNat * 8)).block,(ad.add (i.toNat * 8)).off + 2,none⟩ = some (.int .i64 (rd_T36 xs i).f2.f0) ∧ w.cell? ⟨(ad.add (i.toNat * 8)).block,(ad.add (i.toNat * 8)).off + 3,none⟩ = some (.int .i64 (rd_T36 xs i).f2.f1) ∧ w.cell? ⟨(ad.add (i.toNat * 8)).block,(ad.add (i.toNat * 8)).off + 4,none⟩ = some (.int .i64 (rd_T36 xs i).f2.f2) ∧ w.cell? ⟨(ad.add (i.toNat * 8)).block,(ad.add (i.toNat * 8)).off + 5,none⟩ = some (.int .i64 (rd_T36 xs i).f2.f3) ∧ w.cell? ⟨(ad.add (i.toNat * 8)).block,(ad.add (i.toNat * 8)).off + 6,none⟩ = some (.int .i64 (rd_T36 xs i).f2.f4) ∧ w.cell? ⟨(ad.add (i.toNat * 8)).block,(ad.add (i.toNat * 8)).off + 7,none⟩ = some (.string (rd_T36 xs i).f2.f5):=by
 obtain ⟨ad,c,e,_,hK,hc0⟩:=Kd.C_get h z36 i h0 h1;have hc : ∀ j u,c[j]? = some u → w.cell? (ad.add (i.toNat * 8 + j)) = some u:=hc0;obtain rfl:=k36_open hK;exact ⟨ad,e,hc 0 _ rfl,by rw [← add_field _ _ 1 (by omega)];exact hc 1 _ rfl,by rw [← add_field _ _ 2 (by omega)];exact hc 2 _ rfl,by rw [← add_field _ _ 3 (by omega)];exact hc 3 _ rfl,by rw [← add_field _ _ 4 (by omega)];exact hc 4 _ rfl,by rw [← add_field _ _ 5 (by omega)];exact hc 5 _ rfl,by rw [← add_field _ _ 6 (by omega)];exact hc 6 _ rfl,by rw [← add_field _ _ 7 (by omega)];exact hc 7 _ rfl⟩
def rd_L7 (xs : List (List Int)) (i : Int) : (List Int):=xs.getD i.toNat ([] : List Int)
theorem at_L7 {w : World} {A : Option Addr} {n : Nat} {xs : List (List Int)} (h : Kd.C (Kd.slice 3 (Kd.int .i64)) w A n xs) (i : Int) (h0 : 0 ≤ i) (h1 : i < n) : ∃ ad A0 c0,A = some ad ∧ w.cell? (ad.add i.toNat) = some (.slice A0 (rd_L7 xs i).length c0) ∧ (rd_L7 xs i).length ≤ c0 ∧ (Kd.int .i64).C w A0 (rd_L7 xs i).length (rd_L7 xs i):=by
 obtain ⟨ad,c,e,_,hK,hc0⟩:=Kd.C_get h ([] : List Int) i h0 h1;have hc : ∀ j u,c[j]? = some u → w.cell? (ad.add (i.toNat * 1 + j)) = some u:=hc0;obtain ⟨A0,c0,rfl,l0,g0⟩:=hK;exact ⟨ad,A0,c0,e,by have hq:=hc 0 _ rfl;rwa [Nat.mul_one,Nat.add_zero] at hq,l0,g0⟩
structure S133 where
 f0 : Bool
 f1 : (List Int)
def z133 : S133:=⟨false,([] : List Int)⟩
def k133 : Kd S133:=Kd.iso (Kd.pair Kd.bool (Kd.slice 3 (Kd.int .i64))) (fun x : S133=>(x.f0,x.f1))
theorem k133_open {w : World} {x : S133} {cs : List Value} (h : k133.K w x cs) : ∃ A1 c1,cs = [.bool x.f0,.slice A1 x.f1.length c1] ∧ x.f1.length ≤ c1 ∧ (Kd.int .i64).C w A1 x.f1.length x.f1:=by
 obtain ⟨_,_,rfl,rfl,⟨A1,c1,rfl,l1,g1⟩⟩:=h;exact ⟨A1,c1,rfl,l1,g1⟩
theorem k133_openM {w : World} {base : Nat} {ok : Nat → Prop} {x : S133} {cs : List Value} (h : k133.M w base ok x cs) : ∃ v1,cs = [.bool x.f0,v1] ∧ (Kd.int .i64).R 3 w base ok v1 x.f1:=by
 obtain ⟨_,_,rfl,rfl,⟨v1,rfl,g1⟩⟩:=h;exact ⟨v1,rfl,g1⟩
theorem k133_mk (w : World) (x : S133) {A1 : Option Addr} {c1 : Nat} (l1 : x.f1.length ≤ c1) (g1 : (Kd.int .i64).C w A1 x.f1.length x.f1) : k133.K w x [.bool x.f0,.slice A1 x.f1.length c1]:=⟨[.bool x.f0],[.slice A1 x.f1.length c1],rfl,rfl,⟨A1,c1,rfl,l1,g1⟩⟩
theorem k133_mkM (w : World) (base : Nat) (ok : Nat → Prop) (x : S133) {v1 : Value} (g1 : (Kd.int .i64).R 3 w base ok v1 x.f1) : k133.M w base ok x [.bool x.f0,v1]:=⟨[.bool x.f0],[v1],rfl,rfl,⟨v1,rfl,g1⟩⟩
theorem k133_openF {W : World} {ok : Nat → Prop} {x : S133} {cs : List Value} (h : Kd.FK k133 W ok x cs) : ∃ A1 c1,cs = [.bool x.f0,.slice A1 x.f1.length c1] ∧ x.f1.length ≤ c1 ∧ Kd.F (Kd.int .i64) W ok A1 x.f1.length x.f1:=by
 obtain ⟨A1,c1,rfl,l1,_⟩:=k133_open (Kd.FK_now h);exact ⟨A1,c1,rfl,l1,(fun W' hW=>by obtain ⟨A1_,c1_,he,l1_,g1_⟩:=k133_open (h W' hW);injection (Option.some.inj (show some (Value.slice A1 x.f1.length c1) = some (Value.slice A1_ x.f1.length c1_) from congrArg (fun l=>l[1]?) he)) with ha_ _ _;rw [ha_];exact g1_)⟩
theorem k133_mkF (W : World) (ok : Nat → Prop) (x : S133) {A1 : Option Addr} {c1 : Nat} (l1 : x.f1.length ≤ c1) (g1 : Kd.F (Kd.int .i64) W ok A1 x.f1.length x.f1) : Kd.FK k133 W ok x [.bool x.f0,.slice A1 x.f1.length c1]:=fun W2 hW=>k133_mk W2 x l1 (g1 W2 hW)
def rd_T133 (xs : List S133) (i : Int) : S133:=xs.getD i.toNat z133
theorem at_T133 {w : World} {A : Option Addr} {n : Nat} {xs : List S133} (h : Kd.C k133 w A n xs) (i : Int) (h0 : 0 ≤ i) (h1 : i < n) : ∃ ad A1 c1,A = some ad ∧ w.cell? (ad.add (i.toNat * 2)) = some (.bool (rd_T133 xs i).f0) ∧ w.cell? ⟨(ad.add (i.toNat * 2)).block,(ad.add (i.toNat * 2)).off + 1,none⟩ = some (.slice A1 (rd_T133 xs i).f1.length c1) ∧ (rd_T133 xs i).f1.length ≤ c1 ∧ (Kd.int .i64).C w A1 (rd_T133 xs i).f1.length (rd_T133 xs i).f1:=by
 obtain ⟨ad,c,e,_,hK,hc0⟩:=Kd.C_get h z133 i h0 h1;have hc : ∀ j u,c[j]? = some u → w.cell? (ad.add (i.toNat * 2 + j)) = some u:=hc0;obtain ⟨A1,c1,rfl,l1,g1⟩:=k133_open hK;exact ⟨ad,A1,c1,e,hc 0 _ rfl,by rw [← add_field _ _ 1 (by omega)];exact hc 1 _ rfl,l1,g1⟩
structure S175 where
 f0 : Bool
 f1 : (List Int)
def z175 : S175:=⟨false,([] : List Int)⟩
def k175 : Kd S175:=Kd.iso (Kd.pair Kd.bool (Kd.slice 3 (Kd.int .i64))) (fun x : S175=>(x.f0,x.f1))
theorem k175_open {w : World} {x : S175} {cs : List Value} (h : k175.K w x cs) : ∃ A1 c1,cs = [.bool x.f0,.slice A1 x.f1.length c1] ∧ x.f1.length ≤ c1 ∧ (Kd.int .i64).C w A1 x.f1.length x.f1:=by
 obtain ⟨_,_,rfl,rfl,⟨A1,c1,rfl,l1,g1⟩⟩:=h;exact ⟨A1,c1,rfl,l1,g1⟩
theorem k175_openM {w : World} {base : Nat} {ok : Nat → Prop} {x : S175} {cs : List Value} (h : k175.M w base ok x cs) : ∃ v1,cs = [.bool x.f0,v1] ∧ (Kd.int .i64).R 3 w base ok v1 x.f1:=by
 obtain ⟨_,_,rfl,rfl,⟨v1,rfl,g1⟩⟩:=h;exact ⟨v1,rfl,g1⟩
theorem k175_mk (w : World) (x : S175) {A1 : Option Addr} {c1 : Nat} (l1 : x.f1.length ≤ c1) (g1 : (Kd.int .i64).C w A1 x.f1.length x.f1) : k175.K w x [.bool x.f0,.slice A1 x.f1.length c1]:=⟨[.bool x.f0],[.slice A1 x.f1.length c1],rfl,rfl,⟨A1,c1,rfl,l1,g1⟩⟩
theorem k175_mkM (w : World) (base : Nat) (ok : Nat → Prop) (x : S175) {v1 : Value} (g1 : (Kd.int .i64).R 3 w base ok v1 x.f1) : k175.M w base ok x [.bool x.f0,v1]:=⟨[.bool x.f0],[v1],rfl,rfl,⟨v1,rfl,g1⟩⟩
theorem k175_openF {W : World} {ok : Nat → Prop} {x : S175} {cs : List Value} (h : Kd.FK k175 W ok x cs) : ∃ A1 c1,cs = [.bool x.f0,.slice A1 x.f1.length c1] ∧ x.f1.length ≤ c1 ∧ Kd.F (Kd.int .i64) W ok A1 x.f1.length x.f1:=by
 obtain ⟨A1,c1,rfl,l1,_⟩:=k175_open (Kd.FK_now h);exact ⟨A1,c1,rfl,l1,(fun W' hW=>by obtain ⟨A1_,c1_,he,l1_,g1_⟩:=k175_open (h W' hW);injection (Option.some.inj (show some (Value.slice A1 x.f1.length c1) = some (Value.slice A1_ x.f1.length c1_) from congrArg (fun l=>l[1]?) he)) with ha_ _ _;rw [ha_];exact g1_)⟩
theorem k175_mkF (W : World) (ok : Nat → Prop) (x : S175) {A1 : Option Addr} {c1 : Nat} (l1 : x.f1.length ≤ c1) (g1 : Kd.F (Kd.int .i64) W ok A1 x.f1.length x.f1) : Kd.FK k175 W ok x [.bool x.f0,.slice A1 x.f1.length c1]:=fun W2 hW=>k175_mk W2 x l1 (g1 W2 hW)
def rd_T175 (xs : List S175) (i : Int) : S175:=xs.getD i.toNat z175
theorem at_T175 {w : World} {A : Option Addr} {n : Nat} {xs : List S175} (h : Kd.C k175 w A n xs) (i : Int) (h0 : 0 ≤ i) (h1 : i < n) : ∃ ad A1 c1,A = some ad ∧ w.cell? (ad.add (i.toNat * 2)) = some (.bool (rd_T175 xs i).f0) ∧ w.cell? ⟨(ad.add (i.toNat * 2)).block,(ad.add (i.toNat * 2)).off + 1,none⟩ = some (.slice A1 (rd_T175 xs i).f1.length c1) ∧ (rd_T175 xs i).f1.length ≤ c1 ∧ (Kd.int .i64).C w A1 (rd_T175 xs i).f1.length (rd_T175 xs i).f1:=by
 obtain ⟨ad,c,e,_,hK,hc0⟩:=Kd.C_get h z175 i h0 h1;have hc : ∀ j u,c[j]? = some u → w.cell? (ad.add (i.toNat * 2 + j)) = some u:=hc0;obtain ⟨A1,c1,rfl,l1,g1⟩:=k175_open hK;exact ⟨ad,A1,c1,e,hc 0 _ rfl,by rw [← add_field _ _ 1 (by omega)];exact hc 1 _ rfl,l1,g1⟩
structure S142 where
 f0 : Int
 f1 : ByteArray
def z142 : S142:=⟨(0 : Int),(⟨#[]⟩ : ByteArray)⟩
def k142 : Kd S142:=Kd.iso (Kd.pair (Kd.int .i64) Kd.string) (fun x : S142=>(x.f0,x.f1))
theorem k142_open {w : World} {x : S142} {cs : List Value} (h : k142.K w x cs) : cs = [.int .i64 x.f0,.string x.f1]:=by
 obtain ⟨_,_,rfl,rfl,rfl⟩:=h;exact rfl
theorem k142_openM {w : World} {base : Nat} {ok : Nat → Prop} {x : S142} {cs : List Value} (h : k142.M w base ok x cs) : cs = [.int .i64 x.f0,.string x.f1]:=by
 obtain ⟨_,_,rfl,rfl,rfl⟩:=h;exact rfl
theorem k142_mk (w : World) (x : S142)  : k142.K w x [.int .i64 x.f0,.string x.f1]:=⟨[.int .i64 x.f0],[.string x.f1],rfl,rfl,rfl⟩
theorem k142_mkM (w : World) (base : Nat) (ok : Nat → Prop) (x : S142)  : k142.M w base ok x [.int .i64 x.f0,.string x.f1]:=⟨[.int .i64 x.f0],[.string x.f1],rfl,rfl,rfl⟩
theorem k142_mkF (W : World) (ok : Nat → Prop) (x : S142) : Kd.FK k142 W ok x [.int .i64 x.f0,.string x.f1]:=fun W2 _=>k142_mk W2 x
def rd_T142 (xs : List S142) (i : Int) : S142:=xs.getD i.toNat z142
theorem at_T142 {w : World} {A : Option Addr} {n : Nat} {xs : List S142} (h : Kd.C k142 w A n xs) (i : Int) (h0 : 0 ≤ i) (h1 : i < n) : ∃ ad ,A = some ad ∧ w.cell? (ad.add (i.toNat * 2)) = some (.int .i64 (rd_T142 xs i).f0) ∧ w.cell? ⟨(ad.add (i.toNat * 2)).block,(ad.add (i.toNat * 2)).off + 1,none⟩ = some (.string (rd_T142 xs i).f1):=by
 obtain ⟨ad,c,e,_,hK,hc0⟩:=Kd.C_get h z142 i h0 h1;have hc : ∀ j u,c[j]? = some u → w.cell? (ad.add (i.toNat * 2 + j)) = some u:=hc0;obtain rfl:=k142_open hK;exact ⟨ad,e,hc 0 _ rfl,by rw [← add_field _ _ 1 (by omega)];exact hc 1 _ rfl⟩
def rd_L11 (xs : List (List S142)) (i : Int) : (List S142):=xs.getD i.toNat ([] : List S142)
theorem at_L11 {w : World} {A : Option Addr} {n : Nat} {xs : List (List S142)} (h : Kd.C (Kd.slice 142 k142) w A n xs) (i : Int) (h0 : 0 ≤ i) (h1 : i < n) : ∃ ad A0 c0,A = some ad ∧ w.cell? (ad.add i.toNat) = some (.slice A0 (rd_L11 xs i).length c0) ∧ (rd_L11 xs i).length ≤ c0 ∧ k142.C w A0 (rd_L11 xs i).length (rd_L11 xs i):=by
 obtain ⟨ad,c,e,_,hK,hc0⟩:=Kd.C_get h ([] : List S142) i h0 h1;have hc : ∀ j u,c[j]? = some u → w.cell? (ad.add (i.toNat * 1 + j)) = some u:=hc0;obtain ⟨A0,c0,rfl,l0,g0⟩:=hK;exact ⟨ad,A0,c0,e,by have hq:=hc 0 _ rfl;rwa [Nat.mul_one,Nat.add_zero] at hq,l0,g0⟩
structure S71 where
 f0 : Bool
 f1 : Int
 f2 : (List S142)
def z71 : S71:=⟨false,(0 : Int),([] : List S142)⟩
def k71 : Kd S71:=Kd.iso (Kd.pair Kd.bool (Kd.pair (Kd.int .i64) (Kd.slice 142 k142))) (fun x : S71=>(x.f0,x.f1,x.f2))
theorem k71_open {w : World} {x : S71} {cs : List Value} (h : k71.K w x cs) : ∃ A2 c2,cs = [.bool x.f0,.int .i64 x.f1,.slice A2 x.f2.length c2] ∧ x.f2.length ≤ c2 ∧ k142.C w A2 x.f2.length x.f2:=by
 obtain ⟨_,_,rfl,rfl,⟨_,_,rfl,rfl,⟨A2,c2,rfl,l2,g2⟩⟩⟩:=h;exact ⟨A2,c2,rfl,l2,g2⟩
theorem k71_openM {w : World} {base : Nat} {ok : Nat → Prop} {x : S71} {cs : List Value} (h : k71.M w base ok x cs) : ∃ v2,cs = [.bool x.f0,.int .i64 x.f1,v2] ∧ k142.R 142 w base ok v2 x.f2:=by
 obtain ⟨_,_,rfl,rfl,⟨_,_,rfl,rfl,⟨v2,rfl,g2⟩⟩⟩:=h;exact ⟨v2,rfl,g2⟩
theorem k71_mk (w : World) (x : S71) {A2 : Option Addr} {c2 : Nat} (l2 : x.f2.length ≤ c2) (g2 : k142.C w A2 x.f2.length x.f2) : k71.K w x [.bool x.f0,.int .i64 x.f1,.slice A2 x.f2.length c2]:=⟨[.bool x.f0],[.int .i64 x.f1,.slice A2 x.f2.length c2],rfl,rfl,⟨[.int .i64 x.f1],[.slice A2 x.f2.length c2],rfl,rfl,⟨A2,c2,rfl,l2,g2⟩⟩⟩
theorem k71_mkM (w : World) (base : Nat) (ok : Nat → Prop) (x : S71) {v2 : Value} (g2 : k142.R 142 w base ok v2 x.f2) : k71.M w base ok x [.bool x.f0,.int .i64 x.f1,v2]:=⟨[.bool x.f0],[.int .i64 x.f1,v2],rfl,rfl,⟨[.int .i64 x.f1],[v2],rfl,rfl,⟨v2,rfl,g2⟩⟩⟩
theorem k71_openF {W : World} {ok : Nat → Prop} {x : S71} {cs : List Value} (h : Kd.FK k71 W ok x cs) : ∃ A2 c2,cs = [.bool x.f0,.int .i64 x.f1,.slice A2 x.f2.length c2] ∧ x.f2.length ≤ c2 ∧ Kd.F k142 W ok A2 x.f2.length x.f2:=by
 obtain ⟨A2,c2,rfl,l2,_⟩:=k71_open (Kd.FK_now h);exact ⟨A2,c2,rfl,l2,(fun W' hW=>by obtain ⟨A2_,c2_,he,l2_,g2_⟩:=k71_open (h W' hW);injection (Option.some.inj (show some (Value.slice A2 x.f2.length c2) = some (Value.slice A2_ x.f2.length c2_) from congrArg (fun l=>l[2]?) he)) with ha_ _ _;rw [ha_];exact g2_)⟩
theorem k71_mkF (W : World) (ok : Nat → Prop) (x : S71) {A2 : Option Addr} {c2 : Nat} (l2 : x.f2.length ≤ c2) (g2 : Kd.F k142 W ok A2 x.f2.length x.f2) : Kd.FK k71 W ok x [.bool x.f0,.int .i64 x.f1,.slice A2 x.f2.length c2]:=fun W2 hW=>k71_mk W2 x l2 (g2 W2 hW)
def rd_T71 (xs : List S71) (i : Int) : S71:=xs.getD i.toNat z71
theorem at_T71 {w : World} {A : Option Addr} {n : Nat} {xs : List S71} (h : Kd.C k71 w A n xs) (i : Int) (h0 : 0 ≤ i) (h1 : i < n) : ∃ ad A2 c2,A = some ad ∧ w.cell? (ad.add (i.toNat * 3)) = some (.bool (rd_T71 xs i).f0) ∧ w.cell? ⟨(ad.add (i.toNat * 3)).block,(ad.add (i.toNat * 3)).off + 1,none⟩ = some (.int .i64 (rd_T71 xs i).f1) ∧ w.cell? ⟨(ad.add (i.toNat * 3)).block,(ad.add (i.toNat * 3)).off + 2,none⟩ = some (.slice A2 (rd_T71 xs i).f2.length c2) ∧ (rd_T71 xs i).f2.length ≤ c2 ∧ k142.C w A2 (rd_T71 xs i).f2.length (rd_T71 xs i).f2:=by
 obtain ⟨ad,c,e,_,hK,hc0⟩:=Kd.C_get h z71 i h0 h1;have hc : ∀ j u,c[j]? = some u → w.cell? (ad.add (i.toNat * 3 + j)) = some u:=hc0;obtain ⟨A2,c2,rfl,l2,g2⟩:=k71_open hK;exact ⟨ad,A2,c2,e,hc 0 _ rfl,by rw [← add_field _ _ 1 (by omega)];exact hc 1 _ rfl,by rw [← add_field _ _ 2 (by omega)];exact hc 2 _ rfl,l2,g2⟩
structure S184 where
 f0 : Int
 f1 : Int
def z184 : S184:=⟨(0 : Int),(0 : Int)⟩
def k184 : Kd S184:=Kd.iso (Kd.pair (Kd.int .i64) (Kd.int .i64)) (fun x : S184=>(x.f0,x.f1))
theorem k184_open {w : World} {x : S184} {cs : List Value} (h : k184.K w x cs) : cs = [.int .i64 x.f0,.int .i64 x.f1]:=by
 obtain ⟨_,_,rfl,rfl,rfl⟩:=h;exact rfl
theorem k184_openM {w : World} {base : Nat} {ok : Nat → Prop} {x : S184} {cs : List Value} (h : k184.M w base ok x cs) : cs = [.int .i64 x.f0,.int .i64 x.f1]:=by
 obtain ⟨_,_,rfl,rfl,rfl⟩:=h;exact rfl
theorem k184_mk (w : World) (x : S184)  : k184.K w x [.int .i64 x.f0,.int .i64 x.f1]:=⟨[.int .i64 x.f0],[.int .i64 x.f1],rfl,rfl,rfl⟩
theorem k184_mkM (w : World) (base : Nat) (ok : Nat → Prop) (x : S184)  : k184.M w base ok x [.int .i64 x.f0,.int .i64 x.f1]:=⟨[.int .i64 x.f0],[.int .i64 x.f1],rfl,rfl,rfl⟩
theorem k184_mkF (W : World) (ok : Nat → Prop) (x : S184) : Kd.FK k184 W ok x [.int .i64 x.f0,.int .i64 x.f1]:=fun W2 _=>k184_mk W2 x
def rd_T184 (xs : List S184) (i : Int) : S184:=xs.getD i.toNat z184
theorem at_T184 {w : World} {A : Option Addr} {n : Nat} {xs : List S184} (h : Kd.C k184 w A n xs) (i : Int) (h0 : 0 ≤ i) (h1 : i < n) : ∃ ad ,A = some ad ∧ w.cell? (ad.add (i.toNat * 2)) = some (.int .i64 (rd_T184 xs i).f0) ∧ w.cell? ⟨(ad.add (i.toNat * 2)).block,(ad.add (i.toNat * 2)).off + 1,none⟩ = some (.int .i64 (rd_T184 xs i).f1):=by
 obtain ⟨ad,c,e,_,hK,hc0⟩:=Kd.C_get h z184 i h0 h1;have hc : ∀ j u,c[j]? = some u → w.cell? (ad.add (i.toNat * 2 + j)) = some u:=hc0;obtain rfl:=k184_open hK;exact ⟨ad,e,hc 0 _ rfl,by rw [← add_field _ _ 1 (by omega)];exact hc 1 _ rfl⟩
structure S147 where
 f0 : Int
 f1 : Int
def z147 : S147:=⟨(0 : Int),(0 : Int)⟩
def k147 : Kd S147:=Kd.iso (Kd.pair (Kd.int .i64) (Kd.int .i64)) (fun x : S147=>(x.f0,x.f1))
theorem k147_open {w : World} {x : S147} {cs : List Value} (h : k147.K w x cs) : cs = [.int .i64 x.f0,.int .i64 x.f1]:=by
 obtain ⟨_,_,rfl,rfl,rfl⟩:=h;exact rfl
theorem k147_openM {w : World} {base : Nat} {ok : Nat → Prop} {x : S147} {cs : List Value} (h : k147.M w base ok x cs) : cs = [.int .i64 x.f0,.int .i64 x.f1]:=by
 obtain ⟨_,_,rfl,rfl,rfl⟩:=h;exact rfl
theorem k147_mk (w : World) (x : S147)  : k147.K w x [.int .i64 x.f0,.int .i64 x.f1]:=⟨[.int .i64 x.f0],[.int .i64 x.f1],rfl,rfl,rfl⟩
theorem k147_mkM (w : World) (base : Nat) (ok : Nat → Prop) (x : S147)  : k147.M w base ok x [.int .i64 x.f0,.int .i64 x.f1]:=⟨[.int .i64 x.f0],[.int .i64 x.f1],rfl,rfl,rfl⟩
theorem k147_mkF (W : World) (ok : Nat → Prop) (x : S147) : Kd.FK k147 W ok x [.int .i64 x.f0,.int .i64 x.f1]:=fun W2 _=>k147_mk W2 x
def rd_T147 (xs : List S147) (i : Int) : S147:=xs.getD i.toNat z147
theorem at_T147 {w : World} {A : Option Addr} {n : Nat} {xs : List S147} (h : Kd.C k147 w A n xs) (i : Int) (h0 : 0 ≤ i) (h1 : i < n) : ∃ ad ,A = some ad ∧ w.cell? (ad.add (i.toNat * 2)) = some (.int .i64 (rd_T147 xs i).f0) ∧ w.cell? ⟨(ad.add (i.toNat * 2)).block,(ad.add (i.toNat * 2)).off + 1,none⟩ = some (.int .i64 (rd_T147 xs i).f1):=by
 obtain ⟨ad,c,e,_,hK,hc0⟩:=Kd.C_get h z147 i h0 h1;have hc : ∀ j u,c[j]? = some u → w.cell? (ad.add (i.toNat * 2 + j)) = some u:=hc0;obtain rfl:=k147_open hK;exact ⟨ad,e,hc 0 _ rfl,by rw [← add_field _ _ 1 (by omega)];exact hc 1 _ rfl⟩
structure S160 where
 f0 : Int
 f1 : Int
 f2 : Int
 f3 : Int
def z160 : S160:=⟨(0 : Int),(0 : Int),(0 : Int),(0 : Int)⟩
def k160 : Kd S160:=Kd.iso (Kd.pair (Kd.int .i64) (Kd.pair (Kd.int .i64) (Kd.pair (Kd.int .i64) (Kd.int .i64)))) (fun x : S160=>(x.f0,x.f1,x.f2,x.f3))
theorem k160_open {w : World} {x : S160} {cs : List Value} (h : k160.K w x cs) : cs = [.int .i64 x.f0,.int .i64 x.f1,.int .i64 x.f2,.int .i64 x.f3]:=by
 obtain ⟨_,_,rfl,rfl,⟨_,_,rfl,rfl,⟨_,_,rfl,rfl,rfl⟩⟩⟩:=h;exact rfl
theorem k160_openM {w : World} {base : Nat} {ok : Nat → Prop} {x : S160} {cs : List Value} (h : k160.M w base ok x cs) : cs = [.int .i64 x.f0,.int .i64 x.f1,.int .i64 x.f2,.int .i64 x.f3]:=by
 obtain ⟨_,_,rfl,rfl,⟨_,_,rfl,rfl,⟨_,_,rfl,rfl,rfl⟩⟩⟩:=h;exact rfl
theorem k160_mk (w : World) (x : S160)  : k160.K w x [.int .i64 x.f0,.int .i64 x.f1,.int .i64 x.f2,.int .i64 x.f3]:=⟨[.int .i64 x.f0],[.int .i64 x.f1,.int .i64 x.f2,.int .i64 x.f3],rfl,rfl,⟨[.int .i64 x.f1],[.int .i64 x.f2,.int .i64 x.f3],rfl,rfl,⟨[.int .i64 x.f2],[.int .i64 x.f3],rfl,rfl,rfl⟩⟩⟩
theorem k160_mkM (w : World) (base : Nat) (ok : Nat → Prop) (x : S160)  : k160.M w base ok x [.int .i64 x.f0,.int .i64 x.f1,.int .i64 x.f2,.int .i64 x.f3]:=⟨[.int .i64 x.f0],[.int .i64 x.f1,.int .i64 x.f2,.int .i64 x.f3],rfl,rfl,⟨[.int .i64 x.f1],[.int .i64 x.f2,.int .i64 x.f3],rfl,rfl,⟨[.int .i64 x.f2],[.int .i64 x.f3],rfl,rfl,rfl⟩⟩⟩
theorem k160_mkF (W : World) (ok : Nat → Prop) (x : S160) : Kd.FK k160 W ok x [.int .i64 x.f0,.int .i64 x.f1,.int .i64 x.f2,.int .i64 x.f3]:=fun W2 _=>k160_mk W2 x
def rd_T160 (xs : List S160) (i : Int) : S160:=xs.getD i.toNat z160
theorem at_T160 {w : World} {A : Option Addr} {n : Nat} {xs : List S160} (h : Kd.C k160 w A n xs) (i : Int) (h0 : 0 ≤ i) (h1 : i < n) : ∃ ad ,A = some ad ∧ w.cell? (ad.add (i.toNat * 4)) = some (.int .i64 (rd_T160 xs i).f0) ∧ w.cell? ⟨(ad.add (i.toNat * 4)).block,(ad.add (i.toNat * 4)).off + 1,none⟩ = some (.int .i64 (rd_T160 xs i).f1) ∧ w.cell? ⟨(ad.add (i.toNat * 4)).block,(ad.add (i.toNat * 4)).off + 2,none⟩ = some (.int .i64 (rd_T160 xs i).f2) ∧ w.cell? ⟨(ad.add (i.toNat * 4)).block,(ad.add (i.toNat * 4)).off + 3,none⟩ = some (.int .i64 (rd_T160 xs i).f3):=by
 obtain ⟨ad,c,e,_,hK,hc0⟩:=Kd.C_get h z160 i h0 h1;have hc : ∀ j u,c[j]? = some u → w.cell? (ad.add (i.toNat * 4 + j)) = some u:=hc0;obtain rfl:=k160_open hK;exact ⟨ad,e,hc 0 _ rfl,by rw [← add_field _ _ 1 (by omega)];exact hc 1 _ rfl,by rw [← add_field _ _ 2 (by omega)];exact hc 2 _ rfl,by rw [← add_field _ _ 3 (by omega)];exact hc 3 _ rfl⟩
structure S213 where
 f0 : Int
 f1 : ByteArray
def z213 : S213:=⟨(0 : Int),(⟨#[]⟩ : ByteArray)⟩
def k213 : Kd S213:=Kd.iso (Kd.pair (Kd.int .i64) Kd.string) (fun x : S213=>(x.f0,x.f1))
theorem k213_open {w : World} {x : S213} {cs : List Value} (h : k213.K w x cs) : cs = [.int .i64 x.f0,.string x.f1]:=by
 obtain ⟨_,_,rfl,rfl,rfl⟩:=h;exact rfl
theorem k213_openM {w : World} {base : Nat} {ok : Nat → Prop} {x : S213} {cs : List Value} (h : k213.M w base ok x cs) : cs = [.int .i64 x.f0,.string x.f1]:=by
 obtain ⟨_,_,rfl,rfl,rfl⟩:=h;exact rfl
theorem k213_mk (w : World) (x : S213)  : k213.K w x [.int .i64 x.f0,.string x.f1]:=⟨[.int .i64 x.f0],[.string x.f1],rfl,rfl,rfl⟩
theorem k213_mkM (w : World) (base : Nat) (ok : Nat → Prop) (x : S213)  : k213.M w base ok x [.int .i64 x.f0,.string x.f1]:=⟨[.int .i64 x.f0],[.string x.f1],rfl,rfl,rfl⟩
theorem k213_mkF (W : World) (ok : Nat → Prop) (x : S213) : Kd.FK k213 W ok x [.int .i64 x.f0,.string x.f1]:=fun W2 _=>k213_mk W2 x
def rd_T213 (xs : List S213) (i : Int) : S213:=xs.getD i.toNat z213
theorem at_T213 {w : World} {A : Option Addr} {n : Nat} {xs : List S213} (h : Kd.C k213 w A n xs) (i : Int) (h0 : 0 ≤ i) (h1 : i < n) : ∃ ad ,A = some ad ∧ w.cell? (ad.add (i.toNat * 2)) = some (.int .i64 (rd_T213 xs i).f0) ∧ w.cell? ⟨(ad.add (i.toNat * 2)).block,(ad.add (i.toNat * 2)).off + 1,none⟩ = some (.string (rd_T213 xs i).f1):=by
 obtain ⟨ad,c,e,_,hK,hc0⟩:=Kd.C_get h z213 i h0 h1;have hc : ∀ j u,c[j]? = some u → w.cell? (ad.add (i.toNat * 2 + j)) = some u:=hc0;obtain rfl:=k213_open hK;exact ⟨ad,e,hc 0 _ rfl,by rw [← add_field _ _ 1 (by omega)];exact hc 1 _ rfl⟩
def rd_L17 (xs : List (List S213)) (i : Int) : (List S213):=xs.getD i.toNat ([] : List S213)
theorem at_L17 {w : World} {A : Option Addr} {n : Nat} {xs : List (List S213)} (h : Kd.C (Kd.slice 213 k213) w A n xs) (i : Int) (h0 : 0 ≤ i) (h1 : i < n) : ∃ ad A0 c0,A = some ad ∧ w.cell? (ad.add i.toNat) = some (.slice A0 (rd_L17 xs i).length c0) ∧ (rd_L17 xs i).length ≤ c0 ∧ k213.C w A0 (rd_L17 xs i).length (rd_L17 xs i):=by
 obtain ⟨ad,c,e,_,hK,hc0⟩:=Kd.C_get h ([] : List S213) i h0 h1;have hc : ∀ j u,c[j]? = some u → w.cell? (ad.add (i.toNat * 1 + j)) = some u:=hc0;obtain ⟨A0,c0,rfl,l0,g0⟩:=hK;exact ⟨ad,A0,c0,e,by have hq:=hc 0 _ rfl;rwa [Nat.mul_one,Nat.add_zero] at hq,l0,g0⟩
structure S191 where
 f0 : Bool
 f1 : Int
 f2 : (List S213)
def z191 : S191:=⟨false,(0 : Int),([] : List S213)⟩
def k191 : Kd S191:=Kd.iso (Kd.pair Kd.bool (Kd.pair (Kd.int .i64) (Kd.slice 213 k213))) (fun x : S191=>(x.f0,x.f1,x.f2))
theorem k191_open {w : World} {x : S191} {cs : List Value} (h : k191.K w x cs) : ∃ A2 c2,cs = [.bool x.f0,.int .i64 x.f1,.slice A2 x.f2.length c2] ∧ x.f2.length ≤ c2 ∧ k213.C w A2 x.f2.length x.f2:=by
 obtain ⟨_,_,rfl,rfl,⟨_,_,rfl,rfl,⟨A2,c2,rfl,l2,g2⟩⟩⟩:=h;exact ⟨A2,c2,rfl,l2,g2⟩
theorem k191_openM {w : World} {base : Nat} {ok : Nat → Prop} {x : S191} {cs : List Value} (h : k191.M w base ok x cs) : ∃ v2,cs = [.bool x.f0,.int .i64 x.f1,v2] ∧ k213.R 213 w base ok v2 x.f2:=by
 obtain ⟨_,_,rfl,rfl,⟨_,_,rfl,rfl,⟨v2,rfl,g2⟩⟩⟩:=h;exact ⟨v2,rfl,g2⟩
theorem k191_mk (w : World) (x : S191) {A2 : Option Addr} {c2 : Nat} (l2 : x.f2.length ≤ c2) (g2 : k213.C w A2 x.f2.length x.f2) : k191.K w x [.bool x.f0,.int .i64 x.f1,.slice A2 x.f2.length c2]:=⟨[.bool x.f0],[.int .i64 x.f1,.slice A2 x.f2.length c2],rfl,rfl,⟨[.int .i64 x.f1],[.slice A2 x.f2.length c2],rfl,rfl,⟨A2,c2,rfl,l2,g2⟩⟩⟩
theorem k191_mkM (w : World) (base : Nat) (ok : Nat → Prop) (x : S191) {v2 : Value} (g2 : k213.R 213 w base ok v2 x.f2) : k191.M w base ok x [.bool x.f0,.int .i64 x.f1,v2]:=⟨[.bool x.f0],[.int .i64 x.f1,v2],rfl,rfl,⟨[.int .i64 x.f1],[v2],rfl,rfl,⟨v2,rfl,g2⟩⟩⟩
theorem k191_openF {W : World} {ok : Nat → Prop} {x : S191} {cs : List Value} (h : Kd.FK k191 W ok x cs) : ∃ A2 c2,cs = [.bool x.f0,.int .i64 x.f1,.slice A2 x.f2.length c2] ∧ x.f2.length ≤ c2 ∧ Kd.F k213 W ok A2 x.f2.length x.f2:=by
 obtain ⟨A2,c2,rfl,l2,_⟩:=k191_open (Kd.FK_now h);exact ⟨A2,c2,rfl,l2,(fun W' hW=>by obtain ⟨A2_,c2_,he,l2_,g2_⟩:=k191_open (h W' hW);injection (Option.some.inj (show some (Value.slice A2 x.f2.length c2) = some (Value.slice A2_ x.f2.length c2_) from congrArg (fun l=>l[2]?) he)) with ha_ _ _;rw [ha_];exact g2_)⟩
theorem k191_mkF (W : World) (ok : Nat → Prop) (x : S191) {A2 : Option Addr} {c2 : Nat} (l2 : x.f2.length ≤ c2) (g2 : Kd.F k213 W ok A2 x.f2.length x.f2) : Kd.FK k191 W ok x [.bool x.f0,.int .i64 x.f1,.slice A2 x.f2.length c2]:=fun W2 hW=>k191_mk W2 x l2 (g2 W2 hW)
def rd_T191 (xs : List S191) (i : Int) : S191:=xs.getD i.toNat z191
theorem at_T191 {w : World} {A : Option Addr} {n : Nat} {xs : List S191} (h : Kd.C k191 w A n xs) (i : Int) (h0 : 0 ≤ i) (h1 : i < n) : ∃ ad A2 c2,A = some ad ∧ w.cell? (ad.add (i.toNat * 3)) = some (.bool (rd_T191 xs i).f0) ∧ w.cell? ⟨(ad.add (i.toNat * 3)).block,(ad.add (i.toNat * 3)).off + 1,none⟩ = some (.int .i64 (rd_T191 xs i).f1) ∧ w.cell? ⟨(ad.add (i.toNat * 3)).block,(ad.add (i.toNat * 3)).off + 2,none⟩ = some (.slice A2 (rd_T191 xs i).f2.length c2) ∧ (rd_T191 xs i).f2.length ≤ c2 ∧ k213.C w A2 (rd_T191 xs i).f2.length (rd_T191 xs i).f2:=by
 obtain ⟨ad,c,e,_,hK,hc0⟩:=Kd.C_get h z191 i h0 h1;have hc : ∀ j u,c[j]? = some u → w.cell? (ad.add (i.toNat * 3 + j)) = some u:=hc0;obtain ⟨A2,c2,rfl,l2,g2⟩:=k191_open hK;exact ⟨ad,A2,c2,e,hc 0 _ rfl,by rw [← add_field _ _ 1 (by omega)];exact hc 1 _ rfl,by rw [← add_field _ _ 2 (by omega)];exact hc 2 _ rfl,l2,g2⟩
end Go.Proofs.Ytdolplcbokioaaa.PB

namespace Go.Proofs.Ytdolplcbokioaaa.PB
open Go.RowKit Go.Proofs.YtdolplcbokioaaaW.PrintWords Go.Proofs.YtdolplcbokioaaaW.PrintLast Go.Proofs.YtdolplcbokioaaaW.PrintMore
attribute [local go_sem] max2_int min2_int max_two min_two max_three min_three max_four min_four   -- for this text's walks alone
set_option linter.unusedVariables false
set_option linter.unusedSimpArgs false
def laws_szIntS.f (l0 : List Int) (a1 : Int) : Option (Int):=if (wrap64 (a1 - (l0.length : Int))) < 0 then (some (-1)) else (some (wrap64 (a1 - (l0.length : Int))))
set_option maxHeartbeats 8000000 in
set_option maxRecDepth 100000 in
theorem laws_szIntS.calls (A0 : Option Addr) (c0 : Nat) (l0 : List Int) (a1 : Int) (r : Int) (w : World) (hr0 : Kd.C (Kd.int .i64) w A0 l0.length l0) (hc0 : l0.length ≤ c0) (h : laws_szIntS.f l0 a1 = some r) :
  Calls Try.prog 162 #[.slice A0 l0.length c0,.int .i64 a1] w fun e w'=>e = .returned (.int .i64 r) ∧ Drawn0 w w':=by
 have HR0:=Aside0.mk hr0;have HC0:=Aside0.mk hc0;clear hr0 hc0;have H : (if (wrap64 (a1 - (l0.length : Int))) < 0 then (some (-1)) else (some (wrap64 (a1 - (l0.length : Int))))) = some r:=h;clear h
 by_cases c3 : (wrap64 (a1 - (l0.length : Int))) < 0
 ·rw [if_pos c3] at H;have c3b0 : decide ((wrap64 (a1 - (l0.length : Int))) < 0) = true:=decide_eq_true c3;clear c3;obtain rfl:=Option.some.inj H
  go_enter Try.func162,Try.ntmps162
  go_wp2
  go_ret
  exact ⟨by first | rfl | (simp;done) | (simp [*];done),by repeat (first | exact Drawn0.refl _ | apply Drawn0.step)⟩
 rw [if_neg c3] at H;have c3b0 : decide ((wrap64 (a1 - (l0.length : Int))) < 0) = false:=decide_eq_false c3;clear c3;obtain rfl:=Option.some.inj H
 go_enter Try.func162,Try.ntmps162
 go_wp2
 go_ret
 exact ⟨by first | rfl | (simp;done) | (simp [*];done),by repeat (first | exact Drawn0.refl _ | apply Drawn0.step)⟩
end Go.Proofs.Ytdolplcbokioaaa.PB

namespace Go.Proofs.Ytdolplcbokioaaa.PB
open Go.RowKit Go.Proofs.YtdolplcbokioaaaW.PrintWords Go.Proofs.YtdolplcbokioaaaW.PrintLast Go.Proofs.YtdolplcbokioaaaW.PrintMore
attribute [local go_sem] max2_int min2_int max_two min_two max_three min_three max_four min_four   -- for this text's walks alone
set_option linter.unusedVariables false
set_option linter.unusedSimpArgs false
def laws_szKnot.f (a0_0 : Bool) (l0_1 : List Int) (a1 : Int) : Option (Int):=(laws_szIntS.f l0_1 a1).bind fun t762=>(if t762 < 0 then (some (-1)) else (some t762))
set_option maxHeartbeats 8000000 in
set_option maxRecDepth 100000 in
theorem laws_szKnot.calls (a0_0 : Bool) (A0_1 : Option Addr) (c0_1 : Nat) (l0_1 : List Int) (a1 : Int) (r : Int) (w : World) (hr0_1 : Kd.C (Kd.int .i64) w A0_1 l0_1.length l0_1) (hc0_1 : l0_1.length ≤ c0_1) (h : laws_szKnot.f a0_0 l0_1 a1 = some r) :
  Calls Try.prog 143 #[.agg #[.bool a0_0,.slice A0_1 l0_1.length c0_1],.int .i64 a1] w fun e w'=>e = .returned (.int .i64 r) ∧ Below w.heap.size w w':=by
 have hu175:=Try.underlying175;have HR0_1:=Aside0.mk hr0_1;have HC0_1:=Aside0.mk hc0_1;clear hr0_1 hc0_1;have HB:=Aside0.mk (Below.refl w.heap.size w);have H : ((laws_szIntS.f l0_1 a1).bind fun t762=>(if t762 < 0 then (some (-1)) else (some t762))) = some r:=h;clear h;replace H:=Option.bind_eq_some_iff.mp H;obtain ⟨t762,A30,H⟩:=H;replace H : (if t762 < 0 then (some (-1)) else (some t762)) = some r:=H;have A3:=Aside0.mk A30;clear A30
 by_cases c4 : t762 < 0
 ·rw [if_pos c4] at H;have c4b0 : decide (t762 < 0) = true:=decide_eq_true c4;clear c4;obtain rfl:=Option.some.inj H
  go_enter Try.func143,Try.ntmps143
  go_wp2_with (first | ((with_reducible refine gate_dst (N:=2) rfl ?_);refine box_event ?hg (N:=2) ?hd (cs:=#[.bool a0_0,.slice A0_1 l0_1.length c0_1]) (t:=175) ?hr ?_;(case hd=>rfl);(case hg=>rfl);(case hr=>first | (go_simp;done) | (go_simp;rfl));intro gb761 hg w5 hbox hb;have n0_:=Aside0.mk (below_step (hs HB) hb);have n1_:=Aside0.mk (hbox);have n2_:=Aside0.mk ((by rw [hg];exact (below_size (hs HB)) : w.heap.size ≤ gb761));have n3_:=Aside0.mk ((by rw [hg];exact (below_size (hs HB)) : w.heap.size ≤ gb761));clear HB;have HB:=n0_;have BK761:=n1_;have GW761:=n2_;have GE761:=n3_;clear n0_ n1_ n2_ n3_;clear hb hbox hg;have hcz6_0 : w5.cell? ⟨gb761,0,none⟩ = some (.bool a0_0):=(blk_cell BK761.out 0).trans rfl;have hcz6_1 : w5.cell? ⟨gb761,1,none⟩ = some (.slice A0_1 l0_1.length c0_1):=(blk_cell BK761.out 1).trans rfl;have hfz6_0:=blk_frozen BK761.out 0;have hfz6_1:=blk_frozen BK761.out 1) | ((with_reducible refine gate_callee (f:=162) rfl ?_);refine goesL_ (some 8) rfl rfl Try.func162 (by kernel_rfl) rfl #[.slice A0_1 l0_1.length c0_1,.int .i64 a1] rfl (by (try simp only [List.map_toArray,List.map_cons,List.map_nil]);first | done | rfl | (simp only [List.length_drop,List.length_take];rfl)) ?_;(with_reducible refine (laws_szIntS.calls _ _ l0_1 a1 t762 _ ?side1 ?side2 A3.out).mono ?_);(case side1=>repeat (first | exact (Kd.C_below HR0_1.out HB.out) | (with_reducible refine Kd.C_alloc ?_ _) | (with_reducible refine Kd.C_drewN ?_ _) | (with_reducible refine Kd.C_drew ?_)));(case side2=>exact HC0_1.out);rintro e w' ⟨rfl,⟨nd,rfl⟩⟩;refine ⟨_,rfl,?_⟩))
  go_ret
  exact ⟨by first | rfl | (simp [errW_none,errW_some] <;> rfl) | (simp [*,errW_none,errW_some] <;> rfl),hs1 HB GE761⟩
 rw [if_neg c4] at H;have c4b0 : decide (t762 < 0) = false:=decide_eq_false c4;clear c4;obtain rfl:=Option.some.inj H
 go_enter Try.func143,Try.ntmps143
 go_wp2_with (first | ((with_reducible refine gate_dst (N:=2) rfl ?_);refine box_event ?hg (N:=2) ?hd (cs:=#[.bool a0_0,.slice A0_1 l0_1.length c0_1]) (t:=175) ?hr ?_;(case hd=>rfl);(case hg=>rfl);(case hr=>first | (go_simp;done) | (go_simp;rfl));intro gb761 hg w7 hbox hb;have n0_:=Aside0.mk (below_step (hs HB) hb);have n1_:=Aside0.mk (hbox);have n2_:=Aside0.mk ((by rw [hg];exact (below_size (hs HB)) : w.heap.size ≤ gb761));have n3_:=Aside0.mk ((by rw [hg];exact (below_size (hs HB)) : w.heap.size ≤ gb761));clear HB;have HB:=n0_;have BK761:=n1_;have GW761:=n2_;have GE761:=n3_;clear n0_ n1_ n2_ n3_;clear hb hbox hg;have hcz8_0 : w7.cell? ⟨gb761,0,none⟩ = some (.bool a0_0):=(blk_cell BK761.out 0).trans rfl;have hcz8_1 : w7.cell? ⟨gb761,1,none⟩ = some (.slice A0_1 l0_1.length c0_1):=(blk_cell BK761.out 1).trans rfl;have hfz8_0:=blk_frozen BK761.out 0;have hfz8_1:=blk_frozen BK761.out 1) | ((with_reducible refine gate_callee (f:=162) rfl ?_);refine goesL_ (some 8) rfl rfl Try.func162 (by kernel_rfl) rfl #[.slice A0_1 l0_1.length c0_1,.int .i64 a1] rfl (by (try simp only [List.map_toArray,List.map_cons,List.map_nil]);first | done | rfl | (simp only [List.length_drop,List.length_take];rfl)) ?_;(with_reducible refine (laws_szIntS.calls _ _ l0_1 a1 t762 _ ?side1 ?side2 A3.out).mono ?_);(case side1=>repeat (first | exact (Kd.C_below HR0_1.out HB.out) | (with_reducible refine Kd.C_alloc ?_ _) | (with_reducible refine Kd.C_drewN ?_ _) | (with_reducible refine Kd.C_drew ?_)));(case side2=>exact HC0_1.out);rintro e w' ⟨rfl,⟨nd,rfl⟩⟩;refine ⟨_,rfl,?_⟩))
 go_ret
 exact ⟨by first | rfl | (simp [errW_none,errW_some] <;> rfl) | (simp [*,errW_none,errW_some] <;> rfl),hs1 HB GE761⟩
end Go.Proofs.Ytdolplcbokioaaa.PB

namespace Go.Proofs.Ytdolplcbokioaaa.PB
open Go.RowKit Go.Proofs.YtdolplcbokioaaaW.PrintWords Go.Proofs.YtdolplcbokioaaaW.PrintLast Go.Proofs.YtdolplcbokioaaaW.PrintMore
attribute [local go_sem] max2_int min2_int max_two min_two max_three min_three max_four min_four   -- for this text's walks alone
set_option linter.unusedVariables false
set_option linter.unusedSimpArgs false
def laws_szKnotS.l0 : Nat → List (S175) → Int → Int → Option (Int)
 | 0,_,_,_=>none
 | k + 1,x0,x1,x5=>if x5 < (x0.length : Int) then (if 0 ≤ x5 then ((laws_szKnot.f ((rd_T175 x0 x5).f0) ((rd_T175 x0 x5).f1) x1).bind fun t764=>(if t764 < 0 then (some (-1)) else (laws_szKnotS.l0 k x0 t764 (wrap64 (x5 + 1))))) else (none)) else (some x1)
def laws_szKnotS.f (k : Nat) (l0 : List (S175)) (a1 : Int) : Option (Int):=if (wrap64 (a1 - (l0.length : Int))) < 0 then (some (-1)) else (laws_szKnotS.l0 k l0 (wrap64 (a1 - (l0.length : Int))) 0)
theorem laws_szKnotS.mono_l : ∀ k,(∀ y0 y1 y2,LeO (laws_szKnotS.l0 k y0 y1 y2) (laws_szKnotS.l0 (k + 1) y0 y1 y2))
 | 0=>fun _ _ _ r h=>by simp [laws_szKnotS.l0] at h
 | k + 1=>by
  have ih0:=laws_szKnotS.mono_l k;intro y0 y1 y2;unfold laws_szKnotS.l0
  repeat' first
  | (with_reducible exact ih0 _ _ _)
  | (with_reducible exact LeO.refl _)
  | (with_reducible exact LeO.none _)
  | (with_reducible refine LeO.ite ?_ ?_)
  | (with_reducible refine LeO.bind ?_ (fun _=>?_))
  | exact ih0 _ _ _
  | exact LeO.none _
  | refine LeO.ite ?_ ?_
  | refine LeO.bind ?_ (fun _=>?_)
theorem laws_szKnotS.mono : ∀ a0 a1 k,LeO (laws_szKnotS.f k a0 a1) (laws_szKnotS.f (k + 1) a0 a1):=by
 intro a0 a1 k;have ih0:=laws_szKnotS.mono_l k;unfold laws_szKnotS.f
 repeat' first
   | (with_reducible exact ih0 _ _ _)
   | (with_reducible exact LeO.refl _)
   | (with_reducible exact LeO.none _)
   | (with_reducible refine LeO.ite ?_ ?_)
   | (with_reducible refine LeO.bind ?_ (fun _=>?_))
   | exact ih0 _ _ _
   | exact LeO.none _
   | refine LeO.ite ?_ ?_
   | refine LeO.bind ?_ (fun _=>?_)
set_option maxHeartbeats 8000000 in
set_option maxRecDepth 100000 in
theorem laws_szKnotS.calls (k : Nat) (A0 : Option Addr) (c0 : Nat) (l0 : List (S175)) (a1 : Int) (r : Int) (w : World) (hr0 : Kd.C k175 w A0 l0.length l0) (hc0 : l0.length ≤ c0) (h : laws_szKnotS.f k l0 a1 = some r) :
  Calls Try.prog 97 #[.slice A0 l0.length c0,.int .i64 a1] w fun e w'=>e = .returned (.int .i64 r) ∧ Below w.heap.size w w':=by
 have hu175:=Try.underlying175;have HR0:=Aside0.mk hr0;have HC0:=Aside0.mk hc0;clear hr0 hc0;have HB:=Aside0.mk (Below.refl w.heap.size w);have H : (if (wrap64 (a1 - (l0.length : Int))) < 0 then (some (-1)) else (laws_szKnotS.l0 k l0 (wrap64 (a1 - (l0.length : Int))) 0)) = some r:=h;clear h
 by_cases c3 : (wrap64 (a1 - (l0.length : Int))) < 0
 ·rw [if_pos c3] at H;have c3b0 : decide ((wrap64 (a1 - (l0.length : Int))) < 0) = true:=decide_eq_true c3;clear c3;obtain rfl:=Option.some.inj H
  go_enter Try.func97,Try.ntmps97
  go_wp2
  go_ret
  exact ⟨by first | rfl | (simp [errW_none,errW_some] <;> rfl) | (simp [*,errW_none,errW_some] <;> rfl),hs HB⟩
 rw [if_neg c3] at H;have c3b0 : decide ((wrap64 (a1 - (l0.length : Int))) < 0) = false:=decide_eq_false c3;clear c3;have H':=Aside0.mk H;clear H
 go_enter Try.func97,Try.ntmps97
 go_wp2
 go_loopg [1,5] k (fun kq v1 v5 w'=>∃ (x1_1 : Int) (x5_1 : Int),v1 = .int .i64 x1_1 ∧ v5 = .int .i64 x5_1 ∧ Aside0 (laws_szKnotS.l0 kq l0 x1_1 x5_1 = some r) ∧ Aside0 (kq ≤ k) ∧ Aside0 (Below w.heap.size w w'));case atStart=>exact ⟨(wrap64 (a1 - (l0.length : Int))),(0),(by first | rfl | (simp;done) | (simp [*];done)),(by first | rfl | (simp;done) | (simp [*];done)),H',⟨Nat.le_refl _⟩,⟨hs HB⟩⟩
 case round =>
  clear H'
  try clear p2
  try clear c3
  try clear c3b0
  obtain ⟨x1_1,x5_1,rfl,rfl,HA,HK1,HB⟩:=hrel;cases gk with
  | zero=>exact absurd HA.out (by simp [laws_szKnotS.l0])
  | succ k1 =>
   have H:=HA.out;clear HA;simp only [laws_szKnotS.l0] at H
   by_cases c4 : x5_1 < (l0.length : Int)
   ·rw [if_pos c4] at H;have c4b0 : decide (x5_1 < (l0.length : Int)) = true:=decide_eq_true c4;clear c4
    by_cases c5 : 0 ≤ x5_1
    ·rw [if_pos c5] at H;have c5b0 : decide (0 ≤ x5_1) = true:=decide_eq_true c5;clear c5;replace H:=Option.bind_eq_some_iff.mp H;obtain ⟨t764,A60,H⟩:=H;replace H : (if t764 < 0 then (some (-1)) else (laws_szKnotS.l0 k1 l0 t764 (wrap64 (x5_1 + 1)))) = some r:=H;have A6:=Aside0.mk A60;clear A60
     by_cases c7 : t764 < 0
     ·rw [if_pos c7] at H;have c7b0 : decide (t764 < 0) = true:=decide_eq_true c7;clear c7;obtain rfl:=Option.some.inj H;have p763 : 0 ≤ (x5_1 : Int):=of_decide_eq_true (by first | (with_reducible assumption) | assumption);have q763 : x5_1 < (l0.length : Int):=of_decide_eq_true (by first | (with_reducible assumption) | assumption);obtain ⟨ad763,A763_1,c763_1,e763,hx763_0,hx763_1,hl763_1,hi763_1⟩:=at_T175 HR0.out x5_1 p763 q763;cases e763;replace hx763_0:=(HB.out.cell (World.block_lt_of_cell? w _ hx763_0)).trans hx763_0;replace hx763_1:=(HB.out.cell (World.block_lt_of_cell? w _ hx763_1)).trans hx763_1;have HR763_1:=Aside0.mk hi763_1;have HC763_1:=Aside0.mk hl763_1;clear hi763_1 hl763_1;replace p763:=eq_true p763;replace q763:=eq_true q763;go_wp2_with (first | ((with_reducible refine gate_callee (f:=143) rfl ?_);refine goesL_ (some 23) rfl rfl Try.func143 (by kernel_rfl) rfl #[.agg #[.bool ((rd_T175 l0 x5_1).f0),.slice A763_1 ((rd_T175 l0 x5_1).f1).length c763_1],.int .i64 x1_1] rfl (by (try simp only [List.map_toArray,List.map_cons,List.map_nil]);first | done | rfl | (simp only [List.length_drop,List.length_take];rfl)) ?_;(with_reducible refine (laws_szKnot.calls ((rd_T175 l0 x5_1).f0) _ _ ((rd_T175 l0 x5_1).f1) x1_1 t764 _ ?side1 ?side2 A6.out).mono ?_);(case side1=>repeat (first | exact (Kd.C_below HR763_1.out HB.out) | (with_reducible refine Kd.C_alloc ?_ _) | (with_reducible refine Kd.C_drewN ?_ _) | (with_reducible refine Kd.C_drew ?_)));(case side2=>exact HC763_1.out);rintro e w8 ⟨rfl,hb⟩;refine ⟨_,rfl,?_⟩;have n0_:=Aside0.mk (below_step (hs HB) hb);clear HB;have HB:=n0_;clear n0_;(try clear hb);(try clear hb2);(try clear hk);(try clear hi)))
      go_ret
      exact ⟨by first | rfl | (simp [errW_none,errW_some] <;> rfl) | (simp [*,errW_none,errW_some] <;> rfl),hs HB⟩
     rw [if_neg c7] at H;have c7b0 : decide (t764 < 0) = false:=decide_eq_false c7;clear c7;have H':=Aside0.mk H;clear H;have p763 : 0 ≤ (x5_1 : Int):=of_decide_eq_true (by first | (with_reducible assumption) | assumption);have q763 : x5_1 < (l0.length : Int):=of_decide_eq_true (by first | (with_reducible assumption) | assumption);obtain ⟨ad763,A763_1,c763_1,e763,hx763_0,hx763_1,hl763_1,hi763_1⟩:=at_T175 HR0.out x5_1 p763 q763;cases e763;replace hx763_0:=(HB.out.cell (World.block_lt_of_cell? w _ hx763_0)).trans hx763_0;replace hx763_1:=(HB.out.cell (World.block_lt_of_cell? w _ hx763_1)).trans hx763_1;have HR763_1:=Aside0.mk hi763_1;have HC763_1:=Aside0.mk hl763_1;clear hi763_1 hl763_1;replace p763:=eq_true p763;replace q763:=eq_true q763;go_wp2_with (first | ((with_reducible refine gate_callee (f:=143) rfl ?_);refine goesL_ (some 23) rfl rfl Try.func143 (by kernel_rfl) rfl #[.agg #[.bool ((rd_T175 l0 x5_1).f0),.slice A763_1 ((rd_T175 l0 x5_1).f1).length c763_1],.int .i64 x1_1] rfl (by (try simp only [List.map_toArray,List.map_cons,List.map_nil]);first | done | rfl | (simp only [List.length_drop,List.length_take];rfl)) ?_;(with_reducible refine (laws_szKnot.calls ((rd_T175 l0 x5_1).f0) _ _ ((rd_T175 l0 x5_1).f1) x1_1 t764 _ ?side1 ?side2 A6.out).mono ?_);(case side1=>repeat (first | exact (Kd.C_below HR763_1.out HB.out) | (with_reducible refine Kd.C_alloc ?_ _) | (with_reducible refine Kd.C_drewN ?_ _) | (with_reducible refine Kd.C_drew ?_)));(case side2=>exact HC763_1.out);rintro e w9 ⟨rfl,hb⟩;refine ⟨_,rfl,?_⟩;have n0_:=Aside0.mk (below_step (hs HB) hb);clear HB;have HB:=n0_;clear n0_;(try clear hb);(try clear hb2);(try clear hk);(try clear hi)));go_roundg k1;case measure=>have:=HK1.out;omega
     case rel=>exact ⟨(t764),(wrap64 (x5_1 + 1)),(by first | rfl | (simp;done) | (simp [*];done)),(by first | rfl | (simp;done) | (simp [*];done)),H',⟨by have:=HK1.out;omega⟩,⟨hs HB⟩⟩
    rw [if_neg c5] at H;exact absurd H (by simp)
   rw [if_neg c4] at H;have c4b0 : decide (x5_1 < (l0.length : Int)) = false:=decide_eq_false c4;clear c4;obtain rfl:=Option.some.inj H
   go_wp2
   go_ret
   exact ⟨by first | rfl | (simp [errW_none,errW_some] <;> rfl) | (simp [*,errW_none,errW_some] <;> rfl),hs HB⟩
end Go.Proofs.Ytdolplcbokioaaa.PB

namespace Go.Proofs.Ytdolplcbokioaaa.PB
open Go.RowKit Go.Proofs.YtdolplcbokioaaaW.PrintWords Go.Proofs.YtdolplcbokioaaaW.PrintLast Go.Proofs.YtdolplcbokioaaaW.PrintMore
attribute [local go_sem] max2_int min2_int max_two min_two max_three min_three max_four min_four   -- for this text's walks alone
set_option linter.unusedVariables false
set_option linter.unusedSimpArgs false
def laws_szArena.f (k : Nat) (l0_0 : List (S175)) (a1 : Int) : Option (Int):=(laws_szKnotS.f k l0_0 a1).bind fun t766=>(if t766 < 0 then (some (-1)) else (some t766))
theorem laws_szArena.mono : ∀ a0 a1 k,LeO (laws_szArena.f k a0 a1) (laws_szArena.f (k + 1) a0 a1):=by
 intro a0 a1 k;unfold laws_szArena.f
 repeat' first
   | (with_reducible exact laws_szKnotS.mono _ _ _)
   | (with_reducible exact LeO.refl _)
   | (with_reducible exact LeO.none _)
   | (with_reducible refine LeO.ite ?_ ?_)
   | (with_reducible refine LeO.bind ?_ (fun _=>?_))
   | exact laws_szKnotS.mono _ _ _
   | exact LeO.none _
   | refine LeO.ite ?_ ?_
   | refine LeO.bind ?_ (fun _=>?_)
set_option maxHeartbeats 8000000 in
set_option maxRecDepth 100000 in
theorem laws_szArena.calls (k : Nat) (A0_0 : Option Addr) (c0_0 : Nat) (l0_0 : List (S175)) (a1 : Int) (r : Int) (w : World) (hr0_0 : Kd.C k175 w A0_0 l0_0.length l0_0) (hc0_0 : l0_0.length ≤ c0_0) (h : laws_szArena.f k l0_0 a1 = some r) :
  Calls Try.prog 29 #[.agg #[.slice A0_0 l0_0.length c0_0],.int .i64 a1] w fun e w'=>e = .returned (.int .i64 r) ∧ Below w.heap.size w w':=by
 have hu53:=Try.underlying53;have HR0_0:=Aside0.mk hr0_0;have HC0_0:=Aside0.mk hc0_0;clear hr0_0 hc0_0;have HB:=Aside0.mk (Below.refl w.heap.size w);have H : ((laws_szKnotS.f k l0_0 a1).bind fun t766=>(if t766 < 0 then (some (-1)) else (some t766))) = some r:=h;clear h;replace H:=Option.bind_eq_some_iff.mp H;obtain ⟨t766,A30,H⟩:=H;replace H : (if t766 < 0 then (some (-1)) else (some t766)) = some r:=H;have A3:=Aside0.mk A30;clear A30
 by_cases c4 : t766 < 0
 ·rw [if_pos c4] at H;have c4b0 : decide (t766 < 0) = true:=decide_eq_true c4;clear c4;obtain rfl:=Option.some.inj H
  go_enter Try.func29,Try.ntmps29
  go_wp2_with (first | ((with_reducible refine gate_dst (N:=2) rfl ?_);refine box_event ?hg (N:=2) ?hd (cs:=#[.slice A0_0 l0_0.length c0_0]) (t:=53) ?hr ?_;(case hd=>rfl);(case hg=>rfl);(case hr=>first | (go_simp;done) | (go_simp;rfl));intro gb765 hg w5 hbox hb;have n0_:=Aside0.mk (below_step (hs HB) hb);have n1_:=Aside0.mk (hbox);have n2_:=Aside0.mk ((by rw [hg];exact (below_size (hs HB)) : w.heap.size ≤ gb765));have n3_:=Aside0.mk ((by rw [hg];exact (below_size (hs HB)) : w.heap.size ≤ gb765));clear HB;have HB:=n0_;have BK765:=n1_;have GW765:=n2_;have GE765:=n3_;clear n0_ n1_ n2_ n3_;clear hb hbox hg;have hcz6_0 : w5.cell? ⟨gb765,0,none⟩ = some (.slice A0_0 l0_0.length c0_0):=(blk_cell BK765.out 0).trans rfl;have hfz6_0:=blk_frozen BK765.out 0) | ((with_reducible refine gate_callee (f:=97) rfl ?_);refine goesL_ (some 8) rfl rfl Try.func97 (by kernel_rfl) rfl #[.slice A0_0 l0_0.length c0_0,.int .i64 a1] rfl (by (try simp only [List.map_toArray,List.map_cons,List.map_nil]);first | done | rfl | (simp only [List.length_drop,List.length_take];rfl)) ?_;(with_reducible refine (laws_szKnotS.calls k _ _ l0_0 a1 t766 _ ?side1 ?side2 A3.out).mono ?_);(case side1=>repeat (first | exact (Kd.C_below HR0_0.out HB.out) | (with_reducible refine Kd.C_alloc ?_ _) | (with_reducible refine Kd.C_drewN ?_ _) | (with_reducible refine Kd.C_drew ?_)));(case side2=>exact HC0_0.out);rintro e w7 ⟨rfl,hb⟩;refine ⟨_,rfl,?_⟩;have n0_:=Aside0.mk (blk_below (g:=gb765) (o:=.cells #[.slice A0_0 l0_0.length c0_0] 53 (0,0)) (bs BK765) hb);have n1_:=Aside0.mk (below_step (hs1 HB GE765) hb);clear BK765;clear HB;have BK765:=n0_;have HB:=n1_;clear n0_ n1_;(try clear hb);(try clear hb2);(try clear hk);(try clear hi)))
  go_ret
  exact ⟨by first | rfl | (simp [errW_none,errW_some] <;> rfl) | (simp [*,errW_none,errW_some] <;> rfl),hs1 HB GE765⟩
 rw [if_neg c4] at H;have c4b0 : decide (t766 < 0) = false:=decide_eq_false c4;clear c4;obtain rfl:=Option.some.inj H
 go_enter Try.func29,Try.ntmps29
 go_wp2_with (first | ((with_reducible refine gate_dst (N:=2) rfl ?_);refine box_event ?hg (N:=2) ?hd (cs:=#[.slice A0_0 l0_0.length c0_0]) (t:=53) ?hr ?_;(case hd=>rfl);(case hg=>rfl);(case hr=>first | (go_simp;done) | (go_simp;rfl));intro gb765 hg w8 hbox hb;have n0_:=Aside0.mk (below_step (hs HB) hb);have n1_:=Aside0.mk (hbox);have n2_:=Aside0.mk ((by rw [hg];exact (below_size (hs HB)) : w.heap.size ≤ gb765));have n3_:=Aside0.mk ((by rw [hg];exact (below_size (hs HB)) : w.heap.size ≤ gb765));clear HB;have HB:=n0_;have BK765:=n1_;have GW765:=n2_;have GE765:=n3_;clear n0_ n1_ n2_ n3_;clear hb hbox hg;have hcz9_0 : w8.cell? ⟨gb765,0,none⟩ = some (.slice A0_0 l0_0.length c0_0):=(blk_cell BK765.out 0).trans rfl;have hfz9_0:=blk_frozen BK765.out 0) | ((with_reducible refine gate_callee (f:=97) rfl ?_);refine goesL_ (some 8) rfl rfl Try.func97 (by kernel_rfl) rfl #[.slice A0_0 l0_0.length c0_0,.int .i64 a1] rfl (by (try simp only [List.map_toArray,List.map_cons,List.map_nil]);first | done | rfl | (simp only [List.length_drop,List.length_take];rfl)) ?_;(with_reducible refine (laws_szKnotS.calls k _ _ l0_0 a1 t766 _ ?side1 ?side2 A3.out).mono ?_);(case side1=>repeat (first | exact (Kd.C_below HR0_0.out HB.out) | (with_reducible refine Kd.C_alloc ?_ _) | (with_reducible refine Kd.C_drewN ?_ _) | (with_reducible refine Kd.C_drew ?_)));(case side2=>exact HC0_0.out);rintro e w10 ⟨rfl,hb⟩;refine ⟨_,rfl,?_⟩;have n0_:=Aside0.mk (blk_below (g:=gb765) (o:=.cells #[.slice A0_0 l0_0.length c0_0] 53 (0,0)) (bs BK765) hb);have n1_:=Aside0.mk (below_step (hs1 HB GE765) hb);clear BK765;clear HB;have BK765:=n0_;have HB:=n1_;clear n0_ n1_;(try clear hb);(try clear hb2);(try clear hk);(try clear hi)))
 go_ret
 exact ⟨by first | rfl | (simp [errW_none,errW_some] <;> rfl) | (simp [*,errW_none,errW_some] <;> rfl),hs1 HB GE765⟩
end Go.Proofs.Ytdolplcbokioaaa.PB

namespace Go.Proofs.Ytdolplcbokioaaa.PB
open Go.RowKit Go.Proofs.YtdolplcbokioaaaW.PrintWords Go.Proofs.YtdolplcbokioaaaW.PrintLast Go.Proofs.YtdolplcbokioaaaW.PrintMore
attribute [local go_sem] max2_int min2_int max_two min_two max_three min_three max_four min_four   -- for this text's walks alone
set_option linter.unusedVariables false
set_option linter.unusedSimpArgs false
def laws_szVolS.f (l0 : List (S184)) (a1 : Int) : Option (Int):=if (wrap64 (a1 - (l0.length : Int))) < 0 then (some (-1)) else (some (wrap64 (a1 - (l0.length : Int))))
set_option maxHeartbeats 8000000 in
set_option maxRecDepth 100000 in
theorem laws_szVolS.calls (A0 : Option Addr) (c0 : Nat) (l0 : List (S184)) (a1 : Int) (r : Int) (w : World) (hr0 : Kd.C k184 w A0 l0.length l0) (hc0 : l0.length ≤ c0) (h : laws_szVolS.f l0 a1 = some r) :
  Calls Try.prog 112 #[.slice A0 l0.length c0,.int .i64 a1] w fun e w'=>e = .returned (.int .i64 r) ∧ Drawn0 w w':=by
 have HR0:=Aside0.mk hr0;have HC0:=Aside0.mk hc0;clear hr0 hc0;have H : (if (wrap64 (a1 - (l0.length : Int))) < 0 then (some (-1)) else (some (wrap64 (a1 - (l0.length : Int))))) = some r:=h;clear h
 by_cases c3 : (wrap64 (a1 - (l0.length : Int))) < 0
 ·rw [if_pos c3] at H;have c3b0 : decide ((wrap64 (a1 - (l0.length : Int))) < 0) = true:=decide_eq_true c3;clear c3;obtain rfl:=Option.some.inj H
  go_enter Try.func112,Try.ntmps112
  go_wp2
  go_ret
  exact ⟨by first | rfl | (simp;done) | (simp [*];done),by repeat (first | exact Drawn0.refl _ | apply Drawn0.step)⟩
 rw [if_neg c3] at H;have c3b0 : decide ((wrap64 (a1 - (l0.length : Int))) < 0) = false:=decide_eq_false c3;clear c3;obtain rfl:=Option.some.inj H
 go_enter Try.func112,Try.ntmps112
 go_wp2
 go_ret
 exact ⟨by first | rfl | (simp;done) | (simp [*];done),by repeat (first | exact Drawn0.refl _ | apply Drawn0.step)⟩
end Go.Proofs.Ytdolplcbokioaaa.PB

namespace Go.Proofs.Ytdolplcbokioaaa.PB
open Go.RowKit Go.Proofs.YtdolplcbokioaaaW.PrintWords Go.Proofs.YtdolplcbokioaaaW.PrintLast Go.Proofs.YtdolplcbokioaaaW.PrintMore
attribute [local go_sem] max2_int min2_int max_two min_two max_three min_three max_four min_four   -- for this text's walks alone
set_option linter.unusedVariables false
set_option linter.unusedSimpArgs false
def laws_szStore.f (k : Nat) (l0_0 : List (S184)) (l0_1 : List (S175)) (a0_2 : Int) (a1 : Int) : Option (Int):=(laws_szVolS.f l0_0 a1).bind fun t1068=>(if t1068 < 0 then (some (-1)) else ((laws_szArena.f k l0_1 t1068).bind fun t1069=>(if t1069 < 0 then (some (-1)) else (some t1069))))
theorem laws_szStore.mono : ∀ a0 a1 a2 a3 k,LeO (laws_szStore.f k a0 a1 a2 a3) (laws_szStore.f (k + 1) a0 a1 a2 a3):=by
 intro a0 a1 a2 a3 k;unfold laws_szStore.f
 repeat' first
   | (with_reducible exact laws_szArena.mono _ _ _)
   | (with_reducible exact LeO.refl _)
   | (with_reducible exact LeO.none _)
   | (with_reducible refine LeO.ite ?_ ?_)
   | (with_reducible refine LeO.bind ?_ (fun _=>?_))
   | exact laws_szArena.mono _ _ _
   | exact LeO.none _
   | refine LeO.ite ?_ ?_
   | refine LeO.bind ?_ (fun _=>?_)
set_option maxHeartbeats 8000000 in
set_option maxRecDepth 100000 in
theorem laws_szStore.calls (k : Nat) (A0_0 : Option Addr) (c0_0 : Nat) (l0_0 : List (S184)) (A0_1 : Option Addr) (c0_1 : Nat) (l0_1 : List (S175)) (a0_2 : Int) (a1 : Int) (r : Int) (w : World) (hr0_0 : Kd.C k184 w A0_0 l0_0.length l0_0) (hc0_0 : l0_0.length ≤ c0_0) (hr0_1 : Kd.C k175 w A0_1 l0_1.length l0_1) (hc0_1 : l0_1.length ≤ c0_1) (h : laws_szStore.f k l0_0 l0_1 a0_2 a1 = some r) :
  Calls Try.prog 44 #[.agg #[.slice A0_0 l0_0.length c0_0,.slice A0_1 l0_1.length c0_1,.int .i64 a0_2],.int .i64 a1] w fun e w'=>e = .returned (.int .i64 r) ∧ Below w.heap.size w w':=by
 have hu78:=Try.underlying78;have hu53:=Try.underlying53;have HR0_0:=Aside0.mk hr0_0;have HC0_0:=Aside0.mk hc0_0;clear hr0_0 hc0_0;have HR0_1:=Aside0.mk hr0_1;have HC0_1:=Aside0.mk hc0_1;clear hr0_1 hc0_1;have HB:=Aside0.mk (Below.refl w.heap.size w);have H : ((laws_szVolS.f l0_0 a1).bind fun t1068=>(if t1068 < 0 then (some (-1)) else ((laws_szArena.f k l0_1 t1068).bind fun t1069=>(if t1069 < 0 then (some (-1)) else (some t1069))))) = some r:=h;clear h;replace H:=Option.bind_eq_some_iff.mp H;obtain ⟨t1068,A30,H⟩:=H;replace H : (if t1068 < 0 then (some (-1)) else ((laws_szArena.f k l0_1 t1068).bind fun t1069=>(if t1069 < 0 then (some (-1)) else (some t1069)))) = some r:=H;have A3:=Aside0.mk A30;clear A30
 by_cases c4 : t1068 < 0
 ·rw [if_pos c4] at H;have c4b0 : decide (t1068 < 0) = true:=decide_eq_true c4;clear c4;obtain rfl:=Option.some.inj H
  go_enter Try.func44,Try.ntmps44
  go_wp2_with (first | ((with_reducible refine gate_dst (N:=2) rfl ?_);refine box_event ?hg (N:=2) ?hd (cs:=#[.slice A0_0 l0_0.length c0_0,.slice A0_1 l0_1.length c0_1,.int .i64 a0_2]) (t:=78) ?hr ?_;(case hd=>rfl);(case hg=>rfl);(case hr=>first | (go_simp;done) | (go_simp;rfl));intro gb1067 hg w5 hbox hb;have n0_:=Aside0.mk (below_step (hs HB) hb);have n1_:=Aside0.mk (hbox);have n2_:=Aside0.mk ((by rw [hg];exact (below_size (hs HB)) : w.heap.size ≤ gb1067));have n3_:=Aside0.mk ((by rw [hg];exact (below_size (hs HB)) : w.heap.size ≤ gb1067));clear HB;have HB:=n0_;have BK1067:=n1_;have GW1067:=n2_;have GE1067:=n3_;clear n0_ n1_ n2_ n3_;clear hb hbox hg;have hcz6_0 : w5.cell? ⟨gb1067,0,none⟩ = some (.slice A0_0 l0_0.length c0_0):=(blk_cell BK1067.out 0).trans rfl;have hcz6_1 : w5.cell? ⟨gb1067,1,none⟩ = some (.slice A0_1 l0_1.length c0_1):=(blk_cell BK1067.out 1).trans rfl;have hcz6_2 : w5.cell? ⟨gb1067,2,none⟩ = some (.int .i64 a0_2):=(blk_cell BK1067.out 2).trans rfl;have hfz6_0:=blk_frozen BK1067.out 0;have hfz6_1:=blk_frozen BK1067.out 1;have hfz6_2:=blk_frozen BK1067.out 2) | ((with_reducible refine gate_callee (f:=112) rfl ?_);refine goesL_ (some 8) rfl rfl Try.func112 (by kernel_rfl) rfl #[.slice A0_0 l0_0.length c0_0,.int .i64 a1] rfl (by (try simp only [List.map_toArray,List.map_cons,List.map_nil]);first | done | rfl | (simp only [List.length_drop,List.length_take];rfl)) ?_;(with_reducible refine (laws_szVolS.calls _ _ l0_0 a1 t1068 _ ?side1 ?side2 A3.out).mono ?_);(case side1=>repeat (first | exact (Kd.C_below HR0_0.out HB.out) | (with_reducible refine Kd.C_alloc ?_ _) | (with_reducible refine Kd.C_drewN ?_ _) | (with_reducible refine Kd.C_drew ?_)));(case side2=>exact HC0_0.out);rintro e w' ⟨rfl,⟨nd,rfl⟩⟩;refine ⟨_,rfl,?_⟩))
  go_ret
  exact ⟨by first | rfl | (simp [errW_none,errW_some] <;> rfl) | (simp [*,errW_none,errW_some] <;> rfl),hs1 HB GE1067⟩
 rw [if_neg c4] at H;have c4b0 : decide (t1068 < 0) = false:=decide_eq_false c4;clear c4;replace H:=Option.bind_eq_some_iff.mp H;obtain ⟨t1069,A70,H⟩:=H;replace H : (if t1069 < 0 then (some (-1)) else (some t1069)) = some r:=H;have A7:=Aside0.mk A70;clear A70
 by_cases c8 : t1069 < 0
 ·rw [if_pos c8] at H;have c8b0 : decide (t1069 < 0) = true:=decide_eq_true c8;clear c8;obtain rfl:=Option.some.inj H
  go_enter Try.func44,Try.ntmps44
  go_wp2_with (first | ((with_reducible refine gate_dst (N:=2) rfl ?_);refine box_event ?hg (N:=2) ?hd (cs:=#[.slice A0_0 l0_0.length c0_0,.slice A0_1 l0_1.length c0_1,.int .i64 a0_2]) (t:=78) ?hr ?_;(case hd=>rfl);(case hg=>rfl);(case hr=>first | (go_simp;done) | (go_simp;rfl));intro gb1067 hg w9 hbox hb;have n0_:=Aside0.mk (below_step (hs HB) hb);have n1_:=Aside0.mk (hbox);have n2_:=Aside0.mk ((by rw [hg];exact (below_size (hs HB)) : w.heap.size ≤ gb1067));have n3_:=Aside0.mk ((by rw [hg];exact (below_size (hs HB)) : w.heap.size ≤ gb1067));clear HB;have HB:=n0_;have BK1067:=n1_;have GW1067:=n2_;have GE1067:=n3_;clear n0_ n1_ n2_ n3_;clear hb hbox hg;have hcz10_0 : w9.cell? ⟨gb1067,0,none⟩ = some (.slice A0_0 l0_0.length c0_0):=(blk_cell BK1067.out 0).trans rfl;have hcz10_1 : w9.cell? ⟨gb1067,1,none⟩ = some (.slice A0_1 l0_1.length c0_1):=(blk_cell BK1067.out 1).trans rfl;have hcz10_2 : w9.cell? ⟨gb1067,2,none⟩ = some (.int .i64 a0_2):=(blk_cell BK1067.out 2).trans rfl;have hfz10_0:=blk_frozen BK1067.out 0;have hfz10_1:=blk_frozen BK1067.out 1;have hfz10_2:=blk_frozen BK1067.out 2) | ((with_reducible refine gate_callee (f:=112) rfl ?_);refine goesL_ (some 8) rfl rfl Try.func112 (by kernel_rfl) rfl #[.slice A0_0 l0_0.length c0_0,.int .i64 a1] rfl (by (try simp only [List.map_toArray,List.map_cons,List.map_nil]);first | done | rfl | (simp only [List.length_drop,List.length_take];rfl)) ?_;(with_reducible refine (laws_szVolS.calls _ _ l0_0 a1 t1068 _ ?side1 ?side2 A3.out).mono ?_);(case side1=>repeat (first | exact (Kd.C_below HR0_0.out HB.out) | (with_reducible refine Kd.C_alloc ?_ _) | (with_reducible refine Kd.C_drewN ?_ _) | (with_reducible refine Kd.C_drew ?_)));(case side2=>exact HC0_0.out);rintro e w' ⟨rfl,⟨nd,rfl⟩⟩;refine ⟨_,rfl,?_⟩) | ((with_reducible refine gate_callee (f:=29) rfl ?_);refine goesL_ (some 14) rfl rfl Try.func29 (by kernel_rfl) rfl #[.agg #[.slice A0_1 l0_1.length c0_1],.int .i64 t1068] rfl (by (try simp only [List.map_toArray,List.map_cons,List.map_nil]);first | done | rfl | (simp only [List.length_drop,List.length_take];rfl)) ?_;(with_reducible refine (laws_szArena.calls k _ _ l0_1 t1068 t1069 _ ?side1 ?side2 A7.out).mono ?_);(case side1=>repeat (first | exact (Kd.C_below HR0_1.out (hs1 HB GE1067)) | (with_reducible refine Kd.C_alloc ?_ _) | (with_reducible refine Kd.C_drewN ?_ _) | (with_reducible refine Kd.C_drew ?_)));(case side2=>exact HC0_1.out);rintro e w11 ⟨rfl,hb⟩;refine ⟨_,rfl,?_⟩;have n0_:=Aside0.mk (blk_below (g:=gb1067) (o:=.cells #[.slice A0_0 l0_0.length c0_0,.slice A0_1 l0_1.length c0_1,.int .i64 a0_2] 78 (0,0)) (bs BK1067) hb);have n1_:=Aside0.mk (below_step (hs1 HB GE1067) hb);clear BK1067;clear HB;have BK1067:=n0_;have HB:=n1_;clear n0_ n1_;(try clear hb);(try clear hb2);(try clear hk);(try clear hi)))
  go_ret
  exact ⟨by first | rfl | (simp [errW_none,errW_some] <;> rfl) | (simp [*,errW_none,errW_some] <;> rfl),hs1 HB GE1067⟩
 rw [if_neg c8] at H;have c8b0 : decide (t1069 < 0) = false:=decide_eq_false c8;clear c8;obtain rfl:=Option.some.inj H
 go_enter Try.func44,Try.ntmps44
 go_wp2_with (first | ((with_reducible refine gate_dst (N:=2) rfl ?_);refine box_event ?hg (N:=2) ?hd (cs:=#[.slice A0_0 l0_0.length c0_0,.slice A0_1 l0_1.length c0_1,.int .i64 a0_2]) (t:=78) ?hr ?_;(case hd=>rfl);(case hg=>rfl);(case hr=>first | (go_simp;done) | (go_simp;rfl));intro gb1067 hg w12 hbox hb;have n0_:=Aside0.mk (below_step (hs HB) hb);have n1_:=Aside0.mk (hbox);have n2_:=Aside0.mk ((by rw [hg];exact (below_size (hs HB)) : w.heap.size ≤ gb1067));have n3_:=Aside0.mk ((by rw [hg];exact (below_size (hs HB)) : w.heap.size ≤ gb1067));clear HB;have HB:=n0_;have BK1067:=n1_;have GW1067:=n2_;have GE1067:=n3_;clear n0_ n1_ n2_ n3_;clear hb hbox hg;have hcz13_0 : w12.cell? ⟨gb1067,0,none⟩ = some (.slice A0_0 l0_0.length c0_0):=(blk_cell BK1067.out 0).trans rfl;have hcz13_1 : w12.cell? ⟨gb1067,1,none⟩ = some (.slice A0_1 l0_1.length c0_1):=(blk_cell BK1067.out 1).trans rfl;have hcz13_2 : w12.cell? ⟨gb1067,2,none⟩ = some (.int .i64 a0_2):=(blk_cell BK1067.out 2).trans rfl;have hfz13_0:=blk_frozen BK1067.out 0;have hfz13_1:=blk_frozen BK1067.out 1;have hfz13_2:=blk_frozen BK1067.out 2) | ((with_reducible refine gate_callee (f:=112) rfl ?_);refine goesL_ (some 8) rfl rfl Try.func112 (by kernel_rfl) rfl #[.slice A0_0 l0_0.length c0_0,.int .i64 a1] rfl (by (try simp only [List.map_toArray,List.map_cons,List.map_nil]);first | done | rfl | (simp only [List.length_drop,List.length_take];rfl)) ?_;(with_reducible refine (laws_szVolS.calls _ _ l0_0 a1 t1068 _ ?side1 ?side2 A3.out).mono ?_);(case side1=>repeat (first | exact (Kd.C_below HR0_0.out HB.out) | (with_reducible refine Kd.C_alloc ?_ _) | (with_reducible refine Kd.C_drewN ?_ _) | (with_reducible refine Kd.C_drew ?_)));(case side2=>exact HC0_0.out);rintro e w' ⟨rfl,⟨nd,rfl⟩⟩;refine ⟨_,rfl,?_⟩) | ((with_reducible refine gate_callee (f:=29) rfl ?_);refine goesL_ (some 14) rfl rfl Try.func29 (by kernel_rfl) rfl #[.agg #[.slice A0_1 l0_1.length c0_1],.int .i64 t1068] rfl (by (try simp only [List.map_toArray,List.map_cons,List.map_nil]);first | done | rfl | (simp only [List.length_drop,List.length_take];rfl)) ?_;(with_reducible refine (laws_szArena.calls k _ _ l0_1 t1068 t1069 _ ?side1 ?side2 A7.out).mono ?_);(case side1=>repeat (first | exact (Kd.C_below HR0_1.out (hs1 HB GE1067)) | (with_reducible refine Kd.C_alloc ?_ _) | (with_reducible refine Kd.C_drewN ?_ _) | (with_reducible refine Kd.C_drew ?_)));(case side2=>exact HC0_1.out);rintro e w14 ⟨rfl,hb⟩;refine ⟨_,rfl,?_⟩;have n0_:=Aside0.mk (blk_below (g:=gb1067) (o:=.cells #[.slice A0_0 l0_0.length c0_0,.slice A0_1 l0_1.length c0_1,.int .i64 a0_2] 78 (0,0)) (bs BK1067) hb);have n1_:=Aside0.mk (below_step (hs1 HB GE1067) hb);clear BK1067;clear HB;have BK1067:=n0_;have HB:=n1_;clear n0_ n1_;(try clear hb);(try clear hb2);(try clear hk);(try clear hi)))
 go_ret
 exact ⟨by first | rfl | (simp [errW_none,errW_some] <;> rfl) | (simp [*,errW_none,errW_some] <;> rfl),hs1 HB GE1067⟩
end Go.Proofs.Ytdolplcbokioaaa.PB

namespace Go.Proofs.Ytdolplcbokioaaa.PB
open Go.RowKit Go.Proofs.YtdolplcbokioaaaW.PrintWords Go.Proofs.YtdolplcbokioaaaW.PrintLast Go.Proofs.YtdolplcbokioaaaW.PrintMore
attribute [local go_sem] max2_int min2_int max_two min_two max_three min_three max_four min_four   -- for this text's walks alone
set_option linter.unusedVariables false
set_option linter.unusedSimpArgs false
def laws_toIntS.l0 : Nat → List Int → List Int → Int → Option (List Int)
 | 0,_,_,_=>none
 | k + 1,x0,x3,x4=>if x4 < (x0.length : Int) then (if 0 ≤ x4 then (if x4 < (x3.length : Int) then (laws_toIntS.l0 k x0 (x3.set (x4 : Int).toNat (rd x0 x4)) (wrap64 (x4 + 1))) else (none)) else (none)) else (some x3)
def laws_toIntS.f (k : Nat) (l0 : List Int) : Option (List Int):=if 0 ≤ (l0.length : Int) then (if ((l0.length : Int) : Int).toNat ≤ 35184372088832 then (laws_toIntS.l0 k l0 (List.replicate ((l0.length : Int) : Int).toNat 0) 0) else (none)) else (none)
theorem laws_toIntS.mono_l : ∀ k,(∀ y0 y1 y2,LeO (laws_toIntS.l0 k y0 y1 y2) (laws_toIntS.l0 (k + 1) y0 y1 y2))
 | 0=>fun _ _ _ r h=>by simp [laws_toIntS.l0] at h
 | k + 1=>by
  have ih0:=laws_toIntS.mono_l k;intro y0 y1 y2;unfold laws_toIntS.l0
  repeat' first
  | (with_reducible exact ih0 _ _ _)
  | (with_reducible exact LeO.refl _)
  | (with_reducible exact LeO.none _)
  | (with_reducible refine LeO.ite ?_ ?_)
  | (with_reducible refine LeO.bind ?_ (fun _=>?_))
  | exact ih0 _ _ _
  | exact LeO.none _
  | refine LeO.ite ?_ ?_
  | refine LeO.bind ?_ (fun _=>?_)
theorem laws_toIntS.mono : ∀ a0 k,LeO (laws_toIntS.f k a0) (laws_toIntS.f (k + 1) a0):=by
 intro a0 k;have ih0:=laws_toIntS.mono_l k;unfold laws_toIntS.f
 repeat' first
   | (with_reducible exact ih0 _ _ _)
   | (with_reducible exact LeO.refl _)
   | (with_reducible exact LeO.none _)
   | (with_reducible refine LeO.ite ?_ ?_)
   | (with_reducible refine LeO.bind ?_ (fun _=>?_))
   | exact ih0 _ _ _
   | exact LeO.none _
   | refine LeO.ite ?_ ?_
   | refine LeO.bind ?_ (fun _=>?_)
set_option maxHeartbeats 8000000 in
set_option maxRecDepth 100000 in
theorem laws_toIntS.calls (k : Nat) (A0 : Option Addr) (c0 : Nat) (l0 : List Int) (r : List Int) (w : World) (hr0 : Kd.C (Kd.int .i64) w A0 l0.length l0) (hc0 : l0.length ≤ c0) (h : laws_toIntS.f k l0 = some r) :
  Calls Try.prog 73 #[.slice A0 l0.length c0] w fun e w'=>∃ v0_ : Value,e = .returned (v0_) ∧ Kd.R (Kd.int .i64) 3 w' w.heap.size (fun _=>True) v0_ r ∧ Below w.heap.size w w':=by
 have HR0:=Aside0.mk hr0;have HC0:=Aside0.mk hc0;clear hr0 hc0;have HB:=Aside0.mk (Below.refl w.heap.size w);have H : (if 0 ≤ (l0.length : Int) then (if ((l0.length : Int) : Int).toNat ≤ 35184372088832 then (laws_toIntS.l0 k l0 (List.replicate ((l0.length : Int) : Int).toNat 0) 0) else (none)) else (none)) = some r:=h;clear h
 by_cases c2 : 0 ≤ (l0.length : Int)
 ·rw [if_pos c2] at H;have c2b0:=eq_true c2;have c2b1 : decide (0 ≤ (l0.length : Int)) = true:=decide_eq_true c2;clear c2
  by_cases c3 : ((l0.length : Int) : Int).toNat ≤ 35184372088832
  ·rw [if_pos c3] at H;have c3b0:=eq_true c3;have c3b1 : decide (((l0.length : Int) : Int).toNat ≤ 35184372088832) = true:=decide_eq_true c3;clear c3;obtain ⟨y767,hy767⟩ : ∃ y_ : List Int,y_ = (List.replicate ((l0.length : Int) : Int).toNat 0):=⟨_,rfl⟩;replace H : (laws_toIntS.l0 k l0 y767 0) = some r:=by first | (rw [hy767];with_reducible exact H) | (have H2_:=(Option.bind_some _ _).symm.trans H;rw [hy767];with_reducible exact H2_) | (have H2_:=(Option.bind_some _ _).symm.trans H;with_reducible exact H2_) | with_reducible exact H | (rw [hy767];exact H) | exact H
   have Ny767:=Aside0.mk hy767;clear hy767;have H':=Aside0.mk H;clear H
   go_enter Try.func73,Try.ntmps73
   go_wp2_with (first | ((with_reducible refine gate_dst (N:=7) rfl ?_);refine Kd.R_make (Kd.int .i64) _ 3 rfl (N:=7) rfl 26 _ _ rfl (l0.length : Int) rfl rfl Try.underlying26 (.int .i64 0) 8 info3 rfl (by decide) (by omega) 0 (ok:=fun _=>True) (okp:=fun _=>True) rfl (fun _ hk=>hk) trivial (of_decide_eq_true (by first | (with_reducible assumption) | assumption)) (Nat.le_trans (Nat.mul_le_mul_right _ (of_decide_eq_true (by first | (with_reducible assumption) | assumption) : (l0.length : Int).toNat ≤ 35184372088832)) (by omega)) (Below.refl _ _) (Nat.le_refl _) ?_;intro v768 w4 ho5 hb hg_ hnew_;clear hg_ hnew_;(first | rw [← Ny767.out] at ho5 | (simp only [Int.reduceToNat] at ho5;rw [← Ny767.out] at ho5));have n0_:=Aside0.mk (Kd.R_lower ho5 (below_size (hs HB)));have n1_:=Aside0.mk (below_step (hs HB) hb);clear HB;have HO769:=n0_;have HB:=n1_;clear n0_ n1_;clear hb ho5));go_loopg [4] k (fun kq v4 w'=>∃ (x3_1 : List Int) (x4_1 : Int),v4 = .int .i64 x4_1 ∧ Aside0 (laws_toIntS.l0 kq l0 x3_1 x4_1 = some r) ∧ Aside0 (kq ≤ k) ∧ Aside0 (Kd.R (Kd.int .i64) 3 w' w.heap.size (fun _=>True) v768 x3_1) ∧ Aside0 (Below w.heap.size w w'));case atStart=>exact ⟨(y767),(0),(by first | rfl | (simp;done) | (simp [*];done)),H',⟨Nat.le_refl _⟩,⟨rs HO769⟩,⟨hs HB⟩⟩
   case round =>
    clear H'
    try clear c2
    try clear c2b0
    try clear c2b1
    try clear p2
    try clear c3
    try clear c3b0
    try clear c3b1
    obtain ⟨x3_1,x4_1,rfl,HA,HK1,HO_3,HB⟩:=hrel;cases gk with
    | zero=>exact absurd HA.out (by simp [laws_toIntS.l0])
    | succ k1 =>
     have H:=HA.out;clear HA;simp only [laws_toIntS.l0] at H
     by_cases c6 : x4_1 < (l0.length : Int)
     ·rw [if_pos c6] at H;have c6b0 : decide (x4_1 < (l0.length : Int)) = true:=decide_eq_true c6;clear c6
      by_cases c7 : 0 ≤ x4_1
      ·rw [if_pos c7] at H;have c7b0 : decide (0 ≤ x4_1) = true:=decide_eq_true c7;clear c7
       by_cases c8 : x4_1 < (x3_1.length : Int)
       ·rw [if_pos c8] at H;have c8b0 : decide (x4_1 < (x3_1.length : Int)) = true:=decide_eq_true c8;clear c8;obtain ⟨y771,hy771⟩ : ∃ y_ : List Int,y_ = (x3_1.set (x4_1 : Int).toNat (rd l0 x4_1)):=⟨_,rfl⟩;replace H : (laws_toIntS.l0 k1 l0 y771 (wrap64 (x4_1 + 1))) = some r:=by first | (rw [hy771];with_reducible exact H) | (have H2_:=(Option.bind_some _ _).symm.trans H;rw [hy771];with_reducible exact H2_) | (have H2_:=(Option.bind_some _ _).symm.trans H;with_reducible exact H2_) | with_reducible exact H | (rw [hy771];exact H) | exact H
        have Ny771:=Aside0.mk hy771;clear hy771;have H':=Aside0.mk H;clear H;have p770 : 0 ≤ (x4_1 : Int):=of_decide_eq_true (by first | (with_reducible assumption) | assumption);have q770 : x4_1 < (l0.length : Int):=of_decide_eq_true (by first | (with_reducible assumption) | assumption);obtain ⟨ad770,e770,hx770_0⟩:=Kd.at_int HR0.out x4_1 p770 q770;cases e770;replace hx770_0:=(HB.out.cell (World.block_lt_of_cell? w _ hx770_0)).trans hx770_0;replace p770:=eq_true p770;replace q770:=eq_true q770;have p9 : 0 ≤ (x4_1 : Int):=of_decide_eq_true (by first | (with_reducible assumption) | assumption);have q9 : (x4_1 : Int) < ((x3_1.length : Int) : Int):=of_decide_eq_true (by first | (with_reducible assumption) | assumption);obtain ⟨go9,co9,eo9,gb9,gl9,cl9,HG9⟩:=Kd.R_form HO_3.out (by omega)
        (first | cases eo9 | (injection eo9 with ea_ en_ ec_;(first | subst ea_ | (injection ea_ with ea_;subst ea_));subst ec_;clear en_))
        have GB9:=Aside0.mk gb9;have GG9:=Aside0.mk HG9;clear gb9 gl9 HG9;obtain ⟨hx9_0,hf9_0⟩:=Kd.R_celln 0 HO_3.out (x4_1 : Int) p9 q9;replace p9:=eq_true p9;replace q9:=eq_true q9;have HP10:=Kd.R_putg HO_3.out (x4_1 : Int) (rd l0 x4_1);go_wp2_with (first | ((with_reducible refine gate_store (t:=3) (p:=20) rfl ?_);refine store_event (t:=3) (p:=20) (v:=?vo_w11) (w1:=(wr.setCell ⟨go9,(x4_1 : Int).toNat,none⟩ (.int .i64 (rd l0 x4_1)))) ?hg ?ho ?hn ?hr ?_;(case ho=>rfl);(case hg=>rfl);(case hn=>rfl);(case hr=>first | (go_simp;done) | (go_simp;rfl));intro w11 hw;have hg : wr.grownBy w11 (some go9):=(by rw [hw];exact HP10.2);have hp_ : Kd.R (Kd.int .i64) 3 w11 w.heap.size (fun _=>True) (.slice (some ⟨go9,0,none⟩) x3_1.length co9) y771:=(by rw [hw,Ny771.out];exact HP10.1);clear HP10;have n0_:=Aside0.mk (hp_);have n1_:=Aside0.mk ((by rw [hw];exact below_set (HB.out) GB9.out : Below w.heap.size w w11));clear HO_3;clear HB;have HO_3:=n0_;have HB:=n1_;clear n0_ n1_;clear hg hw hp_));go_roundg k1;case measure=>have:=HK1.out;omega
        case rel=>exact ⟨(y771),(wrap64 (x4_1 + 1)),(by first | rfl | (simp;done) | (simp [*];done)),H',⟨by have:=HK1.out;omega⟩,⟨rs HO_3⟩,⟨hs HB⟩⟩
       rw [if_neg c8] at H;exact absurd H (by simp)
      rw [if_neg c7] at H;exact absurd H (by simp)
     rw [if_neg c6] at H;have c6b0 : decide (x4_1 < (l0.length : Int)) = false:=decide_eq_false c6;clear c6;obtain rfl:=Option.some.inj H
     go_wp2
     go_ret
     exact ⟨_,by first | rfl | (simp [errW_none,errW_some] <;> rfl) | (simp [*,errW_none,errW_some] <;> rfl),rs HO_3,hs HB⟩
  rw [if_neg c3] at H;exact absurd H (by simp)
 rw [if_neg c2] at H;exact absurd H (by simp)
end Go.Proofs.Ytdolplcbokioaaa.PB

namespace Go.Proofs.Ytdolplcbokioaaa.PB
open Go.RowKit Go.Proofs.YtdolplcbokioaaaW.PrintWords Go.Proofs.YtdolplcbokioaaaW.PrintLast Go.Proofs.YtdolplcbokioaaaW.PrintMore
attribute [local go_sem] max2_int min2_int max_two min_two max_three min_three max_four min_four   -- for this text's walks alone
set_option linter.unusedVariables false
set_option linter.unusedSimpArgs false
def laws_toKnot.f (k : Nat) (a0_0 : Bool) (l0_1 : List Int) : Option (Bool × List Int):=(laws_toIntS.f k l0_1).bind fun t775=>(some (a0_0,t775))
theorem laws_toKnot.mono : ∀ a0 a1 k,LeO (laws_toKnot.f k a0 a1) (laws_toKnot.f (k + 1) a0 a1):=by
 intro a0 a1 k;unfold laws_toKnot.f
 repeat' first
   | (with_reducible exact laws_toIntS.mono _ _)
   | (with_reducible exact LeO.refl _)
   | (with_reducible exact LeO.none _)
   | (with_reducible refine LeO.ite ?_ ?_)
   | (with_reducible refine LeO.bind ?_ (fun _=>?_))
   | exact laws_toIntS.mono _ _
   | exact LeO.none _
   | refine LeO.ite ?_ ?_
   | refine LeO.bind ?_ (fun _=>?_)
set_option maxHeartbeats 8000000 in
set_option maxRecDepth 100000 in
theorem laws_toKnot.calls (k : Nat) (a0_0 : Bool) (A0_1 : Option Addr) (c0_1 : Nat) (l0_1 : List Int) (r1 : Bool) (r2 : List Int) (w : World) (hr0_1 : Kd.C (Kd.int .i64) w A0_1 l0_1.length l0_1) (hc0_1 : l0_1.length ≤ c0_1) (h : laws_toKnot.f k a0_0 l0_1 = some (r1,r2)) :
  Calls Try.prog 144 #[.agg #[.bool a0_0,.slice A0_1 l0_1.length c0_1]] w fun e w'=>∃ v1_ : Value,e = .returned (.agg #[.bool r1,v1_]) ∧ Kd.R (Kd.int .i64) 3 w' w.heap.size (fun _=>True) v1_ r2 ∧ Below w.heap.size w w':=by
 have hu175:=Try.underlying175;have hu133:=Try.underlying133;have HR0_1:=Aside0.mk hr0_1;have HC0_1:=Aside0.mk hc0_1;clear hr0_1 hc0_1;have HB:=Aside0.mk (Below.refl w.heap.size w);have H : ((laws_toIntS.f k l0_1).bind fun t775=>(some (a0_0,t775))) = some (r1,r2):=h;clear h;replace H:=Option.bind_eq_some_iff.mp H;obtain ⟨t775,A20,H⟩:=H;replace H : (some (a0_0,t775)) = some (r1,r2):=H;have A2:=Aside0.mk A20;clear A20;simp only [Option.some.injEq,Prod.mk.injEq] at H;obtain ⟨rfl,rfl⟩:=H
 go_enter Try.func144,Try.ntmps144
 go_wp2_with (first | ((with_reducible refine gate_dst (N:=1) rfl ?_);refine box_event ?hg (N:=1) ?hd (cs:=#[.bool a0_0,.slice A0_1 l0_1.length c0_1]) (t:=175) ?hr ?_;(case hd=>rfl);(case hg=>rfl);(case hr=>first | (go_simp;done) | (go_simp;rfl));intro gb772 hg w3 hbox hb;have n0_:=Aside0.mk (below_step (hs HB) hb);have n1_:=Aside0.mk (hbox);have n2_:=Aside0.mk ((by rw [hg];exact (below_size (hs HB)) : w.heap.size ≤ gb772));have n3_:=Aside0.mk ((by rw [hg];exact (below_size (hs HB)) : w.heap.size ≤ gb772));clear HB;have HB:=n0_;have BK772:=n1_;have GW772:=n2_;have GE772:=n3_;clear n0_ n1_ n2_ n3_;clear hb hbox hg) | ((with_reducible refine gate_dst (N:=2) rfl ?_);refine box_event ?hg (N:=2) ?hd (cs:=#[.bool false,.slice none 0 0]) (t:=133) ?hr ?_;(case hd=>rfl);(case hg=>rfl);(case hr=>first | (go_simp;done) | (go_simp;rfl));intro gb773 hg w4 hbox hb;have n0_:=Aside0.mk (blk_below (g:=gb772) (o:=.cells #[.bool a0_0,.slice A0_1 l0_1.length c0_1] 175 (0,0)) (bs BK772) hb);have n1_:=Aside0.mk (below_step (hs1 HB GE772) hb);have n2_:=Aside0.mk (hbox);have n3_:=Aside0.mk ((by rw [hg];exact (below_size (hs1 HB GE772)) : w.heap.size ≤ gb773));have n4_:=Aside0.mk ((by rw [hg];exact (below_size (hs1 HB GE772)) : w.heap.size ≤ gb773));have n5_:=Aside0.mk ((by rw [hg];exact Nat.ne_of_lt (blk_lt (g:=gb772) (o:=.cells #[.bool a0_0,.slice A0_1 l0_1.length c0_1] 175 (0,0)) (bs BK772)) : gb772 ≠ gb773));have n6_:=Aside0.mk ((by rw [hg];exact Nat.ne_of_gt (blk_lt (g:=gb772) (o:=.cells #[.bool a0_0,.slice A0_1 l0_1.length c0_1] 175 (0,0)) (bs BK772)) : gb773 ≠ gb772));clear BK772;clear HB;have BK772:=n0_;have HB:=n1_;have BK773:=n2_;have GW773:=n3_;have GE773:=n4_;have NB772_773:=n5_;have NB773_772:=n6_;clear n0_ n1_ n2_ n3_ n4_ n5_ n6_;clear hb hbox hg) | ((with_reducible refine gate_dst (N:=3) rfl ?_);refine box_event ?hg (N:=3) ?hd (cs:=#[.bool false,.slice none 0 0]) (t:=133) ?hr ?_;(case hd=>rfl);(case hg=>rfl);(case hr=>first | (go_simp;done) | (go_simp;rfl));intro gb774 hg w5 hbox hb;have n0_:=Aside0.mk (blk_below (g:=gb772) (o:=.cells #[.bool a0_0,.slice A0_1 l0_1.length c0_1] 175 (0,0)) (bs BK772) hb);have n1_:=Aside0.mk (blk_below (g:=gb773) (o:=.cells #[.bool false,.slice none 0 0] 133 (0,0)) (bs BK773) hb);have n2_:=Aside0.mk (below_step (hs2 HB GE772 GE773) hb);have n3_:=Aside0.mk (hbox);have n4_:=Aside0.mk ((by rw [hg];exact (below_size (hs2 HB GE772 GE773)) : w.heap.size ≤ gb774));have n5_:=Aside0.mk ((by rw [hg];exact (below_size (hs2 HB GE772 GE773)) : w.heap.size ≤ gb774));have n6_:=Aside0.mk ((by rw [hg];exact Nat.ne_of_lt (blk_lt (g:=gb772) (o:=.cells #[.bool a0_0,.slice A0_1 l0_1.length c0_1] 175 (0,0)) (bs BK772)) : gb772 ≠ gb774));have n7_:=Aside0.mk ((by rw [hg];exact Nat.ne_of_gt (blk_lt (g:=gb772) (o:=.cells #[.bool a0_0,.slice A0_1 l0_1.length c0_1] 175 (0,0)) (bs BK772)) : gb774 ≠ gb772));have n8_:=Aside0.mk ((by rw [hg];exact Nat.ne_of_lt (blk_lt (g:=gb773) (o:=.cells #[.bool false,.slice none 0 0] 133 (0,0)) (bs BK773)) : gb773 ≠ gb774));have n9_:=Aside0.mk ((by rw [hg];exact Nat.ne_of_gt (blk_lt (g:=gb773) (o:=.cells #[.bool false,.slice none 0 0] 133 (0,0)) (bs BK773)) : gb774 ≠ gb773));clear BK772;clear BK773;clear HB;have BK772:=n0_;have BK773:=n1_;have HB:=n2_;have BK774:=n3_;have GW774:=n4_;have GE774:=n5_;have NB772_774:=n6_;have NB774_772:=n7_;have NB773_774:=n8_;have NB774_773:=n9_;clear n0_ n1_ n2_ n3_ n4_ n5_ n6_ n7_ n8_ n9_;clear hb hbox hg;have hnb6:=NB772_773.out;have hnc6:=NB773_772.out;have hnb7:=NB772_774.out;have hnc7:=NB774_772.out;have hcz8_0 : w5.cell? ⟨gb772,0,none⟩ = some (.bool a0_0):=(blk_cell BK772.out 0).trans rfl;have hcz8_1 : w5.cell? ⟨gb772,1,none⟩ = some (.slice A0_1 l0_1.length c0_1):=(blk_cell BK772.out 1).trans rfl;have hfz8_0:=blk_frozen BK772.out 0;have hfz8_1:=blk_frozen BK772.out 1;have hnb9:=NB774_773.out;have hnc9:=NB773_774.out;have hcz10_0 : w5.cell? ⟨gb774,0,none⟩ = some (.bool false):=(blk_cell BK774.out 0).trans rfl;have hcz10_1 : w5.cell? ⟨gb774,1,none⟩ = some (.slice none 0 0):=(blk_cell BK774.out 1).trans rfl;have hfz10_0:=blk_frozen BK774.out 0;have hfz10_1:=blk_frozen BK774.out 1) | ((with_reducible refine gate_callee (f:=73) rfl ?_);refine goesL_ (some 9) rfl rfl Try.func73 (by kernel_rfl) rfl #[.slice A0_1 l0_1.length c0_1] rfl (by (try simp only [List.map_toArray,List.map_cons,List.map_nil]);first | done | rfl | (simp only [List.length_drop,List.length_take];rfl)) ?_;(with_reducible refine (laws_toIntS.calls k _ _ l0_1 t775 _ ?side1 ?side2 A2.out).mono ?_);(case side1=>exact Kd.C_below HR0_1.out (hs3 HB GE772 GE773 GE774));(case side2=>exact HC0_1.out);rintro e w11 ⟨v776,rfl,ho0,hb⟩;refine ⟨_,rfl,?_⟩;have n0_:=Aside0.mk (Kd.R_lower ho0 (below_size (hs3 HB GE772 GE773 GE774)));have n1_:=Aside0.mk (blk_below (g:=gb772) (o:=.cells #[.bool a0_0,.slice A0_1 l0_1.length c0_1] 175 (0,0)) (by (with_reducible repeat (first | refine blk_drewN ?_ _ | refine blk_drew ?_ | refine blk_alloc ?_ _));refine blk_far ?_ NB772_774.out _;(with_reducible repeat (first | refine blk_drewN ?_ _ | refine blk_drew ?_ | refine blk_alloc ?_ _));exact BK772.out) hb);have n2_:=Aside0.mk (blk_below (g:=gb773) (o:=.cells #[.bool false,.slice none 0 0] 133 (0,0)) (by (with_reducible repeat (first | refine blk_drewN ?_ _ | refine blk_drew ?_ | refine blk_alloc ?_ _));refine blk_far ?_ NB773_774.out _;(with_reducible repeat (first | refine blk_drewN ?_ _ | refine blk_drew ?_ | refine blk_alloc ?_ _));exact BK773.out) hb);have n3_:=Aside0.mk (blk_below (g:=gb774) (o:=.cells #[.bool a0_0,.slice none 0 0] 133 (0,0)) (by (with_reducible repeat (first | refine blk_drewN ?_ _ | refine blk_drew ?_ | refine blk_alloc ?_ _));refine blk_put (cs:=#[.bool false,.slice none 0 0]) ?_ 0 _ rfl;(with_reducible repeat (first | refine blk_drewN ?_ _ | refine blk_drew ?_ | refine blk_alloc ?_ _));exact BK774.out) hb);have n4_:=Aside0.mk (below_step (hs3 HB GE772 GE773 GE774) hb);clear BK772;clear BK773;clear BK774;clear HB;have HO777:=n0_;have BK772:=n1_;have BK773:=n2_;have BK774:=n3_;have HB:=n4_;clear n0_ n1_ n2_ n3_ n4_;(try clear hb);(try clear hb2);(try clear hk);(try clear hi);(try clear ho0);obtain ⟨Ao12,co12,eo12⟩:=Kd.R_slice HO777.out;subst eo12;have hcz13_0 : w11.cell? ⟨gb774,0,none⟩ = some (.bool a0_0):=(blk_cell BK774.out 0).trans rfl;have hcz13_1 : w11.cell? ⟨gb774,1,none⟩ = some (.slice none 0 0):=(blk_cell BK774.out 1).trans rfl;have hfz13_0:=blk_frozen BK774.out 0;have hfz13_1:=blk_frozen BK774.out 1;have hcz14_0 : w11.cell? ⟨gb773,0,none⟩ = some (.bool false):=(blk_cell BK773.out 0).trans rfl;have hcz14_1 : w11.cell? ⟨gb773,1,none⟩ = some (.slice none 0 0):=(blk_cell BK773.out 1).trans rfl;have hfz14_0:=blk_frozen BK773.out 0;have hfz14_1:=blk_frozen BK773.out 1));refine bodyPost_ret (results_cell_row rfl _ _ gb773 133 #[.bool a0_0,.slice Ao12 t775.length co12] (0,0) _ rfl (by (with_reducible repeat (first | refine blk_drewN ?_ _ | refine blk_drew ?_ | refine blk_alloc ?_ _));refine blk_put (cs:=#[.bool a0_0,.slice none 0 0]) ?_ 1 _ rfl;(with_reducible repeat (first | refine blk_drewN ?_ _ | refine blk_drew ?_ | refine blk_alloc ?_ _));refine blk_put (cs:=#[.bool false,.slice none 0 0]) ?_ 0 _ rfl;(with_reducible repeat (first | refine blk_drewN ?_ _ | refine blk_drew ?_ | refine blk_alloc ?_ _));refine blk_far ?_ NB773_774.out _;(with_reducible repeat (first | refine blk_drewN ?_ _ | refine blk_drew ?_ | refine blk_alloc ?_ _));exact BK773.out) Try.underlying133 rfl (by kernel_rfl)) rfl ?_;exact ⟨_,by first | rfl | (simp [errW_none,errW_some] <;> rfl) | (simp [*,errW_none,errW_some] <;> rfl),by (with_reducible repeat (first | apply Kd.R_alloc | apply Kd.R_drewN | apply Kd.R_drew));exact Kd.R_mono (Kd.R_far (p:=⟨gb773,1,none⟩) (Kd.R_far (p:=⟨gb773,0,none⟩) (Kd.R_far (p:=⟨gb774,1,none⟩) (Kd.R_types (Kd.R_types HO777.out BK774.out (by decide)) BK773.out (by decide)) (fun _ hk=>hk.1.2) (.slice Ao12 t775.length co12)) (fun _ hk=>hk.2) (.bool a0_0)) (fun _ hk=>hk.2) (.slice Ao12 t775.length co12)) (fun _ hk=>trivial),hs3 HB GE772 GE773 GE774⟩
end Go.Proofs.Ytdolplcbokioaaa.PB

namespace Go.Proofs.Ytdolplcbokioaaa.PB
open Go.RowKit Go.Proofs.YtdolplcbokioaaaW.PrintWords Go.Proofs.YtdolplcbokioaaaW.PrintLast Go.Proofs.YtdolplcbokioaaaW.PrintMore
attribute [local go_sem] max2_int min2_int max_two min_two max_three min_three max_four min_four   -- for this text's walks alone
set_option linter.unusedVariables false
set_option linter.unusedSimpArgs false
def laws_toKnotS.l0 : Nat → List (S175) → List (S133) → Int → Option ((List (S133)))
 | 0,_,_,_=>none
 | k + 1,x0,x3,x4=>if x4 < (x0.length : Int) then (if 0 ≤ x4 then ((laws_toKnot.f k ((rd_T175 x0 x4).f0) ((rd_T175 x0 x4).f1)).bind fun bt782=>(if x4 < (x3.length : Int) then (laws_toKnotS.l0 k x0 (x3.set (x4 : Int).toNat (⟨bt782.1,bt782.2⟩ : S133)) (wrap64 (x4 + 1))) else (none))) else (none)) else (some x3)
def laws_toKnotS.f (k : Nat) (l0 : List (S175)) : Option ((List (S133))):=if 0 ≤ (l0.length : Int) then (if ((l0.length : Int) : Int).toNat ≤ 8796093022208 then (laws_toKnotS.l0 k l0 (List.replicate ((l0.length : Int) : Int).toNat z133) 0) else (none)) else (none)
theorem laws_toKnotS.mono_l : ∀ k,(∀ y0 y1 y2,LeO (laws_toKnotS.l0 k y0 y1 y2) (laws_toKnotS.l0 (k + 1) y0 y1 y2))
 | 0=>fun _ _ _ r h=>by simp [laws_toKnotS.l0] at h
 | k + 1=>by
  have ih0:=laws_toKnotS.mono_l k;intro y0 y1 y2;unfold laws_toKnotS.l0
  repeat' first
  | (with_reducible exact ih0 _ _ _)
  | (with_reducible exact laws_toKnot.mono _ _ _)
  | (with_reducible exact LeO.refl _)
  | (with_reducible exact LeO.none _)
  | (with_reducible refine LeO.ite ?_ ?_)
  | (with_reducible refine LeO.bind ?_ (fun _=>?_))
  | exact ih0 _ _ _
  | exact laws_toKnot.mono _ _ _
  | exact LeO.none _
  | refine LeO.ite ?_ ?_
  | refine LeO.bind ?_ (fun _=>?_)
theorem laws_toKnotS.mono : ∀ a0 k,LeO (laws_toKnotS.f k a0) (laws_toKnotS.f (k + 1) a0):=by
 intro a0 k;have ih0:=laws_toKnotS.mono_l k;unfold laws_toKnotS.f
 repeat' first
   | (with_reducible exact ih0 _ _ _)
   | (with_reducible exact laws_toKnot.mono _ _ _)
   | (with_reducible exact LeO.refl _)
   | (with_reducible exact LeO.none _)
   | (with_reducible refine LeO.ite ?_ ?_)
   | (with_reducible refine LeO.bind ?_ (fun _=>?_))
   | exact ih0 _ _ _
   | exact laws_toKnot.mono _ _ _
   | exact LeO.none _
   | refine LeO.ite ?_ ?_
   | refine LeO.bind ?_ (fun _=>?_)
set_option maxHeartbeats 8000000 in
set_option maxRecDepth 100000 in
theorem laws_toKnotS.calls (k : Nat) (A0 : Option Addr) (c0 : Nat) (l0 : List (S175)) (r : List (S133)) (w : World) (hr0 : Kd.C k175 w A0 l0.length l0) (hc0 : l0.length ≤ c0) (h : laws_toKnotS.f k l0 = some r) :
  Calls Try.prog 101 #[.slice A0 l0.length c0] w fun e w'=>∃ v0_ : Value,e = .returned (v0_) ∧ Kd.S k133 133 w' w.heap.size (fun _=>True) v0_ r ∧ Below w.heap.size w w':=by
 have hu175:=Try.underlying175;have hu133:=Try.underlying133;have HR0:=Aside0.mk hr0;have HC0:=Aside0.mk hc0;clear hr0 hc0;have HB:=Aside0.mk (Below.refl w.heap.size w);have H : (if 0 ≤ (l0.length : Int) then (if ((l0.length : Int) : Int).toNat ≤ 8796093022208 then (laws_toKnotS.l0 k l0 (List.replicate ((l0.length : Int) : Int).toNat z133) 0) else (none)) else (none)) = some r:=h;clear h
 by_cases c2 : 0 ≤ (l0.length : Int)
 ·rw [if_pos c2] at H;have c2b0:=eq_true c2;have c2b1 : decide (0 ≤ (l0.length : Int)) = true:=decide_eq_true c2;clear c2
  by_cases c3 : ((l0.length : Int) : Int).toNat ≤ 8796093022208
  ·rw [if_pos c3] at H;have c3b0:=eq_true c3;have c3b1 : decide (((l0.length : Int) : Int).toNat ≤ 8796093022208) = true:=decide_eq_true c3;clear c3;obtain ⟨y778,hy778⟩ : ∃ y_ : List (S133),y_ = (List.replicate ((l0.length : Int) : Int).toNat z133):=⟨_,rfl⟩;replace H : (laws_toKnotS.l0 k l0 y778 0) = some r:=by first | (rw [hy778];with_reducible exact H) | (have H2_:=(Option.bind_some _ _).symm.trans H;rw [hy778];with_reducible exact H2_) | (have H2_:=(Option.bind_some _ _).symm.trans H;with_reducible exact H2_) | with_reducible exact H | (rw [hy778];exact H) | exact H
   have Ny778:=Aside0.mk hy778;clear hy778;have H':=Aside0.mk H;clear H
   go_enter Try.func101,Try.ntmps101
   go_wp2_with (first | ((with_reducible refine gate_dst (N:=7) rfl ?_);refine Kd.S_make k133 _ 133 rfl (N:=7) rfl 42 _ _ rfl (l0.length : Int) rfl rfl Try.underlying42 (.agg #[(.bool false),(.slice none 0 0)]) 32 info133 rfl (by decide) (by omega) z133 (ok:=fun _=>True) (okp:=fun _=>True) (k133_mkM _ _ _ z133 (Kd.R_nil _ _ _ _ _)) (fun _ hk=>hk) trivial (of_decide_eq_true (by first | (with_reducible assumption) | assumption)) (Nat.le_trans (Nat.mul_le_mul_right _ (of_decide_eq_true (by first | (with_reducible assumption) | assumption) : (l0.length : Int).toNat ≤ 8796093022208)) (by omega)) (Below.refl _ _) (Nat.le_refl _) ?_;intro v779 w4 ho5 hb hg_ hnew_;clear hg_ hnew_;(first | rw [← Ny778.out] at ho5 | (simp only [Int.reduceToNat] at ho5;rw [← Ny778.out] at ho5));have n0_:=Aside0.mk (Kd.S_lower ho5 (below_size (hs HB)));have n1_:=Aside0.mk (below_step (hs HB) hb);clear HB;have HO780:=n0_;have HB:=n1_;clear n0_ n1_;clear hb ho5));go_loopg [4] k (fun kq v4 w'=>∃ (x3_1 : List (S133)) (x4_1 : Int),v4 = .int .i64 x4_1 ∧ Aside0 (laws_toKnotS.l0 kq l0 x3_1 x4_1 = some r) ∧ Aside0 (kq ≤ k) ∧ Aside0 (Kd.S k133 133 w' w.heap.size (fun _=>True) v779 x3_1) ∧ Aside0 (Below w.heap.size w w'));case atStart=>exact ⟨(y778),(0),(by first | rfl | (simp;done) | (simp [*];done)),H',⟨Nat.le_refl _⟩,⟨ss HO780⟩,⟨hs HB⟩⟩
   case round =>
    clear H'
    try clear c1
    try clear c2
    try clear c2b0
    try clear c2b1
    try clear p2
    try clear c3
    try clear c3b0
    try clear c3b1
    obtain ⟨x3_1,x4_1,rfl,HA,HK1,HO_3,HB⟩:=hrel;cases gk with
    | zero=>exact absurd HA.out (by simp [laws_toKnotS.l0])
    | succ k1 =>
     have H:=HA.out;clear HA;simp only [laws_toKnotS.l0] at H
     by_cases c6 : x4_1 < (l0.length : Int)
     ·rw [if_pos c6] at H;have c6b0 : decide (x4_1 < (l0.length : Int)) = true:=decide_eq_true c6;clear c6
      by_cases c7 : 0 ≤ x4_1
      ·rw [if_pos c7] at H;have c7b0 : decide (0 ≤ x4_1) = true:=decide_eq_true c7;clear c7;replace H:=Option.bind_eq_some_iff.mp H;obtain ⟨⟨t782,t783⟩,A80,H⟩:=H;replace H : (if x4_1 < (x3_1.length : Int) then (laws_toKnotS.l0 k1 l0 (x3_1.set (x4_1 : Int).toNat (⟨t782,t783⟩ : S133)) (wrap64 (x4_1 + 1))) else (none)) = some r:=H;have A8:=Aside0.mk A80;clear A80
       by_cases c9 : x4_1 < (x3_1.length : Int)
       ·rw [if_pos c9] at H;have c9b0 : decide (x4_1 < (x3_1.length : Int)) = true:=decide_eq_true c9;clear c9;obtain ⟨y786,hy786⟩ : ∃ y_ : List (S133),y_ = (x3_1.set (x4_1 : Int).toNat (⟨t782,t783⟩ : S133)):=⟨_,rfl⟩;replace H : (laws_toKnotS.l0 k1 l0 y786 (wrap64 (x4_1 + 1))) = some r:=by first | (rw [hy786];with_reducible exact H) | (have H2_:=(Option.bind_some _ _).symm.trans H;rw [hy786];with_reducible exact H2_) | (have H2_:=(Option.bind_some _ _).symm.trans H;with_reducible exact H2_) | with_reducible exact H | (rw [hy786];exact H) | exact H
        have Ny786:=Aside0.mk hy786;clear hy786;have H':=Aside0.mk H;clear H;have p781 : 0 ≤ (x4_1 : Int):=of_decide_eq_true (by first | (with_reducible assumption) | assumption);have q781 : x4_1 < (l0.length : Int):=of_decide_eq_true (by first | (with_reducible assumption) | assumption);obtain ⟨ad781,A781_1,c781_1,e781,hx781_0,hx781_1,hl781_1,hi781_1⟩:=at_T175 HR0.out x4_1 p781 q781;cases e781;replace hx781_0:=(HB.out.cell (World.block_lt_of_cell? w _ hx781_0)).trans hx781_0;replace hx781_1:=(HB.out.cell (World.block_lt_of_cell? w _ hx781_1)).trans hx781_1;have HR781_1:=Aside0.mk hi781_1;have HC781_1:=Aside0.mk hl781_1;clear hi781_1 hl781_1;replace p781:=eq_true p781;replace q781:=eq_true q781;go_wp2_with (first | ((with_reducible refine gate_callee (f:=144) rfl ?_);refine goesL_ (some 20) rfl rfl Try.func144 (by kernel_rfl) rfl #[.agg #[.bool ((rd_T175 l0 x4_1).f0),.slice A781_1 ((rd_T175 l0 x4_1).f1).length c781_1]] rfl (by (try simp only [List.map_toArray,List.map_cons,List.map_nil]);first | done | rfl | (simp only [List.length_drop,List.length_take];rfl)) ?_;(with_reducible refine (laws_toKnot.calls k1 ((rd_T175 l0 x4_1).f0) _ _ ((rd_T175 l0 x4_1).f1) t782 t783 _ ?side1 ?side2 A8.out).mono ?_);(case side1=>repeat (first | exact (Kd.C_below HR781_1.out HB.out) | (with_reducible refine Kd.C_alloc ?_ _) | (with_reducible refine Kd.C_drewN ?_ _) | (with_reducible refine Kd.C_drew ?_)));(case side2=>exact HC781_1.out);rintro e w11 ⟨v784,rfl,ho0,hb⟩;refine ⟨_,rfl,?_⟩;have n0_:=Aside0.mk (Kd.S_elder' (ss HO_3) (Kd.R_base ho0) hb);have n1_:=Aside0.mk (Kd.R_lower ho0 (below_size (hs HB)));have n2_:=Aside0.mk (below_step (hs HB) hb);clear HO_3;clear HB;have HO_3:=n0_;have HO785:=n1_;have HB:=n2_;clear n0_ n1_ n2_;(try clear hb);(try clear hb2);(try clear hk);(try clear hi);(try clear ho0);have p10 : 0 ≤ (x4_1 : Int):=of_decide_eq_true (by first | (with_reducible assumption) | assumption);have q10 : (x4_1 : Int) < ((x3_1.length : Int) : Int):=of_decide_eq_true (by first | (with_reducible assumption) | assumption);obtain ⟨go10,co10,eo10,gb10,gl10,cl10,HG10⟩:=Kd.S_form HO_3.out (by omega);(first | cases eo10 | (injection eo10 with ea_ en_ ec_;(first | subst ea_ | (injection ea_ with ea_;subst ea_));subst ec_;clear en_));have GB10:=Aside0.mk gb10;have GG10:=Aside0.mk HG10;clear gb10 gl10 HG10;obtain ⟨_,ce10,hcl10,hM10,hcc10,hfr10,_,_⟩:=Kd.S_elem HO_3.out z133 (x4_1 : Int) p10 q10;obtain ⟨ve10_1,rfl,ge10_1⟩:=k133_openM hM10;have hx10_0 : w11.cell? ⟨go10,(x4_1 : Int).toNat * 2,none⟩ = some (.bool ((rd_T133 x3_1 x4_1).f0)):=hcc10 0 _ rfl;have hx10_1 : w11.cell? ⟨go10,(x4_1 : Int).toNat * 2 + 1,none⟩ = some (ve10_1):=hcc10 1 _ rfl;have hf10_0 : w11.frozen? ⟨go10,(x4_1 : Int).toNat * 2,none⟩ = false:=hfr10 0;have hf10_1 : w11.frozen? ⟨go10,(x4_1 : Int).toNat * 2 + 1,none⟩ = false:=hfr10 1;clear hcl10 hcc10 hfr10 hM10;replace p10:=eq_true p10;replace q10:=eq_true q10;have n_:=Aside0.mk (Kd.S_mono (ok':=(fun k_=>some k_ ≠ (v784 : Value).ownBlock)) HO_3.out (fun k_ hk=>hk.2));clear HO_3;have HO_3:=n_;clear n_;have HX12:=Aside0.mk (show Kd.S k133 133 w11 w.heap.size (fun k_=>((fun _=>True)) k_ ∧ ¬ ((fun k_=>some k_ = (v784 : Value).ownBlock)) k_) (.slice (some ⟨go10,0,none⟩) x3_1.length co10) x3_1 from (by (with_reducible repeat (first | apply Kd.S_alloc | apply Kd.S_drewN | apply Kd.S_drew));exact Kd.S_mono HO_3.out (fun k_ hk=>⟨trivial,fun e_=>hk e_⟩)));obtain ⟨oki12,ce12,hcl12,hM12,hcc12,hfr12,hoki12,hH12⟩:=Kd.S_elem HX12.out z133 (x4_1 : Int) (of_decide_eq_true (by first | (with_reducible assumption) | assumption)) (by have h_ : (x4_1 : Int) < ((x3_1.length : Int) : Int):=of_decide_eq_true (by first | (with_reducible assumption) | assumption);first | exact h_ | (have e_:=(Kd.S_reads' HO_3.out).1;omega) | simpa using h_);obtain ⟨ve12_1,rfl,ge12_1⟩:=k133_openM hM12;have HP12:=Kd.S_seg hH12 (of_decide_eq_true (by first | (with_reducible assumption) | assumption)) (by have h_ : (x4_1 : Int) < ((x3_1.length : Int) : Int):=of_decide_eq_true (by first | (with_reducible assumption) | assumption);first | exact h_ | (have e_:=(Kd.S_reads' HO_3.out).1;omega) | simpa using h_) (seg:=[.bool t782,v784]) (j:=0) (show 2 ≤ 2 from by decide) (x':=(⟨t782,t783⟩ : S133)) (k133_mkM _ _ _ (⟨t782,t783⟩ : S133) (Kd.R_mono (Kd.R_tight rfl (Kd.R_mono (ok':=fun k_=>((fun _=>True)) k_ ∧ k_ ≠ go10) (Kd.R_apart' (HO785.out) (Kd.S_typed HO_3.out) (by decide)) (fun k_ hk=>⟨trivial,fun e_=>(hk.2) (by rw [e_];rfl)⟩))) (fun _ h_=>Or.inr (h_)))) (fun _ hk=>hk) (fun k_ hk_=>((Kd.R_mono (ok':=fun k_=>((fun _=>True)) k_ ∧ k_ ≠ go10) (Kd.R_apart' (HO785.out) (Kd.S_typed HO_3.out) (by decide)) (fun k_ hk=>⟨trivial,fun e_=>(hk.2) (by rw [e_];rfl)⟩))).1 k_ hk_.symm);have hx12_0:=hcc12 0 _ rfl;(try simp only [show (k133).sz = 2 from rfl,Nat.mul_one,Nat.add_zero] at hx12_0);have hf12_0:=hfr12 0;(try simp only [show (k133).sz = 2 from rfl,Nat.mul_one,Nat.add_zero] at hf12_0);have hx12_1:=hcc12 1 _ rfl;(try simp only [show (k133).sz = 2 from rfl,Nat.mul_one,Nat.add_zero] at hx12_1);have hf12_1:=hfr12 1;(try simp only [show (k133).sz = 2 from rfl,Nat.mul_one,Nat.add_zero] at hf12_1);clear hcl12 hcc12 hfr12 hM12 hoki12 hH12;have hst12_1:=fun (W_ : World) (a_ : Addr) (m_ : Mode)=>run_store Try.prog W_ a_ v784 m_ (Kd.R_val HO785.out).2) | ((with_reducible refine gate_store (t:=133) (p:=21) rfl ?_);refine store_event (t:=133) (p:=21) (v:=?vo_w13) (w1:=((w11.setCell ⟨go10,(x4_1 : Int).toNat * 2,none⟩ (.bool t782)).setCell ⟨go10,(x4_1 : Int).toNat * 2 + 1,none⟩ (v784))) ?hg ?ho ?hn ?hr ?_;(case ho=>rfl);(case hg=>rfl);(case hn=>rfl);(case hr=>first | (go_simp;done) | (go_simp;rfl));intro w13 hw;have hg : w11.grownBy w13 (some go10):=(by rw [hw];exact HP12.2);have hp_ : Kd.S k133 133 w13 w.heap.size (fun _=>True) (.slice (some ⟨go10,0,none⟩) x3_1.length co10) y786:=(by rw [hw,Ny786.out];exact HP12.1);clear HP12;have n0_:=Aside0.mk (hp_);have n1_:=Aside0.mk ((by rw [hw];exact below_set (below_set (HB.out) GB10.out) GB10.out : Below w.heap.size w w13));clear HO_3;clear HB;clear HO785;have HO_3:=n0_;have HB:=n1_;clear n0_ n1_;clear hg hw hp_ hst12_1));go_roundg k1;case measure=>have:=HK1.out;omega
        case rel=>exact ⟨(y786),(wrap64 (x4_1 + 1)),(by first | rfl | (simp;done) | (simp [*];done)),H',⟨by have:=HK1.out;omega⟩,⟨ss HO_3⟩,⟨hs HB⟩⟩
       rw [if_neg c9] at H;exact absurd H (by simp)
      rw [if_neg c7] at H;exact absurd H (by simp)
     rw [if_neg c6] at H;have c6b0 : decide (x4_1 < (l0.length : Int)) = false:=decide_eq_false c6;clear c6;obtain rfl:=Option.some.inj H
     go_wp2
     go_ret
     exact ⟨_,by first | rfl | (simp [errW_none,errW_some] <;> rfl) | (simp [*,errW_none,errW_some] <;> rfl),ss HO_3,hs HB⟩
  rw [if_neg c3] at H;exact absurd H (by simp)
 rw [if_neg c2] at H;exact absurd H (by simp)
end Go.Proofs.Ytdolplcbokioaaa.PB

namespace Go.Proofs.Ytdolplcbokioaaa.PB
open Go.RowKit Go.Proofs.YtdolplcbokioaaaW.PrintWords Go.Proofs.YtdolplcbokioaaaW.PrintLast Go.Proofs.YtdolplcbokioaaaW.PrintMore
attribute [local go_sem] max2_int min2_int max_two min_two max_three min_three max_four min_four   -- for this text's walks alone
set_option linter.unusedVariables false
set_option linter.unusedSimpArgs false
def laws_toArena.f (k : Nat) (l0_0 : List (S175)) : Option ((List (S133))):=(laws_toKnotS.f k l0_0).bind fun t790=>(some t790)
theorem laws_toArena.mono : ∀ a0 k,LeO (laws_toArena.f k a0) (laws_toArena.f (k + 1) a0):=by
 intro a0 k;unfold laws_toArena.f
 repeat' first
   | (with_reducible exact laws_toKnotS.mono _ _)
   | (with_reducible exact LeO.refl _)
   | (with_reducible exact LeO.none _)
   | (with_reducible refine LeO.ite ?_ ?_)
   | (with_reducible refine LeO.bind ?_ (fun _=>?_))
   | exact laws_toKnotS.mono _ _
   | exact LeO.none _
   | refine LeO.ite ?_ ?_
   | refine LeO.bind ?_ (fun _=>?_)
set_option maxHeartbeats 8000000 in
set_option maxRecDepth 100000 in
theorem laws_toArena.calls (k : Nat) (A0_0 : Option Addr) (c0_0 : Nat) (l0_0 : List (S175)) (r : List (S133)) (w : World) (hr0_0 : Kd.C k175 w A0_0 l0_0.length l0_0) (hc0_0 : l0_0.length ≤ c0_0) (h : laws_toArena.f k l0_0 = some r) :
  Calls Try.prog 31 #[.agg #[.slice A0_0 l0_0.length c0_0]] w fun e w'=>∃ v0_ : Value,e = .returned (.agg #[v0_]) ∧ Kd.S k133 133 w' w.heap.size (fun _=>True) v0_ r ∧ Below w.heap.size w w':=by
 have hu53:=Try.underlying53;have hu44:=Try.underlying44;have HR0_0:=Aside0.mk hr0_0;have HC0_0:=Aside0.mk hc0_0;clear hr0_0 hc0_0;have HB:=Aside0.mk (Below.refl w.heap.size w);have H : ((laws_toKnotS.f k l0_0).bind fun t790=>(some t790)) = some r:=h;clear h;replace H:=Option.bind_eq_some_iff.mp H;obtain ⟨t790,A20,H⟩:=H;replace H : (some t790) = some r:=H;have A2:=Aside0.mk A20;clear A20;obtain rfl:=Option.some.inj H
 go_enter Try.func31,Try.ntmps31
 go_wp2_with (first | ((with_reducible refine gate_dst (N:=1) rfl ?_);refine box_event ?hg (N:=1) ?hd (cs:=#[.slice A0_0 l0_0.length c0_0]) (t:=53) ?hr ?_;(case hd=>rfl);(case hg=>rfl);(case hr=>first | (go_simp;done) | (go_simp;rfl));intro gb787 hg w3 hbox hb;have n0_:=Aside0.mk (below_step (hs HB) hb);have n1_:=Aside0.mk (hbox);have n2_:=Aside0.mk ((by rw [hg];exact (below_size (hs HB)) : w.heap.size ≤ gb787));have n3_:=Aside0.mk ((by rw [hg];exact (below_size (hs HB)) : w.heap.size ≤ gb787));clear HB;have HB:=n0_;have BK787:=n1_;have GW787:=n2_;have GE787:=n3_;clear n0_ n1_ n2_ n3_;clear hb hbox hg) | ((with_reducible refine gate_dst (N:=2) rfl ?_);refine box_event ?hg (N:=2) ?hd (cs:=#[.slice none 0 0]) (t:=44) ?hr ?_;(case hd=>rfl);(case hg=>rfl);(case hr=>first | (go_simp;done) | (go_simp;rfl));intro gb788 hg w4 hbox hb;have n0_:=Aside0.mk (blk_below (g:=gb787) (o:=.cells #[.slice A0_0 l0_0.length c0_0] 53 (0,0)) (bs BK787) hb);have n1_:=Aside0.mk (below_step (hs1 HB GE787) hb);have n2_:=Aside0.mk (hbox);have n3_:=Aside0.mk ((by rw [hg];exact (below_size (hs1 HB GE787)) : w.heap.size ≤ gb788));have n4_:=Aside0.mk ((by rw [hg];exact (below_size (hs1 HB GE787)) : w.heap.size ≤ gb788));have n5_:=Aside0.mk ((by rw [hg];exact Nat.ne_of_lt (blk_lt (g:=gb787) (o:=.cells #[.slice A0_0 l0_0.length c0_0] 53 (0,0)) (bs BK787)) : gb787 ≠ gb788));have n6_:=Aside0.mk ((by rw [hg];exact Nat.ne_of_gt (blk_lt (g:=gb787) (o:=.cells #[.slice A0_0 l0_0.length c0_0] 53 (0,0)) (bs BK787)) : gb788 ≠ gb787));clear BK787;clear HB;have BK787:=n0_;have HB:=n1_;have BK788:=n2_;have GW788:=n3_;have GE788:=n4_;have NB787_788:=n5_;have NB788_787:=n6_;clear n0_ n1_ n2_ n3_ n4_ n5_ n6_;clear hb hbox hg) | ((with_reducible refine gate_dst (N:=3) rfl ?_);refine box_event ?hg (N:=3) ?hd (cs:=#[.slice none 0 0]) (t:=44) ?hr ?_;(case hd=>rfl);(case hg=>rfl);(case hr=>first | (go_simp;done) | (go_simp;rfl));intro gb789 hg w5 hbox hb;have n0_:=Aside0.mk (blk_below (g:=gb787) (o:=.cells #[.slice A0_0 l0_0.length c0_0] 53 (0,0)) (bs BK787) hb);have n1_:=Aside0.mk (blk_below (g:=gb788) (o:=.cells #[.slice none 0 0] 44 (0,0)) (bs BK788) hb);have n2_:=Aside0.mk (below_step (hs2 HB GE787 GE788) hb);have n3_:=Aside0.mk (hbox);have n4_:=Aside0.mk ((by rw [hg];exact (below_size (hs2 HB GE787 GE788)) : w.heap.size ≤ gb789));have n5_:=Aside0.mk ((by rw [hg];exact (below_size (hs2 HB GE787 GE788)) : w.heap.size ≤ gb789));have n6_:=Aside0.mk ((by rw [hg];exact Nat.ne_of_lt (blk_lt (g:=gb787) (o:=.cells #[.slice A0_0 l0_0.length c0_0] 53 (0,0)) (bs BK787)) : gb787 ≠ gb789));have n7_:=Aside0.mk ((by rw [hg];exact Nat.ne_of_gt (blk_lt (g:=gb787) (o:=.cells #[.slice A0_0 l0_0.length c0_0] 53 (0,0)) (bs BK787)) : gb789 ≠ gb787));have n8_:=Aside0.mk ((by rw [hg];exact Nat.ne_of_lt (blk_lt (g:=gb788) (o:=.cells #[.slice none 0 0] 44 (0,0)) (bs BK788)) : gb788 ≠ gb789));have n9_:=Aside0.mk ((by rw [hg];exact Nat.ne_of_gt (blk_lt (g:=gb788) (o:=.cells #[.slice none 0 0] 44 (0,0)) (bs BK788)) : gb789 ≠ gb788));clear BK787;clear BK788;clear HB;have BK787:=n0_;have BK788:=n1_;have HB:=n2_;have BK789:=n3_;have GW789:=n4_;have GE789:=n5_;have NB787_789:=n6_;have NB789_787:=n7_;have NB788_789:=n8_;have NB789_788:=n9_;clear n0_ n1_ n2_ n3_ n4_ n5_ n6_ n7_ n8_ n9_;clear hb hbox hg;have hnb6:=NB787_788.out;have hnc6:=NB788_787.out;have hnb7:=NB787_789.out;have hnc7:=NB789_787.out;have hcz8_0 : w5.cell? ⟨gb787,0,none⟩ = some (.slice A0_0 l0_0.length c0_0):=(blk_cell BK787.out 0).trans rfl;have hfz8_0:=blk_frozen BK787.out 0) | ((with_reducible refine gate_callee (f:=101) rfl ?_);refine goesL_ (some 6) rfl rfl Try.func101 (by kernel_rfl) rfl #[.slice A0_0 l0_0.length c0_0] rfl (by (try simp only [List.map_toArray,List.map_cons,List.map_nil]);first | done | rfl | (simp only [List.length_drop,List.length_take];rfl)) ?_;(with_reducible refine (laws_toKnotS.calls k _ _ l0_0 t790 _ ?side1 ?side2 A2.out).mono ?_);(case side1=>repeat (first | exact (Kd.C_below HR0_0.out HB.out) | (with_reducible refine Kd.C_alloc ?_ _) | (with_reducible refine Kd.C_drewN ?_ _) | (with_reducible refine Kd.C_drew ?_)));(case side2=>exact HC0_0.out);rintro e w9 ⟨v791,rfl,ho0,hb⟩;refine ⟨_,rfl,?_⟩;have n0_:=Aside0.mk (Kd.S_lower ho0 (below_size (hs3 HB GE787 GE788 GE789)));have n1_:=Aside0.mk (blk_below (g:=gb787) (o:=.cells #[.slice A0_0 l0_0.length c0_0] 53 (0,0)) (bs BK787) hb);have n2_:=Aside0.mk (blk_below (g:=gb788) (o:=.cells #[.slice none 0 0] 44 (0,0)) (bs BK788) hb);have n3_:=Aside0.mk (blk_below (g:=gb789) (o:=.cells #[.slice none 0 0] 44 (0,0)) (bs BK789) hb);have n4_:=Aside0.mk (below_step (hs3 HB GE787 GE788 GE789) hb);clear BK787;clear BK788;clear BK789;clear HB;have HO792:=n0_;have BK787:=n1_;have BK788:=n2_;have BK789:=n3_;have HB:=n4_;clear n0_ n1_ n2_ n3_ n4_;(try clear hb);(try clear hb2);(try clear hk);(try clear hi);(try clear ho0);obtain ⟨Ao10,co10,eo10⟩:=Kd.S_slice HO792.out;subst eo10;have hnb11:=NB789_788.out;have hnc11:=NB788_789.out;have hcz12_0 : w9.cell? ⟨gb789,0,none⟩ = some (.slice none 0 0):=(blk_cell BK789.out 0).trans rfl;have hfz12_0:=blk_frozen BK789.out 0;have hcz13_0 : w9.cell? ⟨gb788,0,none⟩ = some (.slice none 0 0):=(blk_cell BK788.out 0).trans rfl;have hfz13_0:=blk_frozen BK788.out 0));refine bodyPost_ret (results_cell_row rfl _ _ gb788 44 #[.slice Ao10 t790.length co10] (0,0) _ rfl (by (with_reducible repeat (first | refine blk_drewN ?_ _ | refine blk_drew ?_ | refine blk_alloc ?_ _));refine blk_put (cs:=#[.slice none 0 0]) ?_ 0 _ rfl;(with_reducible repeat (first | refine blk_drewN ?_ _ | refine blk_drew ?_ | refine blk_alloc ?_ _));refine blk_far ?_ NB788_789.out _;(with_reducible repeat (first | refine blk_drewN ?_ _ | refine blk_drew ?_ | refine blk_alloc ?_ _));exact BK788.out) Try.underlying44 rfl (by kernel_rfl)) rfl ?_;exact ⟨_,by first | rfl | (simp [errW_none,errW_some] <;> rfl) | (simp [*,errW_none,errW_some] <;> rfl),by (with_reducible repeat (first | apply Kd.S_alloc | apply Kd.S_drewN | apply Kd.S_drew));exact Kd.S_mono (Kd.S_far (p:=⟨gb788,0,none⟩) (Kd.S_far (p:=⟨gb789,0,none⟩) (Kd.S_types (Kd.S_types HO792.out BK789.out (by decide)) BK788.out (by decide)) (fun _ hk=>hk.1.2) (.slice Ao10 t790.length co10)) (fun _ hk=>hk.2) (.slice Ao10 t790.length co10)) (fun _ hk=>trivial),hs3 HB GE787 GE788 GE789⟩
end Go.Proofs.Ytdolplcbokioaaa.PB

namespace Go.Proofs.Ytdolplcbokioaaa.PB
open Go.RowKit Go.Proofs.YtdolplcbokioaaaW.PrintWords Go.Proofs.YtdolplcbokioaaaW.PrintLast Go.Proofs.YtdolplcbokioaaaW.PrintMore
attribute [local go_sem] max2_int min2_int max_two min_two max_three min_three max_four min_four   -- for this text's walks alone
set_option linter.unusedVariables false
set_option linter.unusedSimpArgs false
def laws_toVol.f (a0_0 : Int) (a0_1 : Int) : Option (Int × Int):=some (a0_0,a0_1)
set_option maxHeartbeats 8000000 in
set_option maxRecDepth 100000 in
theorem laws_toVol.calls (a0_0 : Int) (a0_1 : Int) (r1 : Int) (r2 : Int) (w : World) (h : laws_toVol.f a0_0 a0_1 = some (r1,r2)) :
  Calls Try.prog 152 #[.agg #[.int .i64 a0_0,.int .i64 a0_1]] w fun e w'=>e = .returned (.agg #[.int .i64 r1,.int .i64 r2]) ∧ Below w.heap.size w w':=by
 have hu184:=Try.underlying184;have hu147:=Try.underlying147;have HB:=Aside0.mk (Below.refl w.heap.size w);have H : (some (a0_0,a0_1)) = some (r1,r2):=h;clear h;simp only [Option.some.injEq,Prod.mk.injEq] at H;obtain ⟨rfl,rfl⟩:=H
 go_enter Try.func152,Try.ntmps152
 go_wp2_with (first | ((with_reducible refine gate_dst (N:=1) rfl ?_);refine box_event ?hg (N:=1) ?hd (cs:=#[.int .i64 a0_0,.int .i64 a0_1]) (t:=184) ?hr ?_;(case hd=>rfl);(case hg=>rfl);(case hr=>first | (go_simp;done) | (go_simp;rfl));intro gb1076 hg w2 hbox hb;have n0_:=Aside0.mk (below_step (hs HB) hb);have n1_:=Aside0.mk (hbox);have n2_:=Aside0.mk ((by rw [hg];exact (below_size (hs HB)) : w.heap.size ≤ gb1076));have n3_:=Aside0.mk ((by rw [hg];exact (below_size (hs HB)) : w.heap.size ≤ gb1076));clear HB;have HB:=n0_;have BK1076:=n1_;have GW1076:=n2_;have GE1076:=n3_;clear n0_ n1_ n2_ n3_;clear hb hbox hg) | ((with_reducible refine gate_dst (N:=2) rfl ?_);refine box_event ?hg (N:=2) ?hd (cs:=#[.int .i64 0,.int .i64 0]) (t:=147) ?hr ?_;(case hd=>rfl);(case hg=>rfl);(case hr=>first | (go_simp;done) | (go_simp;rfl));intro gb1077 hg w3 hbox hb;have n0_:=Aside0.mk (blk_below (g:=gb1076) (o:=.cells #[.int .i64 a0_0,.int .i64 a0_1] 184 (0,0)) (bs BK1076) hb);have n1_:=Aside0.mk (below_step (hs1 HB GE1076) hb);have n2_:=Aside0.mk (hbox);have n3_:=Aside0.mk ((by rw [hg];exact (below_size (hs1 HB GE1076)) : w.heap.size ≤ gb1077));have n4_:=Aside0.mk ((by rw [hg];exact (below_size (hs1 HB GE1076)) : w.heap.size ≤ gb1077));have n5_:=Aside0.mk ((by rw [hg];exact Nat.ne_of_lt (blk_lt (g:=gb1076) (o:=.cells #[.int .i64 a0_0,.int .i64 a0_1] 184 (0,0)) (bs BK1076)) : gb1076 ≠ gb1077));have n6_:=Aside0.mk ((by rw [hg];exact Nat.ne_of_gt (blk_lt (g:=gb1076) (o:=.cells #[.int .i64 a0_0,.int .i64 a0_1] 184 (0,0)) (bs BK1076)) : gb1077 ≠ gb1076));clear BK1076;clear HB;have BK1076:=n0_;have HB:=n1_;have BK1077:=n2_;have GW1077:=n3_;have GE1077:=n4_;have NB1076_1077:=n5_;have NB1077_1076:=n6_;clear n0_ n1_ n2_ n3_ n4_ n5_ n6_;clear hb hbox hg) | ((with_reducible refine gate_dst (N:=3) rfl ?_);refine box_event ?hg (N:=3) ?hd (cs:=#[.int .i64 0,.int .i64 0]) (t:=147) ?hr ?_;(case hd=>rfl);(case hg=>rfl);(case hr=>first | (go_simp;done) | (go_simp;rfl));intro gb1078 hg w4 hbox hb;have n0_:=Aside0.mk (blk_below (g:=gb1076) (o:=.cells #[.int .i64 a0_0,.int .i64 a0_1] 184 (0,0)) (bs BK1076) hb);have n1_:=Aside0.mk (blk_below (g:=gb1077) (o:=.cells #[.int .i64 0,.int .i64 0] 147 (0,0)) (bs BK1077) hb);have n2_:=Aside0.mk (below_step (hs2 HB GE1076 GE1077) hb);have n3_:=Aside0.mk (hbox);have n4_:=Aside0.mk ((by rw [hg];exact (below_size (hs2 HB GE1076 GE1077)) : w.heap.size ≤ gb1078));have n5_:=Aside0.mk ((by rw [hg];exact (below_size (hs2 HB GE1076 GE1077)) : w.heap.size ≤ gb1078));have n6_:=Aside0.mk ((by rw [hg];exact Nat.ne_of_lt (blk_lt (g:=gb1076) (o:=.cells #[.int .i64 a0_0,.int .i64 a0_1] 184 (0,0)) (bs BK1076)) : gb1076 ≠ gb1078));have n7_:=Aside0.mk ((by rw [hg];exact Nat.ne_of_gt (blk_lt (g:=gb1076) (o:=.cells #[.int .i64 a0_0,.int .i64 a0_1] 184 (0,0)) (bs BK1076)) : gb1078 ≠ gb1076));have n8_:=Aside0.mk ((by rw [hg];exact Nat.ne_of_lt (blk_lt (g:=gb1077) (o:=.cells #[.int .i64 0,.int .i64 0] 147 (0,0)) (bs BK1077)) : gb1077 ≠ gb1078));have n9_:=Aside0.mk ((by rw [hg];exact Nat.ne_of_gt (blk_lt (g:=gb1077) (o:=.cells #[.int .i64 0,.int .i64 0] 147 (0,0)) (bs BK1077)) : gb1078 ≠ gb1077));clear BK1076;clear BK1077;clear HB;have BK1076:=n0_;have BK1077:=n1_;have HB:=n2_;have BK1078:=n3_;have GW1078:=n4_;have GE1078:=n5_;have NB1076_1078:=n6_;have NB1078_1076:=n7_;have NB1077_1078:=n8_;have NB1078_1077:=n9_;clear n0_ n1_ n2_ n3_ n4_ n5_ n6_ n7_ n8_ n9_;clear hb hbox hg;have hnb5:=NB1076_1077.out;have hnc5:=NB1077_1076.out;have hnb6:=NB1076_1078.out;have hnc6:=NB1078_1076.out;have hcz7_0 : w4.cell? ⟨gb1076,0,none⟩ = some (.int .i64 a0_0):=(blk_cell BK1076.out 0).trans rfl;have hcz7_1 : w4.cell? ⟨gb1076,1,none⟩ = some (.int .i64 a0_1):=(blk_cell BK1076.out 1).trans rfl;have hfz7_0:=blk_frozen BK1076.out 0;have hfz7_1:=blk_frozen BK1076.out 1;have hnb8:=NB1078_1077.out;have hnc8:=NB1077_1078.out;have hcz9_0 : w4.cell? ⟨gb1078,0,none⟩ = some (.int .i64 0):=(blk_cell BK1078.out 0).trans rfl;have hcz9_1 : w4.cell? ⟨gb1078,1,none⟩ = some (.int .i64 0):=(blk_cell BK1078.out 1).trans rfl;have hfz9_0:=blk_frozen BK1078.out 0;have hfz9_1:=blk_frozen BK1078.out 1;have hcz10_0 : w4.cell? ⟨gb1077,0,none⟩ = some (.int .i64 0):=(blk_cell BK1077.out 0).trans rfl;have hcz10_1 : w4.cell? ⟨gb1077,1,none⟩ = some (.int .i64 0):=(blk_cell BK1077.out 1).trans rfl;have hfz10_0:=blk_frozen BK1077.out 0;have hfz10_1:=blk_frozen BK1077.out 1));refine bodyPost_ret (results_cell_row rfl _ _ gb1077 147 #[.int .i64 a0_0,.int .i64 a0_1] (0,0) _ rfl (by (with_reducible repeat (first | refine blk_drewN ?_ _ | refine blk_drew ?_ | refine blk_alloc ?_ _));refine blk_put (cs:=#[.int .i64 a0_0,.int .i64 0]) ?_ 1 _ rfl;(with_reducible repeat (first | refine blk_drewN ?_ _ | refine blk_drew ?_ | refine blk_alloc ?_ _));refine blk_put (cs:=#[.int .i64 0,.int .i64 0]) ?_ 0 _ rfl;(with_reducible repeat (first | refine blk_drewN ?_ _ | refine blk_drew ?_ | refine blk_alloc ?_ _));refine blk_far ?_ NB1077_1078.out _;(with_reducible repeat (first | refine blk_drewN ?_ _ | refine blk_drew ?_ | refine blk_alloc ?_ _));refine blk_far ?_ NB1077_1078.out _;(with_reducible repeat (first | refine blk_drewN ?_ _ | refine blk_drew ?_ | refine blk_alloc ?_ _));exact BK1077.out) Try.underlying147 rfl (by kernel_rfl)) rfl ?_;exact ⟨by first | rfl | (simp [errW_none,errW_some] <;> rfl) | (simp [*,errW_none,errW_some] <;> rfl),hs3 HB GE1076 GE1077 GE1078⟩
end Go.Proofs.Ytdolplcbokioaaa.PB

namespace Go.Proofs.Ytdolplcbokioaaa.PB
open Go.RowKit Go.Proofs.YtdolplcbokioaaaW.PrintWords Go.Proofs.YtdolplcbokioaaaW.PrintLast Go.Proofs.YtdolplcbokioaaaW.PrintMore
attribute [local go_sem] max2_int min2_int max_two min_two max_three min_three max_four min_four   -- for this text's walks alone
set_option linter.unusedVariables false
set_option linter.unusedSimpArgs false
def laws_toVolS.l0 : Nat → List (S184) → List (S147) → Int → Option ((List (S147)))
 | 0,_,_,_=>none
 | k + 1,x0,x3,x4=>if x4 < (x0.length : Int) then (if 0 ≤ x4 then ((laws_toVol.f ((rd_T184 x0 x4).f0) ((rd_T184 x0 x4).f1)).bind fun bt1083=>(if x4 < (x3.length : Int) then (laws_toVolS.l0 k x0 (x3.set (x4 : Int).toNat (⟨bt1083.1,bt1083.2⟩ : S147)) (wrap64 (x4 + 1))) else (none))) else (none)) else (some x3)
def laws_toVolS.f (k : Nat) (l0 : List (S184)) : Option ((List (S147))):=if 0 ≤ (l0.length : Int) then (if ((l0.length : Int) : Int).toNat ≤ 17592186044416 then (laws_toVolS.l0 k l0 (List.replicate ((l0.length : Int) : Int).toNat z147) 0) else (none)) else (none)
theorem laws_toVolS.mono_l : ∀ k,(∀ y0 y1 y2,LeO (laws_toVolS.l0 k y0 y1 y2) (laws_toVolS.l0 (k + 1) y0 y1 y2))
 | 0=>fun _ _ _ r h=>by simp [laws_toVolS.l0] at h
 | k + 1=>by
  have ih0:=laws_toVolS.mono_l k;intro y0 y1 y2;unfold laws_toVolS.l0
  repeat' first
  | (with_reducible exact ih0 _ _ _)
  | (with_reducible exact LeO.refl _)
  | (with_reducible exact LeO.none _)
  | (with_reducible refine LeO.ite ?_ ?_)
  | (with_reducible refine LeO.bind ?_ (fun _=>?_))
  | exact ih0 _ _ _
  | exact LeO.none _
  | refine LeO.ite ?_ ?_
  | refine LeO.bind ?_ (fun _=>?_)
theorem laws_toVolS.mono : ∀ a0 k,LeO (laws_toVolS.f k a0) (laws_toVolS.f (k + 1) a0):=by
 intro a0 k;have ih0:=laws_toVolS.mono_l k;unfold laws_toVolS.f
 repeat' first
   | (with_reducible exact ih0 _ _ _)
   | (with_reducible exact LeO.refl _)
   | (with_reducible exact LeO.none _)
   | (with_reducible refine LeO.ite ?_ ?_)
   | (with_reducible refine LeO.bind ?_ (fun _=>?_))
   | exact ih0 _ _ _
   | exact LeO.none _
   | refine LeO.ite ?_ ?_
   | refine LeO.bind ?_ (fun _=>?_)
set_option maxHeartbeats 8000000 in
set_option maxRecDepth 100000 in
theorem laws_toVolS.calls (k : Nat) (A0 : Option Addr) (c0 : Nat) (l0 : List (S184)) (r : List (S147)) (w : World) (hr0 : Kd.C k184 w A0 l0.length l0) (hc0 : l0.length ≤ c0) (h : laws_toVolS.f k l0 = some r) :
  Calls Try.prog 114 #[.slice A0 l0.length c0] w fun e w'=>∃ v0_ : Value,e = .returned (v0_) ∧ Kd.R k147 147 w' w.heap.size (fun _=>True) v0_ r ∧ Below w.heap.size w w':=by
 have hu184:=Try.underlying184;have hu147:=Try.underlying147;have HR0:=Aside0.mk hr0;have HC0:=Aside0.mk hc0;clear hr0 hc0;have HB:=Aside0.mk (Below.refl w.heap.size w);have H : (if 0 ≤ (l0.length : Int) then (if ((l0.length : Int) : Int).toNat ≤ 17592186044416 then (laws_toVolS.l0 k l0 (List.replicate ((l0.length : Int) : Int).toNat z147) 0) else (none)) else (none)) = some r:=h;clear h
 by_cases c2 : 0 ≤ (l0.length : Int)
 ·rw [if_pos c2] at H;have c2b0:=eq_true c2;have c2b1 : decide (0 ≤ (l0.length : Int)) = true:=decide_eq_true c2;clear c2
  by_cases c3 : ((l0.length : Int) : Int).toNat ≤ 17592186044416
  ·rw [if_pos c3] at H;have c3b0:=eq_true c3;have c3b1 : decide (((l0.length : Int) : Int).toNat ≤ 17592186044416) = true:=decide_eq_true c3;clear c3;obtain ⟨y1079,hy1079⟩ : ∃ y_ : List (S147),y_ = (List.replicate ((l0.length : Int) : Int).toNat z147):=⟨_,rfl⟩;replace H : (laws_toVolS.l0 k l0 y1079 0) = some r:=by first | (rw [hy1079];with_reducible exact H) | (have H2_:=(Option.bind_some _ _).symm.trans H;rw [hy1079];with_reducible exact H2_) | (have H2_:=(Option.bind_some _ _).symm.trans H;with_reducible exact H2_) | with_reducible exact H | (rw [hy1079];exact H) | exact H
   have Ny1079:=Aside0.mk hy1079;clear hy1079;have H':=Aside0.mk H;clear H
   go_enter Try.func114,Try.ntmps114
   go_wp2_with (first | ((with_reducible refine gate_dst (N:=7) rfl ?_);refine Kd.R_make k147 _ 147 rfl (N:=7) rfl 81 _ _ rfl (l0.length : Int) rfl rfl Try.underlying81 (.agg #[(.int .i64 0),(.int .i64 0)]) 16 info147 rfl (by decide) (by omega) z147 (ok:=fun _=>True) (okp:=fun _=>True) (k147_mkM _ _ _ z147 ) (fun _ hk=>hk) trivial (of_decide_eq_true (by first | (with_reducible assumption) | assumption)) (Nat.le_trans (Nat.mul_le_mul_right _ (of_decide_eq_true (by first | (with_reducible assumption) | assumption) : (l0.length : Int).toNat ≤ 17592186044416)) (by omega)) (Below.refl _ _) (Nat.le_refl _) ?_;intro v1080 w4 ho5 hb hg_ hnew_;clear hg_ hnew_;(first | rw [← Ny1079.out] at ho5 | (simp only [Int.reduceToNat] at ho5;rw [← Ny1079.out] at ho5));have n0_:=Aside0.mk (Kd.R_lower ho5 (below_size (hs HB)));have n1_:=Aside0.mk (below_step (hs HB) hb);clear HB;have HO1081:=n0_;have HB:=n1_;clear n0_ n1_;clear hb ho5));go_loopg [4] k (fun kq v4 w'=>∃ (x3_1 : List (S147)) (x4_1 : Int),v4 = .int .i64 x4_1 ∧ Aside0 (laws_toVolS.l0 kq l0 x3_1 x4_1 = some r) ∧ Aside0 (kq ≤ k) ∧ Aside0 (Kd.R k147 147 w' w.heap.size (fun _=>True) v1080 x3_1) ∧ Aside0 (Below w.heap.size w w'));case atStart=>exact ⟨(y1079),(0),(by first | rfl | (simp;done) | (simp [*];done)),H',⟨Nat.le_refl _⟩,⟨rs HO1081⟩,⟨hs HB⟩⟩
   case round =>
    clear H'
    try clear c1
    try clear c2
    try clear c2b0
    try clear c2b1
    try clear p2
    try clear c3
    try clear c3b0
    try clear c3b1
    obtain ⟨x3_1,x4_1,rfl,HA,HK1,HO_3,HB⟩:=hrel;cases gk with
    | zero=>exact absurd HA.out (by simp [laws_toVolS.l0])
    | succ k1 =>
     have H:=HA.out;clear HA;simp only [laws_toVolS.l0] at H
     by_cases c6 : x4_1 < (l0.length : Int)
     ·rw [if_pos c6] at H;have c6b0 : decide (x4_1 < (l0.length : Int)) = true:=decide_eq_true c6;clear c6
      by_cases c7 : 0 ≤ x4_1
      ·rw [if_pos c7] at H;have c7b0 : decide (0 ≤ x4_1) = true:=decide_eq_true c7;clear c7;replace H:=Option.bind_eq_some_iff.mp H;obtain ⟨⟨t1083,t1084⟩,A80,H⟩:=H;replace H : (if x4_1 < (x3_1.length : Int) then (laws_toVolS.l0 k1 l0 (x3_1.set (x4_1 : Int).toNat (⟨t1083,t1084⟩ : S147)) (wrap64 (x4_1 + 1))) else (none)) = some r:=H;have A8:=Aside0.mk A80;clear A80
       by_cases c9 : x4_1 < (x3_1.length : Int)
       ·rw [if_pos c9] at H;have c9b0 : decide (x4_1 < (x3_1.length : Int)) = true:=decide_eq_true c9;clear c9;obtain ⟨y1085,hy1085⟩ : ∃ y_ : List (S147),y_ = (x3_1.set (x4_1 : Int).toNat (⟨t1083,t1084⟩ : S147)):=⟨_,rfl⟩;replace H : (laws_toVolS.l0 k1 l0 y1085 (wrap64 (x4_1 + 1))) = some r:=by first | (rw [hy1085];with_reducible exact H) | (have H2_:=(Option.bind_some _ _).symm.trans H;rw [hy1085];with_reducible exact H2_) | (have H2_:=(Option.bind_some _ _).symm.trans H;with_reducible exact H2_) | with_reducible exact H | (rw [hy1085];exact H) | exact H
        have Ny1085:=Aside0.mk hy1085;clear hy1085;have H':=Aside0.mk H;clear H;have p1082 : 0 ≤ (x4_1 : Int):=of_decide_eq_true (by first | (with_reducible assumption) | assumption);have q1082 : x4_1 < (l0.length : Int):=of_decide_eq_true (by first | (with_reducible assumption) | assumption);obtain ⟨ad1082,e1082,hx1082_0,hx1082_1⟩:=at_T184 HR0.out x4_1 p1082 q1082;cases e1082;replace hx1082_0:=(HB.out.cell (World.block_lt_of_cell? w _ hx1082_0)).trans hx1082_0;replace hx1082_1:=(HB.out.cell (World.block_lt_of_cell? w _ hx1082_1)).trans hx1082_1;replace p1082:=eq_true p1082;replace q1082:=eq_true q1082;go_wp2_with (first | ((with_reducible refine gate_callee (f:=152) rfl ?_);refine goesL_ (some 20) rfl rfl Try.func152 (by kernel_rfl) rfl #[.agg #[.int .i64 ((rd_T184 l0 x4_1).f0),.int .i64 ((rd_T184 l0 x4_1).f1)]] rfl (by (try simp only [List.map_toArray,List.map_cons,List.map_nil]);first | done | rfl | (simp only [List.length_drop,List.length_take];rfl)) ?_;(with_reducible refine (laws_toVol.calls ((rd_T184 l0 x4_1).f0) ((rd_T184 l0 x4_1).f1) t1083 t1084 _ A8.out).mono ?_);rintro e w11 ⟨rfl,hb⟩;refine ⟨_,rfl,?_⟩;have n0_:=Aside0.mk (Kd.R_below (rs HO_3) hb);have n1_:=Aside0.mk (below_step (hs HB) hb);clear HO_3;clear HB;have HO_3:=n0_;have HB:=n1_;clear n0_ n1_;(try clear hb);(try clear hb2);(try clear hk);(try clear hi);have p10 : 0 ≤ (x4_1 : Int):=of_decide_eq_true (by first | (with_reducible assumption) | assumption);have q10 : (x4_1 : Int) < ((x3_1.length : Int) : Int):=of_decide_eq_true (by first | (with_reducible assumption) | assumption);obtain ⟨go10,co10,eo10,gb10,gl10,cl10,HG10⟩:=Kd.R_form HO_3.out (by omega);(first | cases eo10 | (injection eo10 with ea_ en_ ec_;(first | subst ea_ | (injection ea_ with ea_;subst ea_));subst ec_;clear en_));have GB10:=Aside0.mk gb10;have GG10:=Aside0.mk HG10;clear gb10 gl10 HG10;obtain ⟨ce10,hcl10,hM10,hcc10,hfr10⟩:=Kd.R_elem HO_3.out z147 (x4_1 : Int) p10 q10;obtain rfl:=k147_openM hM10;have hx10_0 : w11.cell? ⟨go10,(x4_1 : Int).toNat * 2,none⟩ = some (.int .i64 ((rd_T147 x3_1 x4_1).f0)):=hcc10 0 _ rfl;have hx10_1 : w11.cell? ⟨go10,(x4_1 : Int).toNat * 2 + 1,none⟩ = some (.int .i64 ((rd_T147 x3_1 x4_1).f1)):=hcc10 1 _ rfl;have hf10_0 : w11.frozen? ⟨go10,(x4_1 : Int).toNat * 2,none⟩ = false:=hfr10 0;have hf10_1 : w11.frozen? ⟨go10,(x4_1 : Int).toNat * 2 + 1,none⟩ = false:=hfr10 1;clear hcl10 hcc10 hfr10 hM10;replace p10:=eq_true p10;replace q10:=eq_true q10;have HX12:=Aside0.mk (show Kd.R k147 147 w11 w.heap.size (fun _=>True) (.slice (some ⟨go10,0,none⟩) x3_1.length co10) x3_1 from (rs HO_3));obtain ⟨ce12,hcl12,hM12,hcc12,hfr12⟩:=Kd.R_elem HX12.out z147 (x4_1 : Int) (of_decide_eq_true (by first | (with_reducible assumption) | assumption)) (by have h_ : (x4_1 : Int) < ((x3_1.length : Int) : Int):=of_decide_eq_true (by first | (with_reducible assumption) | assumption);first | exact h_ | (have e_:=(Kd.R_reads' HO_3.out).1;omega) | simpa using h_);obtain rfl:=k147_openM hM12;have HP12:=Kd.R_seg HX12.out (x4_1 : Int) (of_decide_eq_true (by first | (with_reducible assumption) | assumption)) (by have h_ : (x4_1 : Int) < ((x3_1.length : Int) : Int):=of_decide_eq_true (by first | (with_reducible assumption) | assumption);first | exact h_ | (have e_:=(Kd.R_reads' HO_3.out).1;omega) | simpa using h_) (seg:=[.int .i64 t1083,.int .i64 t1084]) (j:=0) hcl12 hcc12 (show 2 ≤ 2 from by decide) (x':=(⟨t1083,t1084⟩ : S147)) (k147_mkM _ _ _ (⟨t1083,t1084⟩ : S147) ) (fun _ hk=>hk);have hx12_0:=hcc12 0 _ rfl;(try simp only [show (k147).sz = 2 from rfl,Nat.mul_one,Nat.add_zero] at hx12_0);have hf12_0:=hfr12 0;(try simp only [show (k147).sz = 2 from rfl,Nat.mul_one,Nat.add_zero] at hf12_0);have hx12_1:=hcc12 1 _ rfl;(try simp only [show (k147).sz = 2 from rfl,Nat.mul_one,Nat.add_zero] at hx12_1);have hf12_1:=hfr12 1;(try simp only [show (k147).sz = 2 from rfl,Nat.mul_one,Nat.add_zero] at hf12_1);clear hcl12 hcc12 hfr12 hM12) | ((with_reducible refine gate_store (t:=147) (p:=21) rfl ?_);refine store_event (t:=147) (p:=21) (v:=?vo_w13) (w1:=((w11.setCell ⟨go10,(x4_1 : Int).toNat * 2,none⟩ (.int .i64 t1083)).setCell ⟨go10,(x4_1 : Int).toNat * 2 + 1,none⟩ (.int .i64 t1084))) ?hg ?ho ?hn ?hr ?_;(case ho=>rfl);(case hg=>rfl);(case hn=>rfl);(case hr=>first | (go_simp;done) | (go_simp;rfl));intro w13 hw;have hg : w11.grownBy w13 (some go10):=(by rw [hw];exact HP12.2);have hp_ : Kd.R k147 147 w13 w.heap.size (fun _=>True) (.slice (some ⟨go10,0,none⟩) x3_1.length co10) y1085:=(by rw [hw,Ny1085.out];exact HP12.1);clear HP12;have n0_:=Aside0.mk (hp_);have n1_:=Aside0.mk ((by rw [hw];exact below_set (below_set (HB.out) GB10.out) GB10.out : Below w.heap.size w w13));clear HO_3;clear HB;have HO_3:=n0_;have HB:=n1_;clear n0_ n1_;clear hg hw hp_));go_roundg k1;case measure=>have:=HK1.out;omega
        case rel=>exact ⟨(y1085),(wrap64 (x4_1 + 1)),(by first | rfl | (simp;done) | (simp [*];done)),H',⟨by have:=HK1.out;omega⟩,⟨rs HO_3⟩,⟨hs HB⟩⟩
       rw [if_neg c9] at H;exact absurd H (by simp)
      rw [if_neg c7] at H;exact absurd H (by simp)
     rw [if_neg c6] at H;have c6b0 : decide (x4_1 < (l0.length : Int)) = false:=decide_eq_false c6;clear c6;obtain rfl:=Option.some.inj H
     go_wp2
     go_ret
     exact ⟨_,by first | rfl | (simp [errW_none,errW_some] <;> rfl) | (simp [*,errW_none,errW_some] <;> rfl),rs HO_3,hs HB⟩
  rw [if_neg c3] at H;exact absurd H (by simp)
 rw [if_neg c2] at H;exact absurd H (by simp)
end Go.Proofs.Ytdolplcbokioaaa.PB

namespace Go.Proofs.Ytdolplcbokioaaa.PB
open Go.RowKit Go.Proofs.YtdolplcbokioaaaW.PrintWords Go.Proofs.YtdolplcbokioaaaW.PrintLast Go.Proofs.YtdolplcbokioaaaW.PrintMore
attribute [local go_sem] max2_int min2_int max_two min_two max_three min_three max_four min_four   -- for this text's walks alone
set_option linter.unusedVariables false
set_option linter.unusedSimpArgs false
def laws_toStore.f (k : Nat) (l0_0 : List (S184)) (l0_1 : List (S175)) (a0_2 : Int) : Option ((List (S147)) × (List (S133)) × Int):=(laws_toVolS.f k l0_0).bind fun t1089=>((laws_toArena.f k l0_1).bind fun t1092=>(some (t1089,t1092,a0_2)))
theorem laws_toStore.mono : ∀ a0 a1 a2 k,LeO (laws_toStore.f k a0 a1 a2) (laws_toStore.f (k + 1) a0 a1 a2):=by
 intro a0 a1 a2 k;unfold laws_toStore.f
 repeat' first
   | (with_reducible exact laws_toArena.mono _ _)
   | (with_reducible exact laws_toVolS.mono _ _)
   | (with_reducible exact LeO.refl _)
   | (with_reducible exact LeO.none _)
   | (with_reducible refine LeO.ite ?_ ?_)
   | (with_reducible refine LeO.bind ?_ (fun _=>?_))
   | exact laws_toArena.mono _ _
   | exact laws_toVolS.mono _ _
   | exact LeO.none _
   | refine LeO.ite ?_ ?_
   | refine LeO.bind ?_ (fun _=>?_)
set_option maxHeartbeats 8000000 in
set_option maxRecDepth 100000 in
theorem laws_toStore.calls (k : Nat) (A0_0 : Option Addr) (c0_0 : Nat) (l0_0 : List (S184)) (A0_1 : Option Addr) (c0_1 : Nat) (l0_1 : List (S175)) (a0_2 : Int) (r1 : List (S147)) (r2 : List (S133)) (r3 : Int) (w : World) (hr0_0 : Kd.C k184 w A0_0 l0_0.length l0_0) (hc0_0 : l0_0.length ≤ c0_0) (hr0_1 : Kd.C k175 w A0_1 l0_1.length l0_1) (hc0_1 : l0_1.length ≤ c0_1) (h : laws_toStore.f k l0_0 l0_1 a0_2 = some (r1,r2,r3)) :
  Calls Try.prog 46 #[.agg #[.slice A0_0 l0_0.length c0_0,.slice A0_1 l0_1.length c0_1,.int .i64 a0_2]] w fun e w'=>∃ v0_ v1_ : Value,e = .returned (.agg #[v0_,v1_,.int .i64 r3]) ∧ Kd.R k147 147 w' w.heap.size (fun _=>True) v0_ r1 ∧ Kd.S k133 133 w' w.heap.size (fun _=>True) v1_ r2 ∧ Below w.heap.size w w':=by
 have hu78:=Try.underlying78;have hu83:=Try.underlying83;have hu53:=Try.underlying53;have hu44:=Try.underlying44;have HR0_0:=Aside0.mk hr0_0;have HC0_0:=Aside0.mk hc0_0;clear hr0_0 hc0_0;have HR0_1:=Aside0.mk hr0_1;have HC0_1:=Aside0.mk hc0_1;clear hr0_1 hc0_1;have HB:=Aside0.mk (Below.refl w.heap.size w);have H : ((laws_toVolS.f k l0_0).bind fun t1089=>((laws_toArena.f k l0_1).bind fun t1092=>(some (t1089,t1092,a0_2)))) = some (r1,r2,r3):=h;clear h;replace H:=Option.bind_eq_some_iff.mp H;obtain ⟨t1089,A20,H⟩:=H;replace H : ((laws_toArena.f k l0_1).bind fun t1092=>(some (t1089,t1092,a0_2))) = some (r1,r2,r3):=H;have A2:=Aside0.mk A20;clear A20;replace H:=Option.bind_eq_some_iff.mp H;obtain ⟨t1092,A30,H⟩:=H;replace H : (some (t1089,t1092,a0_2)) = some (r1,r2,r3):=H;have A3:=Aside0.mk A30;clear A30;simp only [Option.some.injEq,Prod.mk.injEq] at H;obtain ⟨rfl,rfl,rfl⟩:=H
 go_enter Try.func46,Try.ntmps46
 go_wp2_with (first | ((with_reducible refine gate_dst (N:=1) rfl ?_);refine box_event ?hg (N:=1) ?hd (cs:=#[.slice A0_0 l0_0.length c0_0,.slice A0_1 l0_1.length c0_1,.int .i64 a0_2]) (t:=78) ?hr ?_;(case hd=>rfl);(case hg=>rfl);(case hr=>first | (go_simp;done) | (go_simp;rfl));intro gb1086 hg w4 hbox hb;have n0_:=Aside0.mk (below_step (hs HB) hb);have n1_:=Aside0.mk (hbox);have n2_:=Aside0.mk ((by rw [hg];exact (below_size (hs HB)) : w.heap.size ≤ gb1086));have n3_:=Aside0.mk ((by rw [hg];exact (below_size (hs HB)) : w.heap.size ≤ gb1086));clear HB;have HB:=n0_;have BK1086:=n1_;have GW1086:=n2_;have GE1086:=n3_;clear n0_ n1_ n2_ n3_;clear hb hbox hg) | ((with_reducible refine gate_dst (N:=2) rfl ?_);refine box_event ?hg (N:=2) ?hd (cs:=#[.slice none 0 0,.slice none 0 0,.int .i64 0]) (t:=83) ?hr ?_;(case hd=>rfl);(case hg=>rfl);(case hr=>first | (go_simp;done) | (go_simp;rfl));intro gb1087 hg w5 hbox hb;have n0_:=Aside0.mk (blk_below (g:=gb1086) (o:=.cells #[.slice A0_0 l0_0.length c0_0,.slice A0_1 l0_1.length c0_1,.int .i64 a0_2] 78 (0,0)) (bs BK1086) hb);have n1_:=Aside0.mk (below_step (hs1 HB GE1086) hb);have n2_:=Aside0.mk (hbox);have n3_:=Aside0.mk ((by rw [hg];exact (below_size (hs1 HB GE1086)) : w.heap.size ≤ gb1087));have n4_:=Aside0.mk ((by rw [hg];exact (below_size (hs1 HB GE1086)) : w.heap.size ≤ gb1087));have n5_:=Aside0.mk ((by rw [hg];exact Nat.ne_of_lt (blk_lt (g:=gb1086) (o:=.cells #[.slice A0_0 l0_0.length c0_0,.slice A0_1 l0_1.length c0_1,.int .i64 a0_2] 78 (0,0)) (bs BK1086)) : gb1086 ≠ gb1087));have n6_:=Aside0.mk ((by rw [hg];exact Nat.ne_of_gt (blk_lt (g:=gb1086) (o:=.cells #[.slice A0_0 l0_0.length c0_0,.slice A0_1 l0_1.length c0_1,.int .i64 a0_2] 78 (0,0)) (bs BK1086)) : gb1087 ≠ gb1086));clear BK1086;clear HB;have BK1086:=n0_;have HB:=n1_;have BK1087:=n2_;have GW1087:=n3_;have GE1087:=n4_;have NB1086_1087:=n5_;have NB1087_1086:=n6_;clear n0_ n1_ n2_ n3_ n4_ n5_ n6_;clear hb hbox hg) | ((with_reducible refine gate_dst (N:=3) rfl ?_);refine box_event ?hg (N:=3) ?hd (cs:=#[.slice none 0 0,.slice none 0 0,.int .i64 0]) (t:=83) ?hr ?_;(case hd=>rfl);(case hg=>rfl);(case hr=>first | (go_simp;done) | (go_simp;rfl));intro gb1088 hg w6 hbox hb;have n0_:=Aside0.mk (blk_below (g:=gb1086) (o:=.cells #[.slice A0_0 l0_0.length c0_0,.slice A0_1 l0_1.length c0_1,.int .i64 a0_2] 78 (0,0)) (bs BK1086) hb);have n1_:=Aside0.mk (blk_below (g:=gb1087) (o:=.cells #[.slice none 0 0,.slice none 0 0,.int .i64 0] 83 (0,0)) (bs BK1087) hb);have n2_:=Aside0.mk (below_step (hs2 HB GE1086 GE1087) hb);have n3_:=Aside0.mk (hbox);have n4_:=Aside0.mk ((by rw [hg];exact (below_size (hs2 HB GE1086 GE1087)) : w.heap.size ≤ gb1088));have n5_:=Aside0.mk ((by rw [hg];exact (below_size (hs2 HB GE1086 GE1087)) : w.heap.size ≤ gb1088));have n6_:=Aside0.mk ((by rw [hg];exact Nat.ne_of_lt (blk_lt (g:=gb1086) (o:=.cells #[.slice A0_0 l0_0.length c0_0,.slice A0_1 l0_1.length c0_1,.int .i64 a0_2] 78 (0,0)) (bs BK1086)) : gb1086 ≠ gb1088));have n7_:=Aside0.mk ((by rw [hg];exact Nat.ne_of_gt (blk_lt (g:=gb1086) (o:=.cells #[.slice A0_0 l0_0.length c0_0,.slice A0_1 l0_1.length c0_1,.int .i64 a0_2] 78 (0,0)) (bs BK1086)) : gb1088 ≠ gb1086));have n8_:=Aside0.mk ((by rw [hg];exact Nat.ne_of_lt (blk_lt (g:=gb1087) (o:=.cells #[.slice none 0 0,.slice none 0 0,.int .i64 0] 83 (0,0)) (bs BK1087)) : gb1087 ≠ gb1088));have n9_:=Aside0.mk ((by rw [hg];exact Nat.ne_of_gt (blk_lt (g:=gb1087) (o:=.cells #[.slice none 0 0,.slice none 0 0,.int .i64 0] 83 (0,0)) (bs BK1087)) : gb1088 ≠ gb1087));clear BK1086;clear BK1087;clear HB;have BK1086:=n0_;have BK1087:=n1_;have HB:=n2_;have BK1088:=n3_;have GW1088:=n4_;have GE1088:=n5_;have NB1086_1088:=n6_;have NB1088_1086:=n7_;have NB1087_1088:=n8_;have NB1088_1087:=n9_;clear n0_ n1_ n2_ n3_ n4_ n5_ n6_ n7_ n8_ n9_;clear hb hbox hg;have hnb7:=NB1086_1087.out;have hnc7:=NB1087_1086.out;have hnb8:=NB1086_1088.out;have hnc8:=NB1088_1086.out;have hcz9_0 : w6.cell? ⟨gb1086,0,none⟩ = some (.slice A0_0 l0_0.length c0_0):=(blk_cell BK1086.out 0).trans rfl;have hcz9_1 : w6.cell? ⟨gb1086,1,none⟩ = some (.slice A0_1 l0_1.length c0_1):=(blk_cell BK1086.out 1).trans rfl;have hcz9_2 : w6.cell? ⟨gb1086,2,none⟩ = some (.int .i64 a0_2):=(blk_cell BK1086.out 2).trans rfl;have hfz9_0:=blk_frozen BK1086.out 0;have hfz9_1:=blk_frozen BK1086.out 1;have hfz9_2:=blk_frozen BK1086.out 2) | ((with_reducible refine gate_callee (f:=114) rfl ?_);refine goesL_ (some 6) rfl rfl Try.func114 (by kernel_rfl) rfl #[.slice A0_0 l0_0.length c0_0] rfl (by (try simp only [List.map_toArray,List.map_cons,List.map_nil]);first | done | rfl | (simp only [List.length_drop,List.length_take];rfl)) ?_;(with_reducible refine (laws_toVolS.calls k _ _ l0_0 t1089 _ ?side1 ?side2 A2.out).mono ?_);(case side1=>repeat (first | exact (Kd.C_below HR0_0.out HB.out) | (with_reducible refine Kd.C_alloc ?_ _) | (with_reducible refine Kd.C_drewN ?_ _) | (with_reducible refine Kd.C_drew ?_)));(case side2=>exact HC0_0.out);rintro e w10 ⟨v1090,rfl,ho0,hb⟩;refine ⟨_,rfl,?_⟩;have n0_:=Aside0.mk (Kd.R_lower ho0 (below_size (hs3 HB GE1086 GE1087 GE1088)));have n1_:=Aside0.mk (blk_below (g:=gb1086) (o:=.cells #[.slice A0_0 l0_0.length c0_0,.slice A0_1 l0_1.length c0_1,.int .i64 a0_2] 78 (0,0)) (bs BK1086) hb);have n2_:=Aside0.mk (blk_below (g:=gb1087) (o:=.cells #[.slice none 0 0,.slice none 0 0,.int .i64 0] 83 (0,0)) (bs BK1087) hb);have n3_:=Aside0.mk (blk_below (g:=gb1088) (o:=.cells #[.slice none 0 0,.slice none 0 0,.int .i64 0] 83 (0,0)) (bs BK1088) hb);have n4_:=Aside0.mk (below_step (hs3 HB GE1086 GE1087 GE1088) hb);clear BK1086;clear BK1087;clear BK1088;clear HB;have HO1091:=n0_;have BK1086:=n1_;have BK1087:=n2_;have BK1088:=n3_;have HB:=n4_;clear n0_ n1_ n2_ n3_ n4_;(try clear hb);(try clear hb2);(try clear hk);(try clear hi);(try clear ho0);obtain ⟨Ao11,co11,eo11⟩:=Kd.R_slice HO1091.out;subst eo11;have hnb12:=NB1088_1087.out;have hnc12:=NB1087_1088.out;have hcz13_0 : w10.cell? ⟨gb1088,0,none⟩ = some (.slice none 0 0):=(blk_cell BK1088.out 0).trans rfl;have hcz13_1 : w10.cell? ⟨gb1088,1,none⟩ = some (.slice none 0 0):=(blk_cell BK1088.out 1).trans rfl;have hcz13_2 : w10.cell? ⟨gb1088,2,none⟩ = some (.int .i64 0):=(blk_cell BK1088.out 2).trans rfl;have hfz13_0:=blk_frozen BK1088.out 0;have hfz13_1:=blk_frozen BK1088.out 1;have hfz13_2:=blk_frozen BK1088.out 2;have hcz14_0 : w10.cell? ⟨gb1086,0,none⟩ = some (.slice A0_0 l0_0.length c0_0):=(blk_cell BK1086.out 0).trans rfl;have hcz14_1 : w10.cell? ⟨gb1086,1,none⟩ = some (.slice A0_1 l0_1.length c0_1):=(blk_cell BK1086.out 1).trans rfl;have hcz14_2 : w10.cell? ⟨gb1086,2,none⟩ = some (.int .i64 a0_2):=(blk_cell BK1086.out 2).trans rfl;have hfz14_0:=blk_frozen BK1086.out 0;have hfz14_1:=blk_frozen BK1086.out 1;have hfz14_2:=blk_frozen BK1086.out 2) | ((with_reducible refine gate_callee (f:=31) rfl ?_);refine goesL_ (some 10) rfl rfl Try.func31 (by kernel_rfl) rfl #[.agg #[.slice A0_1 l0_1.length c0_1]] rfl (by (try simp only [List.map_toArray,List.map_cons,List.map_nil]);first | done | rfl | (simp only [List.length_drop,List.length_take];rfl)) ?_;(with_reducible refine (laws_toArena.calls k _ _ l0_1 t1092 _ ?side1 ?side2 A3.out).mono ?_);(case side1=>exact Kd.C_below HR0_1.out (hs3 HB GE1086 GE1087 GE1088));(case side2=>exact HC0_1.out);rintro e w15 ⟨v1093,rfl,ho0,hb⟩;refine ⟨_,rfl,?_⟩;have n0_:=Aside0.mk (Kd.R_below (by (with_reducible repeat (first | apply Kd.R_alloc | apply Kd.R_drewN | apply Kd.R_drew));exact (Kd.R_mono (Kd.R_far (p:=⟨gb1088,0,none⟩) (Kd.R_types HO1091.out BK1088.out (by decide)) (fun _ hk=>hk.2) (.slice Ao11 t1089.length co11)) (fun _ h_=>h_.1))) hb);have n1_:=Aside0.mk (Kd.S_lower ho0 (below_size (hs3 HB GE1086 GE1087 GE1088)));have n2_:=Aside0.mk (blk_below (g:=gb1086) (o:=.cells #[.slice A0_0 l0_0.length c0_0,.slice A0_1 l0_1.length c0_1,.int .i64 a0_2] 78 (0,0)) (by (with_reducible repeat (first | refine blk_drewN ?_ _ | refine blk_drew ?_ | refine blk_alloc ?_ _));refine blk_far ?_ NB1086_1088.out _;(with_reducible repeat (first | refine blk_drewN ?_ _ | refine blk_drew ?_ | refine blk_alloc ?_ _));exact BK1086.out) hb);have n3_:=Aside0.mk (blk_below (g:=gb1087) (o:=.cells #[.slice none 0 0,.slice none 0 0,.int .i64 0] 83 (0,0)) (by (with_reducible repeat (first | refine blk_drewN ?_ _ | refine blk_drew ?_ | refine blk_alloc ?_ _));refine blk_far ?_ NB1087_1088.out _;(with_reducible repeat (first | refine blk_drewN ?_ _ | refine blk_drew ?_ | refine blk_alloc ?_ _));exact BK1087.out) hb);have n4_:=Aside0.mk (blk_below (g:=gb1088) (o:=.cells #[.slice Ao11 t1089.length co11,.slice none 0 0,.int .i64 0] 83 (0,0)) (by (with_reducible repeat (first | refine blk_drewN ?_ _ | refine blk_drew ?_ | refine blk_alloc ?_ _));refine blk_put (cs:=#[.slice none 0 0,.slice none 0 0,.int .i64 0]) ?_ 0 _ rfl;(with_reducible repeat (first | refine blk_drewN ?_ _ | refine blk_drew ?_ | refine blk_alloc ?_ _));exact BK1088.out) hb);have n5_:=Aside0.mk (below_step (hs3 HB GE1086 GE1087 GE1088) hb);clear HO1091;clear BK1086;clear BK1087;clear BK1088;clear HB;have HO1091:=n0_;have HO1094:=n1_;have BK1086:=n2_;have BK1087:=n3_;have BK1088:=n4_;have HB:=n5_;clear n0_ n1_ n2_ n3_ n4_ n5_;(try clear hb);(try clear hb2);(try clear hk);(try clear hi);(try clear ho0);obtain ⟨Ao16,co16,eo16⟩:=Kd.S_slice HO1094.out;subst eo16;have hcz17_0 : w15.cell? ⟨gb1088,0,none⟩ = some (.slice Ao11 t1089.length co11):=(blk_cell BK1088.out 0).trans rfl;have hcz17_1 : w15.cell? ⟨gb1088,1,none⟩ = some (.slice none 0 0):=(blk_cell BK1088.out 1).trans rfl;have hcz17_2 : w15.cell? ⟨gb1088,2,none⟩ = some (.int .i64 0):=(blk_cell BK1088.out 2).trans rfl;have hfz17_0:=blk_frozen BK1088.out 0;have hfz17_1:=blk_frozen BK1088.out 1;have hfz17_2:=blk_frozen BK1088.out 2;have hcz18_0 : w15.cell? ⟨gb1086,0,none⟩ = some (.slice A0_0 l0_0.length c0_0):=(blk_cell BK1086.out 0).trans rfl;have hcz18_1 : w15.cell? ⟨gb1086,1,none⟩ = some (.slice A0_1 l0_1.length c0_1):=(blk_cell BK1086.out 1).trans rfl;have hcz18_2 : w15.cell? ⟨gb1086,2,none⟩ = some (.int .i64 a0_2):=(blk_cell BK1086.out 2).trans rfl;have hfz18_0:=blk_frozen BK1086.out 0;have hfz18_1:=blk_frozen BK1086.out 1;have hfz18_2:=blk_frozen BK1086.out 2;have hcz19_0 : w15.cell? ⟨gb1087,0,none⟩ = some (.slice none 0 0):=(blk_cell BK1087.out 0).trans rfl;have hcz19_1 : w15.cell? ⟨gb1087,1,none⟩ = some (.slice none 0 0):=(blk_cell BK1087.out 1).trans rfl;have hcz19_2 : w15.cell? ⟨gb1087,2,none⟩ = some (.int .i64 0):=(blk_cell BK1087.out 2).trans rfl;have hfz19_0:=blk_frozen BK1087.out 0;have hfz19_1:=blk_frozen BK1087.out 1;have hfz19_2:=blk_frozen BK1087.out 2));refine bodyPost_ret (results_cell_row rfl _ _ gb1087 83 #[.slice Ao11 t1089.length co11,.slice Ao16 t1092.length co16,.int .i64 a0_2] (0,0) _ rfl (by (with_reducible repeat (first | refine blk_drewN ?_ _ | refine blk_drew ?_ | refine blk_alloc ?_ _));refine blk_put (cs:=#[.slice Ao11 t1089.length co11,.slice Ao16 t1092.length co16,.int .i64 0]) ?_ 2 _ rfl;(with_reducible repeat (first | refine blk_drewN ?_ _ | refine blk_drew ?_ | refine blk_alloc ?_ _));refine blk_put (cs:=#[.slice Ao11 t1089.length co11,.slice none 0 0,.int .i64 0]) ?_ 1 _ rfl;(with_reducible repeat (first | refine blk_drewN ?_ _ | refine blk_drew ?_ | refine blk_alloc ?_ _));refine blk_put (cs:=#[.slice none 0 0,.slice none 0 0,.int .i64 0]) ?_ 0 _ rfl;(with_reducible repeat (first | refine blk_drewN ?_ _ | refine blk_drew ?_ | refine blk_alloc ?_ _));refine blk_far ?_ NB1087_1088.out _;(with_reducible repeat (first | refine blk_drewN ?_ _ | refine blk_drew ?_ | refine blk_alloc ?_ _));refine blk_far ?_ NB1087_1088.out _;(with_reducible repeat (first | refine blk_drewN ?_ _ | refine blk_drew ?_ | refine blk_alloc ?_ _));exact BK1087.out) Try.underlying83 rfl (by kernel_rfl)) rfl ?_;exact ⟨_,_,by first | rfl | (simp [errW_none,errW_some] <;> rfl) | (simp [*,errW_none,errW_some] <;> rfl),by (with_reducible repeat (first | apply Kd.R_alloc | apply Kd.R_drewN | apply Kd.R_drew));exact Kd.R_mono (Kd.R_far (p:=⟨gb1087,2,none⟩) (Kd.R_far (p:=⟨gb1087,1,none⟩) (Kd.R_far (p:=⟨gb1087,0,none⟩) (Kd.R_far (p:=⟨gb1088,2,none⟩) (Kd.R_far (p:=⟨gb1088,1,none⟩) (Kd.R_types (Kd.R_types HO1091.out BK1088.out (by decide)) BK1087.out (by decide)) (fun _ hk=>hk.1.2) (.slice Ao16 t1092.length co16)) (fun _ hk=>hk.1.2) (.int .i64 a0_2)) (fun _ hk=>hk.2) (.slice Ao11 t1089.length co11)) (fun _ hk=>hk.2) (.slice Ao16 t1092.length co16)) (fun _ hk=>hk.2) (.int .i64 a0_2)) (fun _ hk=>trivial),by (with_reducible repeat (first | apply Kd.S_alloc | apply Kd.S_drewN | apply Kd.S_drew));exact Kd.S_mono (Kd.S_far (p:=⟨gb1087,2,none⟩) (Kd.S_far (p:=⟨gb1087,1,none⟩) (Kd.S_far (p:=⟨gb1087,0,none⟩) (Kd.S_far (p:=⟨gb1088,2,none⟩) (Kd.S_far (p:=⟨gb1088,1,none⟩) (Kd.S_types (Kd.S_types HO1094.out BK1088.out (by decide)) BK1087.out (by decide)) (fun _ hk=>hk.1.2) (.slice Ao16 t1092.length co16)) (fun _ hk=>hk.1.2) (.int .i64 a0_2)) (fun _ hk=>hk.2) (.slice Ao11 t1089.length co11)) (fun _ hk=>hk.2) (.slice Ao16 t1092.length co16)) (fun _ hk=>hk.2) (.int .i64 a0_2)) (fun _ hk=>trivial),hs3 HB GE1086 GE1087 GE1088⟩
end Go.Proofs.Ytdolplcbokioaaa.PB

namespace Go.Proofs.Ytdolplcbokioaaa.PB
open Go.RowKit Go.Proofs.YtdolplcbokioaaaW.PrintWords Go.Proofs.YtdolplcbokioaaaW.PrintLast Go.Proofs.YtdolplcbokioaaaW.PrintMore
attribute [local go_sem] max2_int min2_int max_two min_two max_three min_three max_four min_four   -- for this text's walks alone
set_option linter.unusedVariables false
set_option linter.unusedSimpArgs false
def laws_eqIntS.l0 : Nat → List Int → List Int → Int → Option (Bool)
 | 0,_,_,_=>none
 | k + 1,x0,x1,x5=>if x5 < (x0.length : Int) then (if 0 ≤ x5 then (if x5 < (x1.length : Int) then (if (rd x0 x5) = (rd x1 x5) then (laws_eqIntS.l0 k x0 x1 (wrap64 (x5 + 1))) else (some false)) else (none)) else (none)) else (some true)
def laws_eqIntS.f (k : Nat) (l0 : List Int) (l1 : List Int) : Option (Bool):=if (l0.length : Int) = (l1.length : Int) then (laws_eqIntS.l0 k l0 l1 0) else (some false)
theorem laws_eqIntS.mono_l : ∀ k,(∀ y0 y1 y2,LeO (laws_eqIntS.l0 k y0 y1 y2) (laws_eqIntS.l0 (k + 1) y0 y1 y2))
 | 0=>fun _ _ _ r h=>by simp [laws_eqIntS.l0] at h
 | k + 1=>by
  have ih0:=laws_eqIntS.mono_l k;intro y0 y1 y2;unfold laws_eqIntS.l0
  repeat' first
  | (with_reducible exact ih0 _ _ _)
  | (with_reducible exact LeO.refl _)
  | (with_reducible exact LeO.none _)
  | (with_reducible refine LeO.ite ?_ ?_)
  | (with_reducible refine LeO.bind ?_ (fun _=>?_))
  | exact ih0 _ _ _
  | exact LeO.none _
  | refine LeO.ite ?_ ?_
  | refine LeO.bind ?_ (fun _=>?_)
theorem laws_eqIntS.mono : ∀ a0 a1 k,LeO (laws_eqIntS.f k a0 a1) (laws_eqIntS.f (k + 1) a0 a1):=by
 intro a0 a1 k;have ih0:=laws_eqIntS.mono_l k;unfold laws_eqIntS.f
 repeat' first
   | (with_reducible exact ih0 _ _ _)
   | (with_reducible exact LeO.refl _)
   | (with_reducible exact LeO.none _)
   | (with_reducible refine LeO.ite ?_ ?_)
   | (with_reducible refine LeO.bind ?_ (fun _=>?_))
   | exact ih0 _ _ _
   | exact LeO.none _
   | refine LeO.ite ?_ ?_
   | refine LeO.bind ?_ (fun _=>?_)
set_option maxHeartbeats 8000000 in
set_option maxRecDepth 100000 in
theorem laws_eqIntS.calls (k : Nat) (A0 : Option Addr) (c0 : Nat) (l0 : List Int) (A1 : Option Addr) (c1 : Nat) (l1 : List Int) (r : Bool) (w : World) (hr0 : Kd.C (Kd.int .i64) w A0 l0.length l0) (hc0 : l0.length ≤ c0) (hr1 : Kd.C (Kd.int .i64) w A1 l1.length l1) (hc1 : l1.length ≤ c1) (h : laws_eqIntS.f k l0 l1 = some r) :
  Calls Try.prog 74 #[.slice A0 l0.length c0,.slice A1 l1.length c1] w fun e w'=>e = .returned (.bool r) ∧ Drawn0 w w':=by
 have HR0:=Aside0.mk hr0;have HC0:=Aside0.mk hc0;clear hr0 hc0;have HR1:=Aside0.mk hr1;have HC1:=Aside0.mk hc1;clear hr1 hc1;have H : (if (l0.length : Int) = (l1.length : Int) then (laws_eqIntS.l0 k l0 l1 0) else (some false)) = some r:=h;clear h
 by_cases c3 : (l0.length : Int) = (l1.length : Int)
 ·rw [if_pos c3] at H;have c3b0 : ((l0.length : Int) == (l1.length : Int)) = true:=beq_iff_eq.mpr c3;have c3b1 : ((l0.length : Int) != (l1.length : Int)) = false:=bne_eq_false_iff_eq.mpr c3;have c3b2 : (l0.length == l1.length) = true:=by first | simpa using c3 | (simp at c3 ⊢;omega)
  clear c3;have H':=Aside0.mk H;clear H
  go_enter Try.func74,Try.ntmps74
  go_wp2
  repeat (go_quiet (fail);try go_wp2)
  go_loopg [5] k (fun kq v5 w'=>∃ (x5_1 : Int),v5 = .int .i64 x5_1 ∧ Aside0 (laws_eqIntS.l0 kq l0 l1 x5_1 = some r) ∧ Aside0 (kq ≤ k) ∧ Drawn0 w w');case atStart=>exact ⟨(0),(by first | rfl | (simp;done) | (simp [*];done)),H',⟨Nat.le_refl _⟩,by repeat (first | exact Drawn0.refl _ | apply Drawn0.step)⟩
  case round =>
   clear H'
   try clear c1
   try clear p2
   try clear c3
   try clear c3b0
   try clear c3b1
   try clear c3b2
   obtain ⟨x5_1,rfl,HA,HK1,⟨m1,rfl⟩⟩:=hrel;cases gk with
   | zero=>exact absurd HA.out (by simp [laws_eqIntS.l0])
   | succ k1 =>
    have H:=HA.out;clear HA;simp only [laws_eqIntS.l0] at H
    by_cases c4 : x5_1 < (l0.length : Int)
    ·rw [if_pos c4] at H;have c4b0 : decide (x5_1 < (l0.length : Int)) = true:=decide_eq_true c4;clear c4
     by_cases c5 : 0 ≤ x5_1
     ·rw [if_pos c5] at H;have c5b0 : decide (0 ≤ x5_1) = true:=decide_eq_true c5;clear c5
      by_cases c6 : x5_1 < (l1.length : Int)
      ·rw [if_pos c6] at H;have c6b0 : decide (x5_1 < (l1.length : Int)) = true:=decide_eq_true c6;clear c6
       by_cases c7 : (rd l0 x5_1) = (rd l1 x5_1)
       ·rw [if_pos c7] at H;have c7b0 : ((rd l0 x5_1) == (rd l1 x5_1)) = true:=beq_iff_eq.mpr c7;have c7b1 : ((rd l0 x5_1) != (rd l1 x5_1)) = false:=bne_eq_false_iff_eq.mpr c7;clear c7;have H':=Aside0.mk H;clear H;have p858 : 0 ≤ (x5_1 : Int):=of_decide_eq_true (by first | (with_reducible assumption) | assumption);have q858 : x5_1 < (l0.length : Int):=of_decide_eq_true (by first | (with_reducible assumption) | assumption);obtain ⟨ad858,e858,hx858_0⟩:=Kd.at_int HR0.out x5_1 p858 q858;cases e858;replace p858:=eq_true p858;replace q858:=eq_true q858;have p859 : 0 ≤ (x5_1 : Int):=of_decide_eq_true (by first | (with_reducible assumption) | assumption);have q859 : x5_1 < (l1.length : Int):=of_decide_eq_true (by first | (with_reducible assumption) | assumption);obtain ⟨ad859,e859,hx859_0⟩:=Kd.at_int HR1.out x5_1 p859 q859;cases e859;replace p859:=eq_true p859;replace q859:=eq_true q859
        go_wp2
        repeat (go_quiet (fail);try go_wp2)
        go_roundg k1;case measure=>have:=HK1.out;omega
        case rel=>exact ⟨(wrap64 (x5_1 + 1)),(by first | rfl | (simp;done) | (simp [*];done)),H',⟨by have:=HK1.out;omega⟩,by repeat (first | exact Drawn0.refl _ | apply Drawn0.step)⟩
       rw [if_neg c7] at H;have c7b0 : ((rd l0 x5_1) == (rd l1 x5_1)) = false:=beq_eq_false_iff_ne.mpr c7;have c7b1 : ((rd l0 x5_1) != (rd l1 x5_1)) = true:=bne_iff_ne.mpr c7;obtain rfl:=Option.some.inj H;have p858 : 0 ≤ (x5_1 : Int):=of_decide_eq_true (by first | (with_reducible assumption) | assumption);have q858 : x5_1 < (l0.length : Int):=of_decide_eq_true (by first | (with_reducible assumption) | assumption);obtain ⟨ad858,e858,hx858_0⟩:=Kd.at_int HR0.out x5_1 p858 q858;cases e858;replace p858:=eq_true p858;replace q858:=eq_true q858;have p859 : 0 ≤ (x5_1 : Int):=of_decide_eq_true (by first | (with_reducible assumption) | assumption);have q859 : x5_1 < (l1.length : Int):=of_decide_eq_true (by first | (with_reducible assumption) | assumption);obtain ⟨ad859,e859,hx859_0⟩:=Kd.at_int HR1.out x5_1 p859 q859;cases e859;replace p859:=eq_true p859;replace q859:=eq_true q859
       go_wp2
       repeat (go_quiet (fail);try go_wp2)
       go_ret
       exact ⟨by first | rfl | (simp;done) | (simp [*];done),by repeat (first | exact Drawn0.refl _ | apply Drawn0.step)⟩
      rw [if_neg c6] at H;exact absurd H (by simp)
     rw [if_neg c5] at H;exact absurd H (by simp)
    rw [if_neg c4] at H;have c4b0 : decide (x5_1 < (l0.length : Int)) = false:=decide_eq_false c4;clear c4;obtain rfl:=Option.some.inj H
    go_wp2
    repeat (go_quiet (fail);try go_wp2)
    go_ret
    exact ⟨by first | rfl | (simp;done) | (simp [*];done),by repeat (first | exact Drawn0.refl _ | apply Drawn0.step)⟩
 rw [if_neg c3] at H;have c3b0 : ((l0.length : Int) == (l1.length : Int)) = false:=beq_eq_false_iff_ne.mpr c3;have c3b1 : ((l0.length : Int) != (l1.length : Int)) = true:=bne_iff_ne.mpr c3;have c3b2 : (l0.length == l1.length) = false:=by first | simpa using c3 | (simp at c3 ⊢;omega)
 obtain rfl:=Option.some.inj H
 go_enter Try.func74,Try.ntmps74
 go_wp2
 repeat (go_quiet (fail);try go_wp2)
 go_ret
 exact ⟨by first | rfl | (simp;done) | (simp [*];done),by repeat (first | exact Drawn0.refl _ | apply Drawn0.step)⟩
end Go.Proofs.Ytdolplcbokioaaa.PB

namespace Go.Proofs.Ytdolplcbokioaaa.PB
open Go.RowKit Go.Proofs.YtdolplcbokioaaaW.PrintWords Go.Proofs.YtdolplcbokioaaaW.PrintLast Go.Proofs.YtdolplcbokioaaaW.PrintMore
attribute [local go_sem] max2_int min2_int max_two min_two max_three min_three max_four min_four   -- for this text's walks alone
set_option linter.unusedVariables false
set_option linter.unusedSimpArgs false
def laws_eqKnot.f (k : Nat) (a0_0 : Bool) (l0_1 : List Int) (a1_0 : Bool) (l1_1 : List Int) : Option (Bool):=if (a0_0 != a1_0) = true then (some false) else ((laws_eqIntS.f k l0_1 l1_1).bind fun t862=>(if t862 = true then (some true) else (some false)))
theorem laws_eqKnot.mono : ∀ a0 a1 a2 a3 k,LeO (laws_eqKnot.f k a0 a1 a2 a3) (laws_eqKnot.f (k + 1) a0 a1 a2 a3):=by
 intro a0 a1 a2 a3 k;unfold laws_eqKnot.f
 repeat' first
   | (with_reducible exact laws_eqIntS.mono _ _ _)
   | (with_reducible exact LeO.refl _)
   | (with_reducible exact LeO.none _)
   | (with_reducible refine LeO.ite ?_ ?_)
   | (with_reducible refine LeO.bind ?_ (fun _=>?_))
   | exact laws_eqIntS.mono _ _ _
   | exact LeO.none _
   | refine LeO.ite ?_ ?_
   | refine LeO.bind ?_ (fun _=>?_)
set_option maxHeartbeats 8000000 in
set_option maxRecDepth 100000 in
theorem laws_eqKnot.calls (k : Nat) (a0_0 : Bool) (A0_1 : Option Addr) (c0_1 : Nat) (l0_1 : List Int) (a1_0 : Bool) (A1_1 : Option Addr) (c1_1 : Nat) (l1_1 : List Int) (r : Bool) (w : World) (hr0_1 : Kd.C (Kd.int .i64) w A0_1 l0_1.length l0_1) (hc0_1 : l0_1.length ≤ c0_1) (hr1_1 : Kd.C (Kd.int .i64) w A1_1 l1_1.length l1_1) (hc1_1 : l1_1.length ≤ c1_1) (h : laws_eqKnot.f k a0_0 l0_1 a1_0 l1_1 = some r) :
  Calls Try.prog 145 #[.agg #[.bool a0_0,.slice A0_1 l0_1.length c0_1],.agg #[.bool a1_0,.slice A1_1 l1_1.length c1_1]] w fun e w'=>e = .returned (.bool r) ∧ Below w.heap.size w w':=by
 have hu133:=Try.underlying133;have HR0_1:=Aside0.mk hr0_1;have HC0_1:=Aside0.mk hc0_1;clear hr0_1 hc0_1;have HR1_1:=Aside0.mk hr1_1;have HC1_1:=Aside0.mk hc1_1;clear hr1_1 hc1_1;have HB:=Aside0.mk (Below.refl w.heap.size w);have H : (if (a0_0 != a1_0) = true then (some false) else ((laws_eqIntS.f k l0_1 l1_1).bind fun t862=>(if t862 = true then (some true) else (some false)))) = some r:=h;clear h
 by_cases c3 : (a0_0 != a1_0) = true
 ·rw [if_pos c3] at H;have c3b0 : (a0_0 != a1_0) = true:=c3
  (try (have c3b1 : decide (a0_0 = a1_0) = false:=by simpa using c3))
  (try (have c3b2 : (a0_0 == a1_0) = false:=by simpa using c3))
  (try (have c3b3 : ¬ (a0_0 = a1_0):=by simpa using c3))
  clear c3;obtain rfl:=Option.some.inj H
  go_enter Try.func145,Try.ntmps145
  go_wp2_with (first | ((with_reducible refine gate_dst (N:=2) rfl ?_);refine box_event ?hg (N:=2) ?hd (cs:=#[.bool a0_0,.slice A0_1 l0_1.length c0_1]) (t:=133) ?hr ?_;(case hd=>rfl);(case hg=>rfl);(case hr=>first | (go_simp;done) | (go_simp;rfl));intro gb860 hg w4 hbox hb;have n0_:=Aside0.mk (below_step (hs HB) hb);have n1_:=Aside0.mk (hbox);have n2_:=Aside0.mk ((by rw [hg];exact (below_size (hs HB)) : w.heap.size ≤ gb860));have n3_:=Aside0.mk ((by rw [hg];exact (below_size (hs HB)) : w.heap.size ≤ gb860));clear HB;have HB:=n0_;have BK860:=n1_;have GW860:=n2_;have GE860:=n3_;clear n0_ n1_ n2_ n3_;clear hb hbox hg) | ((with_reducible refine gate_dst (N:=3) rfl ?_);refine box_event ?hg (N:=3) ?hd (cs:=#[.bool a1_0,.slice A1_1 l1_1.length c1_1]) (t:=133) ?hr ?_;(case hd=>rfl);(case hg=>rfl);(case hr=>first | (go_simp;done) | (go_simp;rfl));intro gb861 hg w5 hbox hb;have n0_:=Aside0.mk (blk_below (g:=gb860) (o:=.cells #[.bool a0_0,.slice A0_1 l0_1.length c0_1] 133 (0,0)) (bs BK860) hb);have n1_:=Aside0.mk (below_step (hs1 HB GE860) hb);have n2_:=Aside0.mk (hbox);have n3_:=Aside0.mk ((by rw [hg];exact (below_size (hs1 HB GE860)) : w.heap.size ≤ gb861));have n4_:=Aside0.mk ((by rw [hg];exact (below_size (hs1 HB GE860)) : w.heap.size ≤ gb861));have n5_:=Aside0.mk ((by rw [hg];exact Nat.ne_of_lt (blk_lt (g:=gb860) (o:=.cells #[.bool a0_0,.slice A0_1 l0_1.length c0_1] 133 (0,0)) (bs BK860)) : gb860 ≠ gb861));have n6_:=Aside0.mk ((by rw [hg];exact Nat.ne_of_gt (blk_lt (g:=gb860) (o:=.cells #[.bool a0_0,.slice A0_1 l0_1.length c0_1] 133 (0,0)) (bs BK860)) : gb861 ≠ gb860));clear BK860;clear HB;have BK860:=n0_;have HB:=n1_;have BK861:=n2_;have GW861:=n3_;have GE861:=n4_;have NB860_861:=n5_;have NB861_860:=n6_;clear n0_ n1_ n2_ n3_ n4_ n5_ n6_;clear hb hbox hg;have hnb6:=NB860_861.out;have hnc6:=NB861_860.out;have hcz7_0 : w5.cell? ⟨gb860,0,none⟩ = some (.bool a0_0):=(blk_cell BK860.out 0).trans rfl;have hcz7_1 : w5.cell? ⟨gb860,1,none⟩ = some (.slice A0_1 l0_1.length c0_1):=(blk_cell BK860.out 1).trans rfl;have hfz7_0:=blk_frozen BK860.out 0;have hfz7_1:=blk_frozen BK860.out 1;have hcz8_0 : w5.cell? ⟨gb861,0,none⟩ = some (.bool a1_0):=(blk_cell BK861.out 0).trans rfl;have hcz8_1 : w5.cell? ⟨gb861,1,none⟩ = some (.slice A1_1 l1_1.length c1_1):=(blk_cell BK861.out 1).trans rfl;have hfz8_0:=blk_frozen BK861.out 0;have hfz8_1:=blk_frozen BK861.out 1))
  go_ret
  exact ⟨by first | rfl | (simp [errW_none,errW_some] <;> rfl) | (simp [*,errW_none,errW_some] <;> rfl),hs2 HB GE860 GE861⟩
 rw [if_neg c3] at H;have c3b0 : (a0_0 != a1_0) = false:=by simpa using c3
 (try (have c3b1 : decide (a0_0 = a1_0) = true:=by simpa using c3))
 (try (have c3b2 : (a0_0 == a1_0) = true:=by simpa using c3))
 clear c3;replace H:=Option.bind_eq_some_iff.mp H;obtain ⟨t862,A90,H⟩:=H;replace H : (if t862 = true then (some true) else (some false)) = some r:=H;have A9:=Aside0.mk A90;clear A90
 by_cases c10 : t862 = true
 ·subst c10;have H1 : (some true) = some r:=by rw [if_pos rfl] at H;exact H
  clear H;have H:=H1;clear H1;obtain rfl:=Option.some.inj H
  go_enter Try.func145,Try.ntmps145
  go_wp2_with (first | ((with_reducible refine gate_dst (N:=2) rfl ?_);refine box_event ?hg (N:=2) ?hd (cs:=#[.bool a0_0,.slice A0_1 l0_1.length c0_1]) (t:=133) ?hr ?_;(case hd=>rfl);(case hg=>rfl);(case hr=>first | (go_simp;done) | (go_simp;rfl));intro gb860 hg w11 hbox hb;have n0_:=Aside0.mk (below_step (hs HB) hb);have n1_:=Aside0.mk (hbox);have n2_:=Aside0.mk ((by rw [hg];exact (below_size (hs HB)) : w.heap.size ≤ gb860));have n3_:=Aside0.mk ((by rw [hg];exact (below_size (hs HB)) : w.heap.size ≤ gb860));clear HB;have HB:=n0_;have BK860:=n1_;have GW860:=n2_;have GE860:=n3_;clear n0_ n1_ n2_ n3_;clear hb hbox hg) | ((with_reducible refine gate_dst (N:=3) rfl ?_);refine box_event ?hg (N:=3) ?hd (cs:=#[.bool a1_0,.slice A1_1 l1_1.length c1_1]) (t:=133) ?hr ?_;(case hd=>rfl);(case hg=>rfl);(case hr=>first | (go_simp;done) | (go_simp;rfl));intro gb861 hg w12 hbox hb;have n0_:=Aside0.mk (blk_below (g:=gb860) (o:=.cells #[.bool a0_0,.slice A0_1 l0_1.length c0_1] 133 (0,0)) (bs BK860) hb);have n1_:=Aside0.mk (below_step (hs1 HB GE860) hb);have n2_:=Aside0.mk (hbox);have n3_:=Aside0.mk ((by rw [hg];exact (below_size (hs1 HB GE860)) : w.heap.size ≤ gb861));have n4_:=Aside0.mk ((by rw [hg];exact (below_size (hs1 HB GE860)) : w.heap.size ≤ gb861));have n5_:=Aside0.mk ((by rw [hg];exact Nat.ne_of_lt (blk_lt (g:=gb860) (o:=.cells #[.bool a0_0,.slice A0_1 l0_1.length c0_1] 133 (0,0)) (bs BK860)) : gb860 ≠ gb861));have n6_:=Aside0.mk ((by rw [hg];exact Nat.ne_of_gt (blk_lt (g:=gb860) (o:=.cells #[.bool a0_0,.slice A0_1 l0_1.length c0_1] 133 (0,0)) (bs BK860)) : gb861 ≠ gb860));clear BK860;clear HB;have BK860:=n0_;have HB:=n1_;have BK861:=n2_;have GW861:=n3_;have GE861:=n4_;have NB860_861:=n5_;have NB861_860:=n6_;clear n0_ n1_ n2_ n3_ n4_ n5_ n6_;clear hb hbox hg;have hnb13:=NB860_861.out;have hnc13:=NB861_860.out;have hcz14_0 : w12.cell? ⟨gb860,0,none⟩ = some (.bool a0_0):=(blk_cell BK860.out 0).trans rfl;have hcz14_1 : w12.cell? ⟨gb860,1,none⟩ = some (.slice A0_1 l0_1.length c0_1):=(blk_cell BK860.out 1).trans rfl;have hfz14_0:=blk_frozen BK860.out 0;have hfz14_1:=blk_frozen BK860.out 1;have hcz15_0 : w12.cell? ⟨gb861,0,none⟩ = some (.bool a1_0):=(blk_cell BK861.out 0).trans rfl;have hcz15_1 : w12.cell? ⟨gb861,1,none⟩ = some (.slice A1_1 l1_1.length c1_1):=(blk_cell BK861.out 1).trans rfl;have hfz15_0:=blk_frozen BK861.out 0;have hfz15_1:=blk_frozen BK861.out 1) | ((with_reducible refine gate_callee (f:=74) rfl ?_);refine goesL_ (some 14) rfl rfl Try.func74 (by kernel_rfl) rfl #[.slice A0_1 l0_1.length c0_1,.slice A1_1 l1_1.length c1_1] rfl (by (try simp only [List.map_toArray,List.map_cons,List.map_nil]);first | done | rfl | (simp only [List.length_drop,List.length_take];rfl)) ?_;(with_reducible refine (laws_eqIntS.calls k _ _ l0_1 _ _ l1_1 true _ ?side1 ?side2 ?side3 ?side4 A9.out).mono ?_);(case side1=>repeat (first | exact (Kd.C_below HR0_1.out HB.out) | (with_reducible refine Kd.C_alloc ?_ _) | (with_reducible refine Kd.C_drewN ?_ _) | (with_reducible refine Kd.C_drew ?_)));(case side2=>exact HC0_1.out);(case side3=>repeat (first | exact (Kd.C_below HR1_1.out HB.out) | (with_reducible refine Kd.C_alloc ?_ _) | (with_reducible refine Kd.C_drewN ?_ _) | (with_reducible refine Kd.C_drew ?_)));(case side4=>exact HC1_1.out);rintro e w' ⟨rfl,⟨nd,rfl⟩⟩;refine ⟨_,rfl,?_⟩))
  go_ret
  exact ⟨by first | rfl | (simp [errW_none,errW_some] <;> rfl) | (simp [*,errW_none,errW_some] <;> rfl),hs2 HB GE860 GE861⟩
 replace c10:=Bool.eq_false_iff.mpr c10;subst c10;have H1 : (some false) = some r:=by rw [if_neg (show ¬ (false = true) by decide)] at H;exact H
 clear H;have H:=H1;clear H1;obtain rfl:=Option.some.inj H
 go_enter Try.func145,Try.ntmps145
 go_wp2_with (first | ((with_reducible refine gate_dst (N:=2) rfl ?_);refine box_event ?hg (N:=2) ?hd (cs:=#[.bool a0_0,.slice A0_1 l0_1.length c0_1]) (t:=133) ?hr ?_;(case hd=>rfl);(case hg=>rfl);(case hr=>first | (go_simp;done) | (go_simp;rfl));intro gb860 hg w16 hbox hb;have n0_:=Aside0.mk (below_step (hs HB) hb);have n1_:=Aside0.mk (hbox);have n2_:=Aside0.mk ((by rw [hg];exact (below_size (hs HB)) : w.heap.size ≤ gb860));have n3_:=Aside0.mk ((by rw [hg];exact (below_size (hs HB)) : w.heap.size ≤ gb860));clear HB;have HB:=n0_;have BK860:=n1_;have GW860:=n2_;have GE860:=n3_;clear n0_ n1_ n2_ n3_;clear hb hbox hg) | ((with_reducible refine gate_dst (N:=3) rfl ?_);refine box_event ?hg (N:=3) ?hd (cs:=#[.bool a1_0,.slice A1_1 l1_1.length c1_1]) (t:=133) ?hr ?_;(case hd=>rfl);(case hg=>rfl);(case hr=>first | (go_simp;done) | (go_simp;rfl));intro gb861 hg w17 hbox hb;have n0_:=Aside0.mk (blk_below (g:=gb860) (o:=.cells #[.bool a0_0,.slice A0_1 l0_1.length c0_1] 133 (0,0)) (bs BK860) hb);have n1_:=Aside0.mk (below_step (hs1 HB GE860) hb);have n2_:=Aside0.mk (hbox);have n3_:=Aside0.mk ((by rw [hg];exact (below_size (hs1 HB GE860)) : w.heap.size ≤ gb861));have n4_:=Aside0.mk ((by rw [hg];exact (below_size (hs1 HB GE860)) : w.heap.size ≤ gb861));have n5_:=Aside0.mk ((by rw [hg];exact Nat.ne_of_lt (blk_lt (g:=gb860) (o:=.cells #[.bool a0_0,.slice A0_1 l0_1.length c0_1] 133 (0,0)) (bs BK860)) : gb860 ≠ gb861));have n6_:=Aside0.mk ((by rw [hg];exact Nat.ne_of_gt (blk_lt (g:=gb860) (o:=.cells #[.bool a0_0,.slice A0_1 l0_1.length c0_1] 133 (0,0)) (bs BK860)) : gb861 ≠ gb860));clear BK860;clear HB;have BK860:=n0_;have HB:=n1_;have BK861:=n2_;have GW861:=n3_;have GE861:=n4_;have NB860_861:=n5_;have NB861_860:=n6_;clear n0_ n1_ n2_ n3_ n4_ n5_ n6_;clear hb hbox hg;have hnb18:=NB860_861.out;have hnc18:=NB861_860.out;have hcz19_0 : w17.cell? ⟨gb860,0,none⟩ = some (.bool a0_0):=(blk_cell BK860.out 0).trans rfl;have hcz19_1 : w17.cell? ⟨gb860,1,none⟩ = some (.slice A0_1 l0_1.length c0_1):=(blk_cell BK860.out 1).trans rfl;have hfz19_0:=blk_frozen BK860.out 0;have hfz19_1:=blk_frozen BK860.out 1;have hcz20_0 : w17.cell? ⟨gb861,0,none⟩ = some (.bool a1_0):=(blk_cell BK861.out 0).trans rfl;have hcz20_1 : w17.cell? ⟨gb861,1,none⟩ = some (.slice A1_1 l1_1.length c1_1):=(blk_cell BK861.out 1).trans rfl;have hfz20_0:=blk_frozen BK861.out 0;have hfz20_1:=blk_frozen BK861.out 1) | ((with_reducible refine gate_callee (f:=74) rfl ?_);refine goesL_ (some 14) rfl rfl Try.func74 (by kernel_rfl) rfl #[.slice A0_1 l0_1.length c0_1,.slice A1_1 l1_1.length c1_1] rfl (by (try simp only [List.map_toArray,List.map_cons,List.map_nil]);first | done | rfl | (simp only [List.length_drop,List.length_take];rfl)) ?_;(with_reducible refine (laws_eqIntS.calls k _ _ l0_1 _ _ l1_1 false _ ?side1 ?side2 ?side3 ?side4 A9.out).mono ?_);(case side1=>repeat (first | exact (Kd.C_below HR0_1.out HB.out) | (with_reducible refine Kd.C_alloc ?_ _) | (with_reducible refine Kd.C_drewN ?_ _) | (with_reducible refine Kd.C_drew ?_)));(case side2=>exact HC0_1.out);(case side3=>repeat (first | exact (Kd.C_below HR1_1.out HB.out) | (with_reducible refine Kd.C_alloc ?_ _) | (with_reducible refine Kd.C_drewN ?_ _) | (with_reducible refine Kd.C_drew ?_)));(case side4=>exact HC1_1.out);rintro e w' ⟨rfl,⟨nd,rfl⟩⟩;refine ⟨_,rfl,?_⟩))
 go_ret
 exact ⟨by first | rfl | (simp [errW_none,errW_some] <;> rfl) | (simp [*,errW_none,errW_some] <;> rfl),hs2 HB GE860 GE861⟩
end Go.Proofs.Ytdolplcbokioaaa.PB

namespace Go.Proofs.Ytdolplcbokioaaa.PB
open Go.RowKit Go.Proofs.YtdolplcbokioaaaW.PrintWords Go.Proofs.YtdolplcbokioaaaW.PrintLast Go.Proofs.YtdolplcbokioaaaW.PrintMore
attribute [local go_sem] max2_int min2_int max_two min_two max_three min_three max_four min_four   -- for this text's walks alone
set_option linter.unusedVariables false
set_option linter.unusedSimpArgs false
def laws_eqKnotS.l0 : Nat → List (S133) → List (S133) → Int → Option (Bool)
 | 0,_,_,_=>none
 | k + 1,x0,x1,x5=>if x5 < (x0.length : Int) then (if 0 ≤ x5 then (if x5 < (x1.length : Int) then ((laws_eqKnot.f k ((rd_T133 x0 x5).f0) ((rd_T133 x0 x5).f1) ((rd_T133 x1 x5).f0) ((rd_T133 x1 x5).f1)).bind fun t865=>(if t865 = true then (laws_eqKnotS.l0 k x0 x1 (wrap64 (x5 + 1))) else (some false))) else (none)) else (none)) else (some true)
def laws_eqKnotS.f (k : Nat) (l0 : List (S133)) (l1 : List (S133)) : Option (Bool):=if (l0.length : Int) = (l1.length : Int) then (laws_eqKnotS.l0 k l0 l1 0) else (some false)
theorem laws_eqKnotS.mono_l : ∀ k,(∀ y0 y1 y2,LeO (laws_eqKnotS.l0 k y0 y1 y2) (laws_eqKnotS.l0 (k + 1) y0 y1 y2))
 | 0=>fun _ _ _ r h=>by simp [laws_eqKnotS.l0] at h
 | k + 1=>by
  have ih0:=laws_eqKnotS.mono_l k;intro y0 y1 y2;unfold laws_eqKnotS.l0
  repeat' first
  | (with_reducible exact ih0 _ _ _)
  | (with_reducible exact laws_eqKnot.mono _ _ _ _ _)
  | (with_reducible exact LeO.refl _)
  | (with_reducible exact LeO.none _)
  | (with_reducible refine LeO.ite ?_ ?_)
  | (with_reducible refine LeO.bind ?_ (fun _=>?_))
  | exact ih0 _ _ _
  | exact laws_eqKnot.mono _ _ _ _ _
  | exact LeO.none _
  | refine LeO.ite ?_ ?_
  | refine LeO.bind ?_ (fun _=>?_)
theorem laws_eqKnotS.mono : ∀ a0 a1 k,LeO (laws_eqKnotS.f k a0 a1) (laws_eqKnotS.f (k + 1) a0 a1):=by
 intro a0 a1 k;have ih0:=laws_eqKnotS.mono_l k;unfold laws_eqKnotS.f
 repeat' first
   | (with_reducible exact ih0 _ _ _)
   | (with_reducible exact laws_eqKnot.mono _ _ _ _ _)
   | (with_reducible exact LeO.refl _)
   | (with_reducible exact LeO.none _)
   | (with_reducible refine LeO.ite ?_ ?_)
   | (with_reducible refine LeO.bind ?_ (fun _=>?_))
   | exact ih0 _ _ _
   | exact laws_eqKnot.mono _ _ _ _ _
   | exact LeO.none _
   | refine LeO.ite ?_ ?_
   | refine LeO.bind ?_ (fun _=>?_)
def laws_eqKnotS.T6 : Bool × List (List Nat × List Nat):=(true,[([],[]),([],[]),([0,1],[0,1]),([2],[2]),([],[]),([],[]),([4,5],[4,5]),([6],[6]),([3,7],[3,7]),([8],[8])])
def laws_eqKnotS.B6 : List Nat:=[0,0,3,7,0,0,48,112,255,511]
theorem laws_eqKnotS.tab6 : rtab .any (opsOf Try.f102 6) = laws_eqKnotS.T6:=by kernel_rfl
theorem laws_eqKnotS.bits6 : waitsOk laws_eqKnotS.T6.2 laws_eqKnotS.B6 = true:=by kernel_rfl
set_option maxHeartbeats 8000000 in
set_option maxRecDepth 100000 in
theorem laws_eqKnotS.calls (k : Nat) (A0 : Option Addr) (c0 : Nat) (l0 : List (S133)) (A1 : Option Addr) (c1 : Nat) (l1 : List (S133)) (r : Bool) (w : World) (hr0 : Kd.C k133 w A0 l0.length l0) (hc0 : l0.length ≤ c0) (hr1 : Kd.C k133 w A1 l1.length l1) (hc1 : l1.length ≤ c1) (h : laws_eqKnotS.f k l0 l1 = some r) :
  Calls Try.prog 102 #[.slice A0 l0.length c0,.slice A1 l1.length c1] w fun e w'=>e = .returned (.bool r) ∧ Below w.heap.size w w':=by
 have hu133:=Try.underlying133;have HR0:=Aside0.mk hr0;have HC0:=Aside0.mk hc0;clear hr0 hc0;have HR1:=Aside0.mk hr1;have HC1:=Aside0.mk hc1;clear hr1 hc1;have HB:=Aside0.mk (Below.refl w.heap.size w);have H : (if (l0.length : Int) = (l1.length : Int) then (laws_eqKnotS.l0 k l0 l1 0) else (some false)) = some r:=h;clear h
 by_cases c3 : (l0.length : Int) = (l1.length : Int)
 ·rw [if_pos c3] at H;have c3b0 : ((l0.length : Int) == (l1.length : Int)) = true:=beq_iff_eq.mpr c3;have c3b1 : ((l0.length : Int) != (l1.length : Int)) = false:=bne_eq_false_iff_eq.mpr c3;have c3b2 : (l0.length == l1.length) = true:=by first | simpa using c3 | (simp at c3 ⊢;omega)
  clear c3;have H':=Aside0.mk H;clear H
  go_enter Try.func102,Try.ntmps102
  go_wp2
  go_loopg [5] k (fun kq v5 w'=>∃ (x5_1 : Int),v5 = .int .i64 x5_1 ∧ Aside0 (laws_eqKnotS.l0 kq l0 l1 x5_1 = some r) ∧ Aside0 (kq ≤ k) ∧ Aside0 (Below w.heap.size w w'));case atStart=>exact ⟨(0),(by first | rfl | (simp;done) | (simp [*];done)),H',⟨Nat.le_refl _⟩,⟨hs HB⟩⟩
  case round =>
   clear H'
   try clear c1
   try clear p2
   try clear c3
   try clear c3b0
   try clear c3b1
   try clear c3b2
   obtain ⟨x5_1,rfl,HA,HK1,HB⟩:=hrel;cases gk with
   | zero=>exact absurd HA.out (by simp [laws_eqKnotS.l0])
   | succ k1 =>
    have H:=HA.out;clear HA;simp only [laws_eqKnotS.l0] at H
    by_cases c4 : x5_1 < (l0.length : Int)
    ·rw [if_pos c4] at H;have c4b0 : decide (x5_1 < (l0.length : Int)) = true:=decide_eq_true c4;clear c4
     by_cases c5 : 0 ≤ x5_1
     ·rw [if_pos c5] at H;have c5b0 : decide (0 ≤ x5_1) = true:=decide_eq_true c5;clear c5
      by_cases c6 : x5_1 < (l1.length : Int)
      ·rw [if_pos c6] at H;have c6b0 : decide (x5_1 < (l1.length : Int)) = true:=decide_eq_true c6;clear c6;replace H:=Option.bind_eq_some_iff.mp H;obtain ⟨t865,A70,H⟩:=H;replace H : (if t865 = true then (laws_eqKnotS.l0 k1 l0 l1 (wrap64 (x5_1 + 1))) else (some false)) = some r:=H;have A7:=Aside0.mk A70;clear A70
       by_cases c8 : t865 = true
       ·subst c8;have H1 : (laws_eqKnotS.l0 k1 l0 l1 (wrap64 (x5_1 + 1))) = some r:=by rw [if_pos rfl] at H;exact H
        clear H;have H:=H1;clear H1;have H':=Aside0.mk H;clear H
        try go_wp2
        have n0_:=Aside0.mk (below_drew1 HB.out);clear HB;have HB:=n0_;clear n0_;have p863 : 0 ≤ (x5_1 : Int):=of_decide_eq_true (by first | (with_reducible assumption) | assumption);have q863 : x5_1 < (l0.length : Int):=of_decide_eq_true (by first | (with_reducible assumption) | assumption);obtain ⟨ad863,A863_1,c863_1,e863,hx863_0,hx863_1,hl863_1,hi863_1⟩:=at_T133 HR0.out x5_1 p863 q863;have hw863_1:=hx863_1;have hw863_0:=hx863_0;cases e863;replace hx863_0:=(HB.out.cell (World.block_lt_of_cell? w _ hx863_0)).trans hx863_0;replace hx863_1:=(HB.out.cell (World.block_lt_of_cell? w _ hx863_1)).trans hx863_1;have HR863_1:=Aside0.mk hi863_1;have HC863_1:=Aside0.mk hl863_1;clear hi863_1 hl863_1;replace p863:=eq_true p863;replace q863:=eq_true q863;have p864 : 0 ≤ (x5_1 : Int):=of_decide_eq_true (by first | (with_reducible assumption) | assumption);have q864 : x5_1 < (l1.length : Int):=of_decide_eq_true (by first | (with_reducible assumption) | assumption);obtain ⟨ad864,A864_1,c864_1,e864,hx864_0,hx864_1,hl864_1,hi864_1⟩:=at_T133 HR1.out x5_1 p864 q864;have hw864_1:=hx864_1;have hw864_0:=hx864_0;cases e864;replace hx864_0:=(HB.out.cell (World.block_lt_of_cell? w _ hx864_0)).trans hx864_0;replace hx864_1:=(HB.out.cell (World.block_lt_of_cell? w _ hx864_1)).trans hx864_1;have HR864_1:=Aside0.mk hi864_1;have HC864_1:=Aside0.mk hl864_1;clear hi864_1 hl864_1;replace p864:=eq_true p864;replace q864:=eq_true q864;refine start_ (n:=10) (S:=fun w'=>w'.cell? (ad863.add ((x5_1).toNat * 2)) = some (.bool ((rd_T133 l0 x5_1).f0)) ∧ w'.cell? ⟨(ad863.add ((x5_1).toNat * 2)).block,(ad863.add ((x5_1).toNat * 2)).off + 1,none⟩ = some (.slice A863_1 ((rd_T133 l0 x5_1).f1).length c863_1) ∧ w'.cell? (ad864.add ((x5_1).toNat * 2)) = some (.bool ((rd_T133 l1 x5_1).f0)) ∧ w'.cell? ⟨(ad864.add ((x5_1).toNat * 2)).block,(ad864.add ((x5_1).toNat * 2)).off + 1,none⟩ = some (.slice A864_1 ((rd_T133 l1 x5_1).f1).length c864_1)) (ds:=[]) #[false,false,false,false,false,false,false,false,false,false] (by kernel_rfl) rfl rfl ⟨((HB.out.cell (World.block_lt_of_cell? w _ hw863_0)).trans hw863_0),((HB.out.cell (World.block_lt_of_cell? w _ hw863_1)).trans hw863_1),((HB.out.cell (World.block_lt_of_cell? w _ hw864_0)).trans hw864_0),((HB.out.cell (World.block_lt_of_cell? w _ hw864_1)).trans hw864_1)⟩ (fun hHeld=>?_);refine with_tabW laws_eqKnotS.tab6 laws_eqKnotS.bits6 (fun HT_ HW_=>?_);generalize wr.drew = w9 at HB HR863_1 HR864_1 hx863_0 hx863_1 hx864_0 hx864_1 hHeld ⊢;refine pure_ (i:=0) (N:=some 17) (v:=?_) (a':=?_) #[true,false,false,false,false,false,false,false,false,false] rfl rfl (any_of HT_.out (by kernel_rfl)) (fun _ _ _ h=>h) (Or.inl ⟨by rfl,?_⟩) ?_ ?_;rotate_left
        ·intro w';go_simp;with_reducible rfl
        rotate_left
        ·simp only [Act.put,List.setIfInBounds_toArray,List.set_cons_zero,List.set_cons_succ,i64_w,i32_w];rfl
        refine pure_ (i:=1) (N:=some 18) (v:=?_) (a':=?_) #[true,true,false,false,false,false,false,false,false,false] rfl rfl (any_of HT_.out (by kernel_rfl)) (fun _ _ _ h=>h) (Or.inl ⟨by rfl,?_⟩) ?_ ?_;rotate_left
        ·intro w';go_simp;with_reducible rfl
        rotate_left
        ·simp only [Act.put,List.setIfInBounds_toArray,List.set_cons_zero,List.set_cons_succ,i64_w,i32_w];rfl
        refine pure_ (i:=2) (N:=some 19) (v:=?_) (a':=?_) #[true,true,true,false,false,false,false,false,false,false] rfl rfl (any_of HT_.out (by kernel_rfl)) (fun _ _ _ h=>h) (Or.inl ⟨by rfl,?_⟩) ?_ ?_;rotate_left
        ·intro w';go_simp;with_reducible rfl
        rotate_left
        ·simp only [Act.put,List.setIfInBounds_toArray,List.set_cons_zero,List.set_cons_succ,i64_w,i32_w];rfl
        refine pure_ (i:=4) (N:=some 21) (v:=?_) (a':=?_) #[true,true,true,false,true,false,false,false,false,false] rfl rfl (any_of HT_.out (by kernel_rfl)) (fun _ _ _ h=>h) (Or.inl ⟨by rfl,?_⟩) ?_ ?_;rotate_left
        ·intro w';go_simp;with_reducible rfl
        rotate_left
        ·simp only [Act.put,List.setIfInBounds_toArray,List.set_cons_zero,List.set_cons_succ,i64_w,i32_w];rfl
        refine pure_ (i:=5) (N:=some 22) (v:=?_) (a':=?_) #[true,true,true,false,true,true,false,false,false,false] rfl rfl (any_of HT_.out (by kernel_rfl)) (fun _ _ _ h=>h) (Or.inl ⟨by rfl,?_⟩) ?_ ?_;rotate_left
        ·intro w';go_simp;with_reducible rfl
        rotate_left
        ·simp only [Act.put,List.setIfInBounds_toArray,List.set_cons_zero,List.set_cons_succ,i64_w,i32_w];rfl
        refine pure_ (i:=6) (N:=some 23) (v:=?_) (a':=?_) #[true,true,true,false,true,true,true,false,false,false] rfl rfl (any_of HT_.out (by kernel_rfl)) (fun _ _ _ h=>h) (Or.inl ⟨by rfl,?_⟩) ?_ ?_;rotate_left
        ·intro w';go_simp;with_reducible rfl
        rotate_left
        ·simp only [Act.put,List.setIfInBounds_toArray,List.set_cons_zero,List.set_cons_succ,i64_w,i32_w];rfl
        refine take_ (i:=3) (N:=some 20) (v:=?_) (a':=?_) #[true,true,true,true,true,true,true,false,false,false] rfl rfl (take_ofW HT_.out HW_.out (by kernel_rfl)) (fun _ _ _ h=>h) (Or.inl ⟨by rfl,?_⟩) hHeld ?_ ?_;rotate_left
        ·rintro w' ⟨s0,s1,s2,s3⟩;go_simp;with_reducible rfl
        rotate_left
        ·simp only [Act.put,List.setIfInBounds_toArray,List.set_cons_zero,List.set_cons_succ,i64_w,i32_w];rfl
        refine take_ (i:=7) (N:=some 24) (v:=?_) (a':=?_) #[true,true,true,true,true,true,true,true,false,false] rfl rfl (take_ofW HT_.out HW_.out (by kernel_rfl)) (fun _ _ _ h=>h) (Or.inl ⟨by rfl,?_⟩) hHeld ?_ ?_;rotate_left
        ·rintro w' ⟨s0,s1,s2,s3⟩;go_simp;with_reducible rfl
        rotate_left
        ·simp only [Act.put,List.setIfInBounds_toArray,List.set_cons_zero,List.set_cons_succ,i64_w,i32_w];rfl
        refine one_ (i:=8) (N:=some 25) #[true,true,true,true,true,true,true,true,true,false] rfl rfl (one_of HT_.out (by kernel_rfl)) (by decide) (fun K hK=>?_);refine goes_ Try.func145 (by kernel_rfl) rfl #[.agg #[.bool ((rd_T133 l0 x5_1).f0),.slice A863_1 ((rd_T133 l0 x5_1).f1).length c863_1],.agg #[.bool ((rd_T133 l1 x5_1).f0),.slice A864_1 ((rd_T133 l1 x5_1).f1).length c864_1]] (by rfl) rfl rfl (by (try simp only [List.map_toArray,List.map_cons,List.map_nil]);first | done | rfl | (simp only [List.length_drop,List.length_take];rfl)) ?_;with_reducible refine (laws_eqKnot.calls k1 ((rd_T133 l0 x5_1).f0) _ _ ((rd_T133 l0 x5_1).f1) ((rd_T133 l1 x5_1).f0) _ _ ((rd_T133 l1 x5_1).f1) true _ ?side1 ?side2 ?side3 ?side4 A7.out).mono ?_
        (case side1=>repeat (first | exact (Kd.C_below HR863_1.out HB.out) | (with_reducible refine Kd.C_alloc ?_ _) | (with_reducible refine Kd.C_drewN ?_ _) | (with_reducible refine Kd.C_drew ?_)))
        (case side2=>exact HC863_1.out)
        (case side3=>repeat (first | exact (Kd.C_below HR864_1.out HB.out) | (with_reducible refine Kd.C_alloc ?_ _) | (with_reducible refine Kd.C_drewN ?_ _) | (with_reducible refine Kd.C_drew ?_)))
        (case side4=>exact HC864_1.out)
        rintro e w10 ⟨rfl,hb⟩;refine ⟨_,rfl,?_⟩;have n0_:=Aside0.mk (below_step (hs HB) hb);clear HB;have HB:=n0_;clear n0_
        (try clear hb)
        (try clear hb2)
        (try clear hk)
        (try clear hi)
        refine hK.out _ _ ⟨((HB.out.cell (World.block_lt_of_cell? w _ hw863_0)).trans hw863_0),((HB.out.cell (World.block_lt_of_cell? w _ hw863_1)).trans hw863_1),((HB.out.cell (World.block_lt_of_cell? w _ hw864_0)).trans hw864_0),((HB.out.cell (World.block_lt_of_cell? w _ hw864_1)).trans hw864_1)⟩ (fun hHeld=>?_);clear hK K;refine norm_ (a':=?_) ?_ ?_;rotate_left
        ·show Act.put _ (some 25) _ = _;simp only [Act.put,List.setIfInBounds_toArray,List.set_cons_zero,List.set_cons_succ,i64_w,i32_w];rfl
        refine pure_ (i:=9) (N:=some 26) (v:=?_) (a':=?_) #[true,true,true,true,true,true,true,true,true,true] rfl rfl (any_of HT_.out (by kernel_rfl)) (fun _ _ _ h=>h) (Or.inl ⟨by rfl,?_⟩) ?_ ?_;rotate_left
        ·intro w';go_simp;with_reducible rfl
        rotate_left
        ·simp only [Act.put,List.setIfInBounds_toArray,List.set_cons_zero,List.set_cons_succ,i64_w,i32_w];rfl
        refine done_ (done_of HT_.out (by kernel_rfl)) ?_
        try go_wp2
        go_roundg k1;case measure=>have:=HK1.out;omega
        case rel=>exact ⟨(wrap64 (x5_1 + 1)),(by first | rfl | (simp;done) | (simp [*];done)),H',⟨by have:=HK1.out;omega⟩,⟨hs HB⟩⟩
       replace c8:=Bool.eq_false_iff.mpr c8;subst c8;have H1 : (some false) = some r:=by rw [if_neg (show ¬ (false = true) by decide)] at H;exact H
       clear H;have H:=H1;clear H1;obtain rfl:=Option.some.inj H
       try go_wp2
       have n0_:=Aside0.mk (below_drew1 HB.out);clear HB;have HB:=n0_;clear n0_;have p863 : 0 ≤ (x5_1 : Int):=of_decide_eq_true (by first | (with_reducible assumption) | assumption);have q863 : x5_1 < (l0.length : Int):=of_decide_eq_true (by first | (with_reducible assumption) | assumption);obtain ⟨ad863,A863_1,c863_1,e863,hx863_0,hx863_1,hl863_1,hi863_1⟩:=at_T133 HR0.out x5_1 p863 q863;have hw863_1:=hx863_1;have hw863_0:=hx863_0;cases e863;replace hx863_0:=(HB.out.cell (World.block_lt_of_cell? w _ hx863_0)).trans hx863_0;replace hx863_1:=(HB.out.cell (World.block_lt_of_cell? w _ hx863_1)).trans hx863_1;have HR863_1:=Aside0.mk hi863_1;have HC863_1:=Aside0.mk hl863_1;clear hi863_1 hl863_1;replace p863:=eq_true p863;replace q863:=eq_true q863;have p864 : 0 ≤ (x5_1 : Int):=of_decide_eq_true (by first | (with_reducible assumption) | assumption);have q864 : x5_1 < (l1.length : Int):=of_decide_eq_true (by first | (with_reducible assumption) | assumption);obtain ⟨ad864,A864_1,c864_1,e864,hx864_0,hx864_1,hl864_1,hi864_1⟩:=at_T133 HR1.out x5_1 p864 q864;have hw864_1:=hx864_1;have hw864_0:=hx864_0;cases e864;replace hx864_0:=(HB.out.cell (World.block_lt_of_cell? w _ hx864_0)).trans hx864_0;replace hx864_1:=(HB.out.cell (World.block_lt_of_cell? w _ hx864_1)).trans hx864_1;have HR864_1:=Aside0.mk hi864_1;have HC864_1:=Aside0.mk hl864_1;clear hi864_1 hl864_1;replace p864:=eq_true p864;replace q864:=eq_true q864;refine start_ (n:=10) (S:=fun w'=>w'.cell? (ad863.add ((x5_1).toNat * 2)) = some (.bool ((rd_T133 l0 x5_1).f0)) ∧ w'.cell? ⟨(ad863.add ((x5_1).toNat * 2)).block,(ad863.add ((x5_1).toNat * 2)).off + 1,none⟩ = some (.slice A863_1 ((rd_T133 l0 x5_1).f1).length c863_1) ∧ w'.cell? (ad864.add ((x5_1).toNat * 2)) = some (.bool ((rd_T133 l1 x5_1).f0)) ∧ w'.cell? ⟨(ad864.add ((x5_1).toNat * 2)).block,(ad864.add ((x5_1).toNat * 2)).off + 1,none⟩ = some (.slice A864_1 ((rd_T133 l1 x5_1).f1).length c864_1)) (ds:=[]) #[false,false,false,false,false,false,false,false,false,false] (by kernel_rfl) rfl rfl ⟨((HB.out.cell (World.block_lt_of_cell? w _ hw863_0)).trans hw863_0),((HB.out.cell (World.block_lt_of_cell? w _ hw863_1)).trans hw863_1),((HB.out.cell (World.block_lt_of_cell? w _ hw864_0)).trans hw864_0),((HB.out.cell (World.block_lt_of_cell? w _ hw864_1)).trans hw864_1)⟩ (fun hHeld=>?_);refine with_tabW laws_eqKnotS.tab6 laws_eqKnotS.bits6 (fun HT_ HW_=>?_);generalize wr.drew = w11 at HB HR863_1 HR864_1 hx863_0 hx863_1 hx864_0 hx864_1 hHeld ⊢;refine pure_ (i:=0) (N:=some 17) (v:=?_) (a':=?_) #[true,false,false,false,false,false,false,false,false,false] rfl rfl (any_of HT_.out (by kernel_rfl)) (fun _ _ _ h=>h) (Or.inl ⟨by rfl,?_⟩) ?_ ?_;rotate_left
       ·intro w';go_simp;with_reducible rfl
       rotate_left
       ·simp only [Act.put,List.setIfInBounds_toArray,List.set_cons_zero,List.set_cons_succ,i64_w,i32_w];rfl
       refine pure_ (i:=1) (N:=some 18) (v:=?_) (a':=?_) #[true,true,false,false,false,false,false,false,false,false] rfl rfl (any_of HT_.out (by kernel_rfl)) (fun _ _ _ h=>h) (Or.inl ⟨by rfl,?_⟩) ?_ ?_;rotate_left
       ·intro w';go_simp;with_reducible rfl
       rotate_left
       ·simp only [Act.put,List.setIfInBounds_toArray,List.set_cons_zero,List.set_cons_succ,i64_w,i32_w];rfl
       refine pure_ (i:=2) (N:=some 19) (v:=?_) (a':=?_) #[true,true,true,false,false,false,false,false,false,false] rfl rfl (any_of HT_.out (by kernel_rfl)) (fun _ _ _ h=>h) (Or.inl ⟨by rfl,?_⟩) ?_ ?_;rotate_left
       ·intro w';go_simp;with_reducible rfl
       rotate_left
       ·simp only [Act.put,List.setIfInBounds_toArray,List.set_cons_zero,List.set_cons_succ,i64_w,i32_w];rfl
       refine pure_ (i:=4) (N:=some 21) (v:=?_) (a':=?_) #[true,true,true,false,true,false,false,false,false,false] rfl rfl (any_of HT_.out (by kernel_rfl)) (fun _ _ _ h=>h) (Or.inl ⟨by rfl,?_⟩) ?_ ?_;rotate_left
       ·intro w';go_simp;with_reducible rfl
       rotate_left
       ·simp only [Act.put,List.setIfInBounds_toArray,List.set_cons_zero,List.set_cons_succ,i64_w,i32_w];rfl
       refine pure_ (i:=5) (N:=some 22) (v:=?_) (a':=?_) #[true,true,true,false,true,true,false,false,false,false] rfl rfl (any_of HT_.out (by kernel_rfl)) (fun _ _ _ h=>h) (Or.inl ⟨by rfl,?_⟩) ?_ ?_;rotate_left
       ·intro w';go_simp;with_reducible rfl
       rotate_left
       ·simp only [Act.put,List.setIfInBounds_toArray,List.set_cons_zero,List.set_cons_succ,i64_w,i32_w];rfl
       refine pure_ (i:=6) (N:=some 23) (v:=?_) (a':=?_) #[true,true,true,false,true,true,true,false,false,false] rfl rfl (any_of HT_.out (by kernel_rfl)) (fun _ _ _ h=>h) (Or.inl ⟨by rfl,?_⟩) ?_ ?_;rotate_left
       ·intro w';go_simp;with_reducible rfl
       rotate_left
       ·simp only [Act.put,List.setIfInBounds_toArray,List.set_cons_zero,List.set_cons_succ,i64_w,i32_w];rfl
       refine take_ (i:=3) (N:=some 20) (v:=?_) (a':=?_) #[true,true,true,true,true,true,true,false,false,false] rfl rfl (take_ofW HT_.out HW_.out (by kernel_rfl)) (fun _ _ _ h=>h) (Or.inl ⟨by rfl,?_⟩) hHeld ?_ ?_;rotate_left
       ·rintro w' ⟨s0,s1,s2,s3⟩;go_simp;with_reducible rfl
       rotate_left
       ·simp only [Act.put,List.setIfInBounds_toArray,List.set_cons_zero,List.set_cons_succ,i64_w,i32_w];rfl
       refine take_ (i:=7) (N:=some 24) (v:=?_) (a':=?_) #[true,true,true,true,true,true,true,true,false,false] rfl rfl (take_ofW HT_.out HW_.out (by kernel_rfl)) (fun _ _ _ h=>h) (Or.inl ⟨by rfl,?_⟩) hHeld ?_ ?_;rotate_left
       ·rintro w' ⟨s0,s1,s2,s3⟩;go_simp;with_reducible rfl
       rotate_left
       ·simp only [Act.put,List.setIfInBounds_toArray,List.set_cons_zero,List.set_cons_succ,i64_w,i32_w];rfl
       refine one_ (i:=8) (N:=some 25) #[true,true,true,true,true,true,true,true,true,false] rfl rfl (one_of HT_.out (by kernel_rfl)) (by decide) (fun K hK=>?_);refine goes_ Try.func145 (by kernel_rfl) rfl #[.agg #[.bool ((rd_T133 l0 x5_1).f0),.slice A863_1 ((rd_T133 l0 x5_1).f1).length c863_1],.agg #[.bool ((rd_T133 l1 x5_1).f0),.slice A864_1 ((rd_T133 l1 x5_1).f1).length c864_1]] (by rfl) rfl rfl (by (try simp only [List.map_toArray,List.map_cons,List.map_nil]);first | done | rfl | (simp only [List.length_drop,List.length_take];rfl)) ?_;with_reducible refine (laws_eqKnot.calls k1 ((rd_T133 l0 x5_1).f0) _ _ ((rd_T133 l0 x5_1).f1) ((rd_T133 l1 x5_1).f0) _ _ ((rd_T133 l1 x5_1).f1) false _ ?side1 ?side2 ?side3 ?side4 A7.out).mono ?_
       (case side1=>repeat (first | exact (Kd.C_below HR863_1.out HB.out) | (with_reducible refine Kd.C_alloc ?_ _) | (with_reducible refine Kd.C_drewN ?_ _) | (with_reducible refine Kd.C_drew ?_)))
       (case side2=>exact HC863_1.out)
       (case side3=>repeat (first | exact (Kd.C_below HR864_1.out HB.out) | (with_reducible refine Kd.C_alloc ?_ _) | (with_reducible refine Kd.C_drewN ?_ _) | (with_reducible refine Kd.C_drew ?_)))
       (case side4=>exact HC864_1.out)
       rintro e w12 ⟨rfl,hb⟩;refine ⟨_,rfl,?_⟩;have n0_:=Aside0.mk (below_step (hs HB) hb);clear HB;have HB:=n0_;clear n0_
       (try clear hb)
       (try clear hb2)
       (try clear hk)
       (try clear hi)
       refine hK.out _ _ ⟨((HB.out.cell (World.block_lt_of_cell? w _ hw863_0)).trans hw863_0),((HB.out.cell (World.block_lt_of_cell? w _ hw863_1)).trans hw863_1),((HB.out.cell (World.block_lt_of_cell? w _ hw864_0)).trans hw864_0),((HB.out.cell (World.block_lt_of_cell? w _ hw864_1)).trans hw864_1)⟩ (fun hHeld=>?_);clear hK K;refine norm_ (a':=?_) ?_ ?_;rotate_left
       ·show Act.put _ (some 25) _ = _;simp only [Act.put,List.setIfInBounds_toArray,List.set_cons_zero,List.set_cons_succ,i64_w,i32_w];rfl
       refine pure_ (i:=9) (N:=some 26) (v:=?_) (a':=?_) #[true,true,true,true,true,true,true,true,true,true] rfl rfl (any_of HT_.out (by kernel_rfl)) (fun _ _ _ h=>h) (Or.inl ⟨by rfl,?_⟩) ?_ ?_;rotate_left
       ·intro w';go_simp;with_reducible rfl
       rotate_left
       ·simp only [Act.put,List.setIfInBounds_toArray,List.set_cons_zero,List.set_cons_succ,i64_w,i32_w];rfl
       refine done_ (done_of HT_.out (by kernel_rfl)) ?_
       try go_wp2
       go_ret
       exact ⟨by first | rfl | (simp [errW_none,errW_some] <;> rfl) | (simp [*,errW_none,errW_some] <;> rfl),hs HB⟩
      rw [if_neg c6] at H;exact absurd H (by simp)
     rw [if_neg c5] at H;exact absurd H (by simp)
    rw [if_neg c4] at H;have c4b0 : decide (x5_1 < (l0.length : Int)) = false:=decide_eq_false c4;clear c4;obtain rfl:=Option.some.inj H
    go_wp2
    go_ret
    exact ⟨by first | rfl | (simp [errW_none,errW_some] <;> rfl) | (simp [*,errW_none,errW_some] <;> rfl),hs HB⟩
 rw [if_neg c3] at H;have c3b0 : ((l0.length : Int) == (l1.length : Int)) = false:=beq_eq_false_iff_ne.mpr c3;have c3b1 : ((l0.length : Int) != (l1.length : Int)) = true:=bne_iff_ne.mpr c3;have c3b2 : (l0.length == l1.length) = false:=by first | simpa using c3 | (simp at c3 ⊢;omega)
 obtain rfl:=Option.some.inj H
 go_enter Try.func102,Try.ntmps102
 go_wp2
 go_ret
 exact ⟨by first | rfl | (simp [errW_none,errW_some] <;> rfl) | (simp [*,errW_none,errW_some] <;> rfl),hs HB⟩
end Go.Proofs.Ytdolplcbokioaaa.PB

namespace Go.Proofs.Ytdolplcbokioaaa.PB
open Go.RowKit Go.Proofs.YtdolplcbokioaaaW.PrintWords Go.Proofs.YtdolplcbokioaaaW.PrintLast Go.Proofs.YtdolplcbokioaaaW.PrintMore
attribute [local go_sem] max2_int min2_int max_two min_two max_three min_three max_four min_four   -- for this text's walks alone
set_option linter.unusedVariables false
set_option linter.unusedSimpArgs false
def laws_eqArena.f (k : Nat) (l0_0 : List (S133)) (l1_0 : List (S133)) : Option (Bool):=(laws_eqKnotS.f k l0_0 l1_0).bind fun t868=>(if t868 = true then (some true) else (some false))
theorem laws_eqArena.mono : ∀ a0 a1 k,LeO (laws_eqArena.f k a0 a1) (laws_eqArena.f (k + 1) a0 a1):=by
 intro a0 a1 k;unfold laws_eqArena.f
 repeat' first
   | (with_reducible exact laws_eqKnotS.mono _ _ _)
   | (with_reducible exact LeO.refl _)
   | (with_reducible exact LeO.none _)
   | (with_reducible refine LeO.ite ?_ ?_)
   | (with_reducible refine LeO.bind ?_ (fun _=>?_))
   | exact laws_eqKnotS.mono _ _ _
   | exact LeO.none _
   | refine LeO.ite ?_ ?_
   | refine LeO.bind ?_ (fun _=>?_)
set_option maxHeartbeats 8000000 in
set_option maxRecDepth 100000 in
theorem laws_eqArena.calls (k : Nat) (A0_0 : Option Addr) (c0_0 : Nat) (l0_0 : List (S133)) (A1_0 : Option Addr) (c1_0 : Nat) (l1_0 : List (S133)) (r : Bool) (w : World) (hr0_0 : Kd.C k133 w A0_0 l0_0.length l0_0) (hc0_0 : l0_0.length ≤ c0_0) (hr1_0 : Kd.C k133 w A1_0 l1_0.length l1_0) (hc1_0 : l1_0.length ≤ c1_0) (h : laws_eqArena.f k l0_0 l1_0 = some r) :
  Calls Try.prog 33 #[.agg #[.slice A0_0 l0_0.length c0_0],.agg #[.slice A1_0 l1_0.length c1_0]] w fun e w'=>e = .returned (.bool r) ∧ Below w.heap.size w w':=by
 have hu44:=Try.underlying44;have HR0_0:=Aside0.mk hr0_0;have HC0_0:=Aside0.mk hc0_0;clear hr0_0 hc0_0;have HR1_0:=Aside0.mk hr1_0;have HC1_0:=Aside0.mk hc1_0;clear hr1_0 hc1_0;have HB:=Aside0.mk (Below.refl w.heap.size w);have H : ((laws_eqKnotS.f k l0_0 l1_0).bind fun t868=>(if t868 = true then (some true) else (some false))) = some r:=h;clear h;replace H:=Option.bind_eq_some_iff.mp H;obtain ⟨t868,A30,H⟩:=H;replace H : (if t868 = true then (some true) else (some false)) = some r:=H;have A3:=Aside0.mk A30;clear A30
 by_cases c4 : t868 = true
 ·subst c4;have H1 : (some true) = some r:=by rw [if_pos rfl] at H;exact H
  clear H;have H:=H1;clear H1;obtain rfl:=Option.some.inj H
  go_enter Try.func33,Try.ntmps33
  go_wp2_with (first | ((with_reducible refine gate_dst (N:=2) rfl ?_);refine box_event ?hg (N:=2) ?hd (cs:=#[.slice A0_0 l0_0.length c0_0]) (t:=44) ?hr ?_;(case hd=>rfl);(case hg=>rfl);(case hr=>first | (go_simp;done) | (go_simp;rfl));intro gb866 hg w5 hbox hb;have n0_:=Aside0.mk (below_step (hs HB) hb);have n1_:=Aside0.mk (hbox);have n2_:=Aside0.mk ((by rw [hg];exact (below_size (hs HB)) : w.heap.size ≤ gb866));have n3_:=Aside0.mk ((by rw [hg];exact (below_size (hs HB)) : w.heap.size ≤ gb866));clear HB;have HB:=n0_;have BK866:=n1_;have GW866:=n2_;have GE866:=n3_;clear n0_ n1_ n2_ n3_;clear hb hbox hg) | ((with_reducible refine gate_dst (N:=3) rfl ?_);refine box_event ?hg (N:=3) ?hd (cs:=#[.slice A1_0 l1_0.length c1_0]) (t:=44) ?hr ?_;(case hd=>rfl);(case hg=>rfl);(case hr=>first | (go_simp;done) | (go_simp;rfl));intro gb867 hg w6 hbox hb;have n0_:=Aside0.mk (blk_below (g:=gb866) (o:=.cells #[.slice A0_0 l0_0.length c0_0] 44 (0,0)) (bs BK866) hb);have n1_:=Aside0.mk (below_step (hs1 HB GE866) hb);have n2_:=Aside0.mk (hbox);have n3_:=Aside0.mk ((by rw [hg];exact (below_size (hs1 HB GE866)) : w.heap.size ≤ gb867));have n4_:=Aside0.mk ((by rw [hg];exact (below_size (hs1 HB GE866)) : w.heap.size ≤ gb867));have n5_:=Aside0.mk ((by rw [hg];exact Nat.ne_of_lt (blk_lt (g:=gb866) (o:=.cells #[.slice A0_0 l0_0.length c0_0] 44 (0,0)) (bs BK866)) : gb866 ≠ gb867));have n6_:=Aside0.mk ((by rw [hg];exact Nat.ne_of_gt (blk_lt (g:=gb866) (o:=.cells #[.slice A0_0 l0_0.length c0_0] 44 (0,0)) (bs BK866)) : gb867 ≠ gb866));clear BK866;clear HB;have BK866:=n0_;have HB:=n1_;have BK867:=n2_;have GW867:=n3_;have GE867:=n4_;have NB866_867:=n5_;have NB867_866:=n6_;clear n0_ n1_ n2_ n3_ n4_ n5_ n6_;clear hb hbox hg;have hnb7:=NB866_867.out;have hnc7:=NB867_866.out;have hcz8_0 : w6.cell? ⟨gb866,0,none⟩ = some (.slice A0_0 l0_0.length c0_0):=(blk_cell BK866.out 0).trans rfl;have hfz8_0:=blk_frozen BK866.out 0;have hcz9_0 : w6.cell? ⟨gb867,0,none⟩ = some (.slice A1_0 l1_0.length c1_0):=(blk_cell BK867.out 0).trans rfl;have hfz9_0:=blk_frozen BK867.out 0) | ((with_reducible refine gate_callee (f:=102) rfl ?_);refine goesL_ (some 9) rfl rfl Try.func102 (by kernel_rfl) rfl #[.slice A0_0 l0_0.length c0_0,.slice A1_0 l1_0.length c1_0] rfl (by (try simp only [List.map_toArray,List.map_cons,List.map_nil]);first | done | rfl | (simp only [List.length_drop,List.length_take];rfl)) ?_;(with_reducible refine (laws_eqKnotS.calls k _ _ l0_0 _ _ l1_0 true _ ?side1 ?side2 ?side3 ?side4 A3.out).mono ?_);(case side1=>repeat (first | exact (Kd.C_below HR0_0.out HB.out) | (with_reducible refine Kd.C_alloc ?_ _) | (with_reducible refine Kd.C_drewN ?_ _) | (with_reducible refine Kd.C_drew ?_)));(case side2=>exact HC0_0.out);(case side3=>repeat (first | exact (Kd.C_below HR1_0.out HB.out) | (with_reducible refine Kd.C_alloc ?_ _) | (with_reducible refine Kd.C_drewN ?_ _) | (with_reducible refine Kd.C_drew ?_)));(case side4=>exact HC1_0.out);rintro e w10 ⟨rfl,hb⟩;refine ⟨_,rfl,?_⟩;have n0_:=Aside0.mk (blk_below (g:=gb866) (o:=.cells #[.slice A0_0 l0_0.length c0_0] 44 (0,0)) (bs BK866) hb);have n1_:=Aside0.mk (blk_below (g:=gb867) (o:=.cells #[.slice A1_0 l1_0.length c1_0] 44 (0,0)) (bs BK867) hb);have n2_:=Aside0.mk (below_step (hs2 HB GE866 GE867) hb);clear BK866;clear BK867;clear HB;have BK866:=n0_;have BK867:=n1_;have HB:=n2_;clear n0_ n1_ n2_;(try clear hb);(try clear hb2);(try clear hk);(try clear hi)))
  go_ret
  exact ⟨by first | rfl | (simp [errW_none,errW_some] <;> rfl) | (simp [*,errW_none,errW_some] <;> rfl),hs2 HB GE866 GE867⟩
 replace c4:=Bool.eq_false_iff.mpr c4;subst c4;have H1 : (some false) = some r:=by rw [if_neg (show ¬ (false = true) by decide)] at H;exact H
 clear H;have H:=H1;clear H1;obtain rfl:=Option.some.inj H
 go_enter Try.func33,Try.ntmps33
 go_wp2_with (first | ((with_reducible refine gate_dst (N:=2) rfl ?_);refine box_event ?hg (N:=2) ?hd (cs:=#[.slice A0_0 l0_0.length c0_0]) (t:=44) ?hr ?_;(case hd=>rfl);(case hg=>rfl);(case hr=>first | (go_simp;done) | (go_simp;rfl));intro gb866 hg w11 hbox hb;have n0_:=Aside0.mk (below_step (hs HB) hb);have n1_:=Aside0.mk (hbox);have n2_:=Aside0.mk ((by rw [hg];exact (below_size (hs HB)) : w.heap.size ≤ gb866));have n3_:=Aside0.mk ((by rw [hg];exact (below_size (hs HB)) : w.heap.size ≤ gb866));clear HB;have HB:=n0_;have BK866:=n1_;have GW866:=n2_;have GE866:=n3_;clear n0_ n1_ n2_ n3_;clear hb hbox hg) | ((with_reducible refine gate_dst (N:=3) rfl ?_);refine box_event ?hg (N:=3) ?hd (cs:=#[.slice A1_0 l1_0.length c1_0]) (t:=44) ?hr ?_;(case hd=>rfl);(case hg=>rfl);(case hr=>first | (go_simp;done) | (go_simp;rfl));intro gb867 hg w12 hbox hb;have n0_:=Aside0.mk (blk_below (g:=gb866) (o:=.cells #[.slice A0_0 l0_0.length c0_0] 44 (0,0)) (bs BK866) hb);have n1_:=Aside0.mk (below_step (hs1 HB GE866) hb);have n2_:=Aside0.mk (hbox);have n3_:=Aside0.mk ((by rw [hg];exact (below_size (hs1 HB GE866)) : w.heap.size ≤ gb867));have n4_:=Aside0.mk ((by rw [hg];exact (below_size (hs1 HB GE866)) : w.heap.size ≤ gb867));have n5_:=Aside0.mk ((by rw [hg];exact Nat.ne_of_lt (blk_lt (g:=gb866) (o:=.cells #[.slice A0_0 l0_0.length c0_0] 44 (0,0)) (bs BK866)) : gb866 ≠ gb867));have n6_:=Aside0.mk ((by rw [hg];exact Nat.ne_of_gt (blk_lt (g:=gb866) (o:=.cells #[.slice A0_0 l0_0.length c0_0] 44 (0,0)) (bs BK866)) : gb867 ≠ gb866));clear BK866;clear HB;have BK866:=n0_;have HB:=n1_;have BK867:=n2_;have GW867:=n3_;have GE867:=n4_;have NB866_867:=n5_;have NB867_866:=n6_;clear n0_ n1_ n2_ n3_ n4_ n5_ n6_;clear hb hbox hg;have hnb13:=NB866_867.out;have hnc13:=NB867_866.out;have hcz14_0 : w12.cell? ⟨gb866,0,none⟩ = some (.slice A0_0 l0_0.length c0_0):=(blk_cell BK866.out 0).trans rfl;have hfz14_0:=blk_frozen BK866.out 0;have hcz15_0 : w12.cell? ⟨gb867,0,none⟩ = some (.slice A1_0 l1_0.length c1_0):=(blk_cell BK867.out 0).trans rfl;have hfz15_0:=blk_frozen BK867.out 0) | ((with_reducible refine gate_callee (f:=102) rfl ?_);refine goesL_ (some 9) rfl rfl Try.func102 (by kernel_rfl) rfl #[.slice A0_0 l0_0.length c0_0,.slice A1_0 l1_0.length c1_0] rfl (by (try simp only [List.map_toArray,List.map_cons,List.map_nil]);first | done | rfl | (simp only [List.length_drop,List.length_take];rfl)) ?_;(with_reducible refine (laws_eqKnotS.calls k _ _ l0_0 _ _ l1_0 false _ ?side1 ?side2 ?side3 ?side4 A3.out).mono ?_);(case side1=>repeat (first | exact (Kd.C_below HR0_0.out HB.out) | (with_reducible refine Kd.C_alloc ?_ _) | (with_reducible refine Kd.C_drewN ?_ _) | (with_reducible refine Kd.C_drew ?_)));(case side2=>exact HC0_0.out);(case side3=>repeat (first | exact (Kd.C_below HR1_0.out HB.out) | (with_reducible refine Kd.C_alloc ?_ _) | (with_reducible refine Kd.C_drewN ?_ _) | (with_reducible refine Kd.C_drew ?_)));(case side4=>exact HC1_0.out);rintro e w16 ⟨rfl,hb⟩;refine ⟨_,rfl,?_⟩;have n0_:=Aside0.mk (blk_below (g:=gb866) (o:=.cells #[.slice A0_0 l0_0.length c0_0] 44 (0,0)) (bs BK866) hb);have n1_:=Aside0.mk (blk_below (g:=gb867) (o:=.cells #[.slice A1_0 l1_0.length c1_0] 44 (0,0)) (bs BK867) hb);have n2_:=Aside0.mk (below_step (hs2 HB GE866 GE867) hb);clear BK866;clear BK867;clear HB;have BK866:=n0_;have BK867:=n1_;have HB:=n2_;clear n0_ n1_ n2_;(try clear hb);(try clear hb2);(try clear hk);(try clear hi)))
 go_ret
 exact ⟨by first | rfl | (simp [errW_none,errW_some] <;> rfl) | (simp [*,errW_none,errW_some] <;> rfl),hs2 HB GE866 GE867⟩
end Go.Proofs.Ytdolplcbokioaaa.PB

namespace Go.Proofs.Ytdolplcbokioaaa.PB
open Go.RowKit Go.Proofs.YtdolplcbokioaaaW.PrintWords Go.Proofs.YtdolplcbokioaaaW.PrintLast Go.Proofs.YtdolplcbokioaaaW.PrintMore
attribute [local go_sem] max2_int min2_int max_two min_two max_three min_three max_four min_four   -- for this text's walks alone
set_option linter.unusedVariables false
set_option linter.unusedSimpArgs false
def laws_eqVol.f (a0_0 : Int) (a0_1 : Int) (a1_0 : Int) (a1_1 : Int) : Option (Bool):=if a0_0 = a1_0 then (if a0_1 = a1_1 then (some true) else (some false)) else (some false)
set_option maxHeartbeats 8000000 in
set_option maxRecDepth 100000 in
theorem laws_eqVol.calls (a0_0 : Int) (a0_1 : Int) (a1_0 : Int) (a1_1 : Int) (r : Bool) (w : World) (h : laws_eqVol.f a0_0 a0_1 a1_0 a1_1 = some r) :
  Calls Try.prog 153 #[.agg #[.int .i64 a0_0,.int .i64 a0_1],.agg #[.int .i64 a1_0,.int .i64 a1_1]] w fun e w'=>e = .returned (.bool r) ∧ Below w.heap.size w w':=by
 have hu147:=Try.underlying147;have HB:=Aside0.mk (Below.refl w.heap.size w);have H : (if a0_0 = a1_0 then (if a0_1 = a1_1 then (some true) else (some false)) else (some false)) = some r:=h;clear h
 by_cases c3 : a0_0 = a1_0
 ·rw [if_pos c3] at H;have c3b0 : (a0_0 == a1_0) = true:=beq_iff_eq.mpr c3;have c3b1 : (a0_0 != a1_0) = false:=bne_eq_false_iff_eq.mpr c3;clear c3
  by_cases c4 : a0_1 = a1_1
  ·rw [if_pos c4] at H;have c4b0 : (a0_1 == a1_1) = true:=beq_iff_eq.mpr c4;have c4b1 : (a0_1 != a1_1) = false:=bne_eq_false_iff_eq.mpr c4;clear c4;obtain rfl:=Option.some.inj H
   go_enter Try.func153,Try.ntmps153
   go_wp2_with (first | ((with_reducible refine gate_dst (N:=2) rfl ?_);refine box_event ?hg (N:=2) ?hd (cs:=#[.int .i64 a0_0,.int .i64 a0_1]) (t:=147) ?hr ?_;(case hd=>rfl);(case hg=>rfl);(case hr=>first | (go_simp;done) | (go_simp;rfl));intro gb1102 hg w5 hbox hb;have n0_:=Aside0.mk (below_step (hs HB) hb);have n1_:=Aside0.mk (hbox);have n2_:=Aside0.mk ((by rw [hg];exact (below_size (hs HB)) : w.heap.size ≤ gb1102));have n3_:=Aside0.mk ((by rw [hg];exact (below_size (hs HB)) : w.heap.size ≤ gb1102));clear HB;have HB:=n0_;have BK1102:=n1_;have GW1102:=n2_;have GE1102:=n3_;clear n0_ n1_ n2_ n3_;clear hb hbox hg) | ((with_reducible refine gate_dst (N:=3) rfl ?_);refine box_event ?hg (N:=3) ?hd (cs:=#[.int .i64 a1_0,.int .i64 a1_1]) (t:=147) ?hr ?_;(case hd=>rfl);(case hg=>rfl);(case hr=>first | (go_simp;done) | (go_simp;rfl));intro gb1103 hg w6 hbox hb;have n0_:=Aside0.mk (blk_below (g:=gb1102) (o:=.cells #[.int .i64 a0_0,.int .i64 a0_1] 147 (0,0)) (bs BK1102) hb);have n1_:=Aside0.mk (below_step (hs1 HB GE1102) hb);have n2_:=Aside0.mk (hbox);have n3_:=Aside0.mk ((by rw [hg];exact (below_size (hs1 HB GE1102)) : w.heap.size ≤ gb1103));have n4_:=Aside0.mk ((by rw [hg];exact (below_size (hs1 HB GE1102)) : w.heap.size ≤ gb1103));have n5_:=Aside0.mk ((by rw [hg];exact Nat.ne_of_lt (blk_lt (g:=gb1102) (o:=.cells #[.int .i64 a0_0,.int .i64 a0_1] 147 (0,0)) (bs BK1102)) : gb1102 ≠ gb1103));have n6_:=Aside0.mk ((by rw [hg];exact Nat.ne_of_gt (blk_lt (g:=gb1102) (o:=.cells #[.int .i64 a0_0,.int .i64 a0_1] 147 (0,0)) (bs BK1102)) : gb1103 ≠ gb1102));clear BK1102;clear HB;have BK1102:=n0_;have HB:=n1_;have BK1103:=n2_;have GW1103:=n3_;have GE1103:=n4_;have NB1102_1103:=n5_;have NB1103_1102:=n6_;clear n0_ n1_ n2_ n3_ n4_ n5_ n6_;clear hb hbox hg;have hnb7:=NB1102_1103.out;have hnc7:=NB1103_1102.out;have hcz8_0 : w6.cell? ⟨gb1102,0,none⟩ = some (.int .i64 a0_0):=(blk_cell BK1102.out 0).trans rfl;have hcz8_1 : w6.cell? ⟨gb1102,1,none⟩ = some (.int .i64 a0_1):=(blk_cell BK1102.out 1).trans rfl;have hfz8_0:=blk_frozen BK1102.out 0;have hfz8_1:=blk_frozen BK1102.out 1;have hcz9_0 : w6.cell? ⟨gb1103,0,none⟩ = some (.int .i64 a1_0):=(blk_cell BK1103.out 0).trans rfl;have hcz9_1 : w6.cell? ⟨gb1103,1,none⟩ = some (.int .i64 a1_1):=(blk_cell BK1103.out 1).trans rfl;have hfz9_0:=blk_frozen BK1103.out 0;have hfz9_1:=blk_frozen BK1103.out 1))
   go_ret
   exact ⟨by first | rfl | (simp [errW_none,errW_some] <;> rfl) | (simp [*,errW_none,errW_some] <;> rfl),hs2 HB GE1102 GE1103⟩
  rw [if_neg c4] at H;have c4b0 : (a0_1 == a1_1) = false:=beq_eq_false_iff_ne.mpr c4;have c4b1 : (a0_1 != a1_1) = true:=bne_iff_ne.mpr c4;obtain rfl:=Option.some.inj H
  go_enter Try.func153,Try.ntmps153
  go_wp2_with (first | ((with_reducible refine gate_dst (N:=2) rfl ?_);refine box_event ?hg (N:=2) ?hd (cs:=#[.int .i64 a0_0,.int .i64 a0_1]) (t:=147) ?hr ?_;(case hd=>rfl);(case hg=>rfl);(case hr=>first | (go_simp;done) | (go_simp;rfl));intro gb1102 hg w10 hbox hb;have n0_:=Aside0.mk (below_step (hs HB) hb);have n1_:=Aside0.mk (hbox);have n2_:=Aside0.mk ((by rw [hg];exact (below_size (hs HB)) : w.heap.size ≤ gb1102));have n3_:=Aside0.mk ((by rw [hg];exact (below_size (hs HB)) : w.heap.size ≤ gb1102));clear HB;have HB:=n0_;have BK1102:=n1_;have GW1102:=n2_;have GE1102:=n3_;clear n0_ n1_ n2_ n3_;clear hb hbox hg) | ((with_reducible refine gate_dst (N:=3) rfl ?_);refine box_event ?hg (N:=3) ?hd (cs:=#[.int .i64 a1_0,.int .i64 a1_1]) (t:=147) ?hr ?_;(case hd=>rfl);(case hg=>rfl);(case hr=>first | (go_simp;done) | (go_simp;rfl));intro gb1103 hg w11 hbox hb;have n0_:=Aside0.mk (blk_below (g:=gb1102) (o:=.cells #[.int .i64 a0_0,.int .i64 a0_1] 147 (0,0)) (bs BK1102) hb);have n1_:=Aside0.mk (below_step (hs1 HB GE1102) hb);have n2_:=Aside0.mk (hbox);have n3_:=Aside0.mk ((by rw [hg];exact (below_size (hs1 HB GE1102)) : w.heap.size ≤ gb1103));have n4_:=Aside0.mk ((by rw [hg];exact (below_size (hs1 HB GE1102)) : w.heap.size ≤ gb1103));have n5_:=Aside0.mk ((by rw [hg];exact Nat.ne_of_lt (blk_lt (g:=gb1102) (o:=.cells #[.int .i64 a0_0,.int .i64 a0_1] 147 (0,0)) (bs BK1102)) : gb1102 ≠ gb1103));have n6_:=Aside0.mk ((by rw [hg];exact Nat.ne_of_gt (blk_lt (g:=gb1102) (o:=.cells #[.int .i64 a0_0,.int .i64 a0_1] 147 (0,0)) (bs BK1102)) : gb1103 ≠ gb1102));clear BK1102;clear HB;have BK1102:=n0_;have HB:=n1_;have BK1103:=n2_;have GW1103:=n3_;have GE1103:=n4_;have NB1102_1103:=n5_;have NB1103_1102:=n6_;clear n0_ n1_ n2_ n3_ n4_ n5_ n6_;clear hb hbox hg;have hnb12:=NB1102_1103.out;have hnc12:=NB1103_1102.out;have hcz13_0 : w11.cell? ⟨gb1102,0,none⟩ = some (.int .i64 a0_0):=(blk_cell BK1102.out 0).trans rfl;have hcz13_1 : w11.cell? ⟨gb1102,1,none⟩ = some (.int .i64 a0_1):=(blk_cell BK1102.out 1).trans rfl;have hfz13_0:=blk_frozen BK1102.out 0;have hfz13_1:=blk_frozen BK1102.out 1;have hcz14_0 : w11.cell? ⟨gb1103,0,none⟩ = some (.int .i64 a1_0):=(blk_cell BK1103.out 0).trans rfl;have hcz14_1 : w11.cell? ⟨gb1103,1,none⟩ = some (.int .i64 a1_1):=(blk_cell BK1103.out 1).trans rfl;have hfz14_0:=blk_frozen BK1103.out 0;have hfz14_1:=blk_frozen BK1103.out 1))
  go_ret
  exact ⟨by first | rfl | (simp [errW_none,errW_some] <;> rfl) | (simp [*,errW_none,errW_some] <;> rfl),hs2 HB GE1102 GE1103⟩
 rw [if_neg c3] at H;have c3b0 : (a0_0 == a1_0) = false:=beq_eq_false_iff_ne.mpr c3;have c3b1 : (a0_0 != a1_0) = true:=bne_iff_ne.mpr c3;obtain rfl:=Option.some.inj H
 go_enter Try.func153,Try.ntmps153
 go_wp2_with (first | ((with_reducible refine gate_dst (N:=2) rfl ?_);refine box_event ?hg (N:=2) ?hd (cs:=#[.int .i64 a0_0,.int .i64 a0_1]) (t:=147) ?hr ?_;(case hd=>rfl);(case hg=>rfl);(case hr=>first | (go_simp;done) | (go_simp;rfl));intro gb1102 hg w15 hbox hb;have n0_:=Aside0.mk (below_step (hs HB) hb);have n1_:=Aside0.mk (hbox);have n2_:=Aside0.mk ((by rw [hg];exact (below_size (hs HB)) : w.heap.size ≤ gb1102));have n3_:=Aside0.mk ((by rw [hg];exact (below_size (hs HB)) : w.heap.size ≤ gb1102));clear HB;have HB:=n0_;have BK1102:=n1_;have GW1102:=n2_;have GE1102:=n3_;clear n0_ n1_ n2_ n3_;clear hb hbox hg) | ((with_reducible refine gate_dst (N:=3) rfl ?_);refine box_event ?hg (N:=3) ?hd (cs:=#[.int .i64 a1_0,.int .i64 a1_1]) (t:=147) ?hr ?_;(case hd=>rfl);(case hg=>rfl);(case hr=>first | (go_simp;done) | (go_simp;rfl));intro gb1103 hg w16 hbox hb;have n0_:=Aside0.mk (blk_below (g:=gb1102) (o:=.cells #[.int .i64 a0_0,.int .i64 a0_1] 147 (0,0)) (bs BK1102) hb);have n1_:=Aside0.mk (below_step (hs1 HB GE1102) hb);have n2_:=Aside0.mk (hbox);have n3_:=Aside0.mk ((by rw [hg];exact (below_size (hs1 HB GE1102)) : w.heap.size ≤ gb1103));have n4_:=Aside0.mk ((by rw [hg];exact (below_size (hs1 HB GE1102)) : w.heap.size ≤ gb1103));have n5_:=Aside0.mk ((by rw [hg];exact Nat.ne_of_lt (blk_lt (g:=gb1102) (o:=.cells #[.int .i64 a0_0,.int .i64 a0_1] 147 (0,0)) (bs BK1102)) : gb1102 ≠ gb1103));have n6_:=Aside0.mk ((by rw [hg];exact Nat.ne_of_gt (blk_lt (g:=gb1102) (o:=.cells #[.int .i64 a0_0,.int .i64 a0_1] 147 (0,0)) (bs BK1102)) : gb1103 ≠ gb1102));clear BK1102;clear HB;have BK1102:=n0_;have HB:=n1_;have BK1103:=n2_;have GW1103:=n3_;have GE1103:=n4_;have NB1102_1103:=n5_;have NB1103_1102:=n6_;clear n0_ n1_ n2_ n3_ n4_ n5_ n6_;clear hb hbox hg;have hnb17:=NB1102_1103.out;have hnc17:=NB1103_1102.out;have hcz18_0 : w16.cell? ⟨gb1102,0,none⟩ = some (.int .i64 a0_0):=(blk_cell BK1102.out 0).trans rfl;have hcz18_1 : w16.cell? ⟨gb1102,1,none⟩ = some (.int .i64 a0_1):=(blk_cell BK1102.out 1).trans rfl;have hfz18_0:=blk_frozen BK1102.out 0;have hfz18_1:=blk_frozen BK1102.out 1;have hcz19_0 : w16.cell? ⟨gb1103,0,none⟩ = some (.int .i64 a1_0):=(blk_cell BK1103.out 0).trans rfl;have hcz19_1 : w16.cell? ⟨gb1103,1,none⟩ = some (.int .i64 a1_1):=(blk_cell BK1103.out 1).trans rfl;have hfz19_0:=blk_frozen BK1103.out 0;have hfz19_1:=blk_frozen BK1103.out 1))
 go_ret
 exact ⟨by first | rfl | (simp [errW_none,errW_some] <;> rfl) | (simp [*,errW_none,errW_some] <;> rfl),hs2 HB GE1102 GE1103⟩
end Go.Proofs.Ytdolplcbokioaaa.PB

namespace Go.Proofs.Ytdolplcbokioaaa.PB
open Go.RowKit Go.Proofs.YtdolplcbokioaaaW.PrintWords Go.Proofs.YtdolplcbokioaaaW.PrintLast Go.Proofs.YtdolplcbokioaaaW.PrintMore
attribute [local go_sem] max2_int min2_int max_two min_two max_three min_three max_four min_four   -- for this text's walks alone
set_option linter.unusedVariables false
set_option linter.unusedSimpArgs false
def laws_eqVolS.l0 : Nat → List (S147) → List (S147) → Int → Option (Bool)
 | 0,_,_,_=>none
 | k + 1,x0,x1,x5=>if x5 < (x0.length : Int) then (if 0 ≤ x5 then (if x5 < (x1.length : Int) then ((laws_eqVol.f ((rd_T147 x0 x5).f0) ((rd_T147 x0 x5).f1) ((rd_T147 x1 x5).f0) ((rd_T147 x1 x5).f1)).bind fun t1106=>(if t1106 = true then (laws_eqVolS.l0 k x0 x1 (wrap64 (x5 + 1))) else (some false))) else (none)) else (none)) else (some true)
def laws_eqVolS.f (k : Nat) (l0 : List (S147)) (l1 : List (S147)) : Option (Bool):=if (l0.length : Int) = (l1.length : Int) then (laws_eqVolS.l0 k l0 l1 0) else (some false)
theorem laws_eqVolS.mono_l : ∀ k,(∀ y0 y1 y2,LeO (laws_eqVolS.l0 k y0 y1 y2) (laws_eqVolS.l0 (k + 1) y0 y1 y2))
 | 0=>fun _ _ _ r h=>by simp [laws_eqVolS.l0] at h
 | k + 1=>by
  have ih0:=laws_eqVolS.mono_l k;intro y0 y1 y2;unfold laws_eqVolS.l0
  repeat' first
  | (with_reducible exact ih0 _ _ _)
  | (with_reducible exact LeO.refl _)
  | (with_reducible exact LeO.none _)
  | (with_reducible refine LeO.ite ?_ ?_)
  | (with_reducible refine LeO.bind ?_ (fun _=>?_))
  | exact ih0 _ _ _
  | exact LeO.none _
  | refine LeO.ite ?_ ?_
  | refine LeO.bind ?_ (fun _=>?_)
theorem laws_eqVolS.mono : ∀ a0 a1 k,LeO (laws_eqVolS.f k a0 a1) (laws_eqVolS.f (k + 1) a0 a1):=by
 intro a0 a1 k;have ih0:=laws_eqVolS.mono_l k;unfold laws_eqVolS.f
 repeat' first
   | (with_reducible exact ih0 _ _ _)
   | (with_reducible exact LeO.refl _)
   | (with_reducible exact LeO.none _)
   | (with_reducible refine LeO.ite ?_ ?_)
   | (with_reducible refine LeO.bind ?_ (fun _=>?_))
   | exact ih0 _ _ _
   | exact LeO.none _
   | refine LeO.ite ?_ ?_
   | refine LeO.bind ?_ (fun _=>?_)
def laws_eqVolS.T6 : Bool × List (List Nat × List Nat):=(true,[([],[]),([],[]),([0,1],[0,1]),([2],[2]),([],[]),([],[]),([4,5],[4,5]),([6],[6]),([3,7],[3,7]),([8],[8])])
def laws_eqVolS.B6 : List Nat:=[0,0,3,7,0,0,48,112,255,511]
theorem laws_eqVolS.tab6 : rtab .any (opsOf Try.f116 6) = laws_eqVolS.T6:=by kernel_rfl
theorem laws_eqVolS.bits6 : waitsOk laws_eqVolS.T6.2 laws_eqVolS.B6 = true:=by kernel_rfl
set_option maxHeartbeats 8000000 in
set_option maxRecDepth 100000 in
theorem laws_eqVolS.calls (k : Nat) (A0 : Option Addr) (c0 : Nat) (l0 : List (S147)) (A1 : Option Addr) (c1 : Nat) (l1 : List (S147)) (r : Bool) (w : World) (hr0 : Kd.C k147 w A0 l0.length l0) (hc0 : l0.length ≤ c0) (hr1 : Kd.C k147 w A1 l1.length l1) (hc1 : l1.length ≤ c1) (h : laws_eqVolS.f k l0 l1 = some r) :
  Calls Try.prog 116 #[.slice A0 l0.length c0,.slice A1 l1.length c1] w fun e w'=>e = .returned (.bool r) ∧ Below w.heap.size w w':=by
 have hu147:=Try.underlying147;have HR0:=Aside0.mk hr0;have HC0:=Aside0.mk hc0;clear hr0 hc0;have HR1:=Aside0.mk hr1;have HC1:=Aside0.mk hc1;clear hr1 hc1;have HB:=Aside0.mk (Below.refl w.heap.size w);have H : (if (l0.length : Int) = (l1.length : Int) then (laws_eqVolS.l0 k l0 l1 0) else (some false)) = some r:=h;clear h
 by_cases c3 : (l0.length : Int) = (l1.length : Int)
 ·rw [if_pos c3] at H;have c3b0 : ((l0.length : Int) == (l1.length : Int)) = true:=beq_iff_eq.mpr c3;have c3b1 : ((l0.length : Int) != (l1.length : Int)) = false:=bne_eq_false_iff_eq.mpr c3;have c3b2 : (l0.length == l1.length) = true:=by first | simpa using c3 | (simp at c3 ⊢;omega)
  clear c3;have H':=Aside0.mk H;clear H
  go_enter Try.func116,Try.ntmps116
  go_wp2
  go_loopg [5] k (fun kq v5 w'=>∃ (x5_1 : Int),v5 = .int .i64 x5_1 ∧ Aside0 (laws_eqVolS.l0 kq l0 l1 x5_1 = some r) ∧ Aside0 (kq ≤ k) ∧ Aside0 (Below w.heap.size w w'));case atStart=>exact ⟨(0),(by first | rfl | (simp;done) | (simp [*];done)),H',⟨Nat.le_refl _⟩,⟨hs HB⟩⟩
  case round =>
   clear H'
   try clear c1
   try clear p2
   try clear c3
   try clear c3b0
   try clear c3b1
   try clear c3b2
   obtain ⟨x5_1,rfl,HA,HK1,HB⟩:=hrel;cases gk with
   | zero=>exact absurd HA.out (by simp [laws_eqVolS.l0])
   | succ k1 =>
    have H:=HA.out;clear HA;simp only [laws_eqVolS.l0] at H
    by_cases c4 : x5_1 < (l0.length : Int)
    ·rw [if_pos c4] at H;have c4b0 : decide (x5_1 < (l0.length : Int)) = true:=decide_eq_true c4;clear c4
     by_cases c5 : 0 ≤ x5_1
     ·rw [if_pos c5] at H;have c5b0 : decide (0 ≤ x5_1) = true:=decide_eq_true c5;clear c5
      by_cases c6 : x5_1 < (l1.length : Int)
      ·rw [if_pos c6] at H;have c6b0 : decide (x5_1 < (l1.length : Int)) = true:=decide_eq_true c6;clear c6;replace H:=Option.bind_eq_some_iff.mp H;obtain ⟨t1106,A70,H⟩:=H;replace H : (if t1106 = true then (laws_eqVolS.l0 k1 l0 l1 (wrap64 (x5_1 + 1))) else (some false)) = some r:=H;have A7:=Aside0.mk A70;clear A70
       by_cases c8 : t1106 = true
       ·subst c8;have H1 : (laws_eqVolS.l0 k1 l0 l1 (wrap64 (x5_1 + 1))) = some r:=by rw [if_pos rfl] at H;exact H
        clear H;have H:=H1;clear H1;have H':=Aside0.mk H;clear H
        try go_wp2
        have n0_:=Aside0.mk (below_drew1 HB.out);clear HB;have HB:=n0_;clear n0_;have p1104 : 0 ≤ (x5_1 : Int):=of_decide_eq_true (by first | (with_reducible assumption) | assumption);have q1104 : x5_1 < (l0.length : Int):=of_decide_eq_true (by first | (with_reducible assumption) | assumption);obtain ⟨ad1104,e1104,hx1104_0,hx1104_1⟩:=at_T147 HR0.out x5_1 p1104 q1104;have hw1104_1:=hx1104_1;have hw1104_0:=hx1104_0;cases e1104;replace hx1104_0:=(HB.out.cell (World.block_lt_of_cell? w _ hx1104_0)).trans hx1104_0;replace hx1104_1:=(HB.out.cell (World.block_lt_of_cell? w _ hx1104_1)).trans hx1104_1;replace p1104:=eq_true p1104;replace q1104:=eq_true q1104;have p1105 : 0 ≤ (x5_1 : Int):=of_decide_eq_true (by first | (with_reducible assumption) | assumption);have q1105 : x5_1 < (l1.length : Int):=of_decide_eq_true (by first | (with_reducible assumption) | assumption);obtain ⟨ad1105,e1105,hx1105_0,hx1105_1⟩:=at_T147 HR1.out x5_1 p1105 q1105;have hw1105_1:=hx1105_1;have hw1105_0:=hx1105_0;cases e1105;replace hx1105_0:=(HB.out.cell (World.block_lt_of_cell? w _ hx1105_0)).trans hx1105_0;replace hx1105_1:=(HB.out.cell (World.block_lt_of_cell? w _ hx1105_1)).trans hx1105_1;replace p1105:=eq_true p1105;replace q1105:=eq_true q1105;refine start_ (n:=10) (S:=fun w'=>w'.cell? (ad1104.add ((x5_1).toNat * 2)) = some (.int .i64 ((rd_T147 l0 x5_1).f0)) ∧ w'.cell? ⟨(ad1104.add ((x5_1).toNat * 2)).block,(ad1104.add ((x5_1).toNat * 2)).off + 1,none⟩ = some (.int .i64 ((rd_T147 l0 x5_1).f1)) ∧ w'.cell? (ad1105.add ((x5_1).toNat * 2)) = some (.int .i64 ((rd_T147 l1 x5_1).f0)) ∧ w'.cell? ⟨(ad1105.add ((x5_1).toNat * 2)).block,(ad1105.add ((x5_1).toNat * 2)).off + 1,none⟩ = some (.int .i64 ((rd_T147 l1 x5_1).f1))) (ds:=[]) #[false,false,false,false,false,false,false,false,false,false] (by kernel_rfl) rfl rfl ⟨((HB.out.cell (World.block_lt_of_cell? w _ hw1104_0)).trans hw1104_0),((HB.out.cell (World.block_lt_of_cell? w _ hw1104_1)).trans hw1104_1),((HB.out.cell (World.block_lt_of_cell? w _ hw1105_0)).trans hw1105_0),((HB.out.cell (World.block_lt_of_cell? w _ hw1105_1)).trans hw1105_1)⟩ (fun hHeld=>?_);refine with_tabW laws_eqVolS.tab6 laws_eqVolS.bits6 (fun HT_ HW_=>?_);generalize wr.drew = w9 at HB hx1104_0 hx1104_1 hx1105_0 hx1105_1 hHeld ⊢;refine pure_ (i:=0) (N:=some 17) (v:=?_) (a':=?_) #[true,false,false,false,false,false,false,false,false,false] rfl rfl (any_of HT_.out (by kernel_rfl)) (fun _ _ _ h=>h) (Or.inl ⟨by rfl,?_⟩) ?_ ?_;rotate_left
        ·intro w';go_simp;with_reducible rfl
        rotate_left
        ·simp only [Act.put,List.setIfInBounds_toArray,List.set_cons_zero,List.set_cons_succ,i64_w,i32_w];rfl
        refine pure_ (i:=1) (N:=some 18) (v:=?_) (a':=?_) #[true,true,false,false,false,false,false,false,false,false] rfl rfl (any_of HT_.out (by kernel_rfl)) (fun _ _ _ h=>h) (Or.inl ⟨by rfl,?_⟩) ?_ ?_;rotate_left
        ·intro w';go_simp;with_reducible rfl
        rotate_left
        ·simp only [Act.put,List.setIfInBounds_toArray,List.set_cons_zero,List.set_cons_succ,i64_w,i32_w];rfl
        refine pure_ (i:=2) (N:=some 19) (v:=?_) (a':=?_) #[true,true,true,false,false,false,false,false,false,false] rfl rfl (any_of HT_.out (by kernel_rfl)) (fun _ _ _ h=>h) (Or.inl ⟨by rfl,?_⟩) ?_ ?_;rotate_left
        ·intro w';go_simp;with_reducible rfl
        rotate_left
        ·simp only [Act.put,List.setIfInBounds_toArray,List.set_cons_zero,List.set_cons_succ,i64_w,i32_w];rfl
        refine pure_ (i:=4) (N:=some 21) (v:=?_) (a':=?_) #[true,true,true,false,true,false,false,false,false,false] rfl rfl (any_of HT_.out (by kernel_rfl)) (fun _ _ _ h=>h) (Or.inl ⟨by rfl,?_⟩) ?_ ?_;rotate_left
        ·intro w';go_simp;with_reducible rfl
        rotate_left
        ·simp only [Act.put,List.setIfInBounds_toArray,List.set_cons_zero,List.set_cons_succ,i64_w,i32_w];rfl
        refine pure_ (i:=5) (N:=some 22) (v:=?_) (a':=?_) #[true,true,true,false,true,true,false,false,false,false] rfl rfl (any_of HT_.out (by kernel_rfl)) (fun _ _ _ h=>h) (Or.inl ⟨by rfl,?_⟩) ?_ ?_;rotate_left
        ·intro w';go_simp;with_reducible rfl
        rotate_left
        ·simp only [Act.put,List.setIfInBounds_toArray,List.set_cons_zero,List.set_cons_succ,i64_w,i32_w];rfl
        refine pure_ (i:=6) (N:=some 23) (v:=?_) (a':=?_) #[true,true,true,false,true,true,true,false,false,false] rfl rfl (any_of HT_.out (by kernel_rfl)) (fun _ _ _ h=>h) (Or.inl ⟨by rfl,?_⟩) ?_ ?_;rotate_left
        ·intro w';go_simp;with_reducible rfl
        rotate_left
        ·simp only [Act.put,List.setIfInBounds_toArray,List.set_cons_zero,List.set_cons_succ,i64_w,i32_w];rfl
        refine take_ (i:=3) (N:=some 20) (v:=?_) (a':=?_) #[true,true,true,true,true,true,true,false,false,false] rfl rfl (take_ofW HT_.out HW_.out (by kernel_rfl)) (fun _ _ _ h=>h) (Or.inl ⟨by rfl,?_⟩) hHeld ?_ ?_;rotate_left
        ·rintro w' ⟨s0,s1,s2,s3⟩;go_simp;with_reducible rfl
        rotate_left
        ·simp only [Act.put,List.setIfInBounds_toArray,List.set_cons_zero,List.set_cons_succ,i64_w,i32_w];rfl
        refine take_ (i:=7) (N:=some 24) (v:=?_) (a':=?_) #[true,true,true,true,true,true,true,true,false,false] rfl rfl (take_ofW HT_.out HW_.out (by kernel_rfl)) (fun _ _ _ h=>h) (Or.inl ⟨by rfl,?_⟩) hHeld ?_ ?_;rotate_left
        ·rintro w' ⟨s0,s1,s2,s3⟩;go_simp;with_reducible rfl
        rotate_left
        ·simp only [Act.put,List.setIfInBounds_toArray,List.set_cons_zero,List.set_cons_succ,i64_w,i32_w];rfl
        refine one_ (i:=8) (N:=some 25) #[true,true,true,true,true,true,true,true,true,false] rfl rfl (one_of HT_.out (by kernel_rfl)) (by decide) (fun K hK=>?_);refine goes_ Try.func153 (by kernel_rfl) rfl #[.agg #[.int .i64 ((rd_T147 l0 x5_1).f0),.int .i64 ((rd_T147 l0 x5_1).f1)],.agg #[.int .i64 ((rd_T147 l1 x5_1).f0),.int .i64 ((rd_T147 l1 x5_1).f1)]] (by rfl) rfl rfl (by (try simp only [List.map_toArray,List.map_cons,List.map_nil]);first | done | rfl | (simp only [List.length_drop,List.length_take];rfl)) ?_;with_reducible refine (laws_eqVol.calls ((rd_T147 l0 x5_1).f0) ((rd_T147 l0 x5_1).f1) ((rd_T147 l1 x5_1).f0) ((rd_T147 l1 x5_1).f1) true _ A7.out).mono ?_
        rintro e w10 ⟨rfl,hb⟩;refine ⟨_,rfl,?_⟩;have n0_:=Aside0.mk (below_step (hs HB) hb);clear HB;have HB:=n0_;clear n0_
        (try clear hb)
        (try clear hb2)
        (try clear hk)
        (try clear hi)
        refine hK.out _ _ ⟨((HB.out.cell (World.block_lt_of_cell? w _ hw1104_0)).trans hw1104_0),((HB.out.cell (World.block_lt_of_cell? w _ hw1104_1)).trans hw1104_1),((HB.out.cell (World.block_lt_of_cell? w _ hw1105_0)).trans hw1105_0),((HB.out.cell (World.block_lt_of_cell? w _ hw1105_1)).trans hw1105_1)⟩ (fun hHeld=>?_);clear hK K;refine norm_ (a':=?_) ?_ ?_;rotate_left
        ·show Act.put _ (some 25) _ = _;simp only [Act.put,List.setIfInBounds_toArray,List.set_cons_zero,List.set_cons_succ,i64_w,i32_w];rfl
        refine pure_ (i:=9) (N:=some 26) (v:=?_) (a':=?_) #[true,true,true,true,true,true,true,true,true,true] rfl rfl (any_of HT_.out (by kernel_rfl)) (fun _ _ _ h=>h) (Or.inl ⟨by rfl,?_⟩) ?_ ?_;rotate_left
        ·intro w';go_simp;with_reducible rfl
        rotate_left
        ·simp only [Act.put,List.setIfInBounds_toArray,List.set_cons_zero,List.set_cons_succ,i64_w,i32_w];rfl
        refine done_ (done_of HT_.out (by kernel_rfl)) ?_
        try go_wp2
        go_roundg k1;case measure=>have:=HK1.out;omega
        case rel=>exact ⟨(wrap64 (x5_1 + 1)),(by first | rfl | (simp;done) | (simp [*];done)),H',⟨by have:=HK1.out;omega⟩,⟨hs HB⟩⟩
       replace c8:=Bool.eq_false_iff.mpr c8;subst c8;have H1 : (some false) = some r:=by rw [if_neg (show ¬ (false = true) by decide)] at H;exact H
       clear H;have H:=H1;clear H1;obtain rfl:=Option.some.inj H
       try go_wp2
       have n0_:=Aside0.mk (below_drew1 HB.out);clear HB;have HB:=n0_;clear n0_;have p1104 : 0 ≤ (x5_1 : Int):=of_decide_eq_true (by first | (with_reducible assumption) | assumption);have q1104 : x5_1 < (l0.length : Int):=of_decide_eq_true (by first | (with_reducible assumption) | assumption);obtain ⟨ad1104,e1104,hx1104_0,hx1104_1⟩:=at_T147 HR0.out x5_1 p1104 q1104;have hw1104_1:=hx1104_1;have hw1104_0:=hx1104_0;cases e1104;replace hx1104_0:=(HB.out.cell (World.block_lt_of_cell? w _ hx1104_0)).trans hx1104_0;replace hx1104_1:=(HB.out.cell (World.block_lt_of_cell? w _ hx1104_1)).trans hx1104_1;replace p1104:=eq_true p1104;replace q1104:=eq_true q1104;have p1105 : 0 ≤ (x5_1 : Int):=of_decide_eq_true (by first | (with_reducible assumption) | assumption);have q1105 : x5_1 < (l1.length : Int):=of_decide_eq_true (by first | (with_reducible assumption) | assumption);obtain ⟨ad1105,e1105,hx1105_0,hx1105_1⟩:=at_T147 HR1.out x5_1 p1105 q1105;have hw1105_1:=hx1105_1;have hw1105_0:=hx1105_0;cases e1105;replace hx1105_0:=(HB.out.cell (World.block_lt_of_cell? w _ hx1105_0)).trans hx1105_0;replace hx1105_1:=(HB.out.cell (World.block_lt_of_cell? w _ hx1105_1)).trans hx1105_1;replace p1105:=eq_true p1105;replace q1105:=eq_true q1105;refine start_ (n:=10) (S:=fun w'=>w'.cell? (ad1104.add ((x5_1).toNat * 2)) = some (.int .i64 ((rd_T147 l0 x5_1).f0)) ∧ w'.cell? ⟨(ad1104.add ((x5_1).toNat * 2)).block,(ad1104.add ((x5_1).toNat * 2)).off + 1,none⟩ = some (.int .i64 ((rd_T147 l0 x5_1).f1)) ∧ w'.cell? (ad1105.add ((x5_1).toNat * 2)) = some (.int .i64 ((rd_T147 l1 x5_1).f0)) ∧ w'.cell? ⟨(ad1105.add ((x5_1).toNat * 2)).block,(ad1105.add ((x5_1).toNat * 2)).off + 1,none⟩ = some (.int .i64 ((rd_T147 l1 x5_1).f1))) (ds:=[]) #[false,false,false,false,false,false,false,false,false,false] (by kernel_rfl) rfl rfl ⟨((HB.out.cell (World.block_lt_of_cell? w _ hw1104_0)).trans hw1104_0),((HB.out.cell (World.block_lt_of_cell? w _ hw1104_1)).trans hw1104_1),((HB.out.cell (World.block_lt_of_cell? w _ hw1105_0)).trans hw1105_0),((HB.out.cell (World.block_lt_of_cell? w _ hw1105_1)).trans hw1105_1)⟩ (fun hHeld=>?_);refine with_tabW laws_eqVolS.tab6 laws_eqVolS.bits6 (fun HT_ HW_=>?_);generalize wr.drew = w11 at HB hx1104_0 hx1104_1 hx1105_0 hx1105_1 hHeld ⊢;refine pure_ (i:=0) (N:=some 17) (v:=?_) (a':=?_) #[true,false,false,false,false,false,false,false,false,false] rfl rfl (any_of HT_.out (by kernel_rfl)) (fun _ _ _ h=>h) (Or.inl ⟨by rfl,?_⟩) ?_ ?_;rotate_left
       ·intro w';go_simp;with_reducible rfl
       rotate_left
       ·simp only [Act.put,List.setIfInBounds_toArray,List.set_cons_zero,List.set_cons_succ,i64_w,i32_w];rfl
       refine pure_ (i:=1) (N:=some 18) (v:=?_) (a':=?_) #[true,true,false,false,false,false,false,false,false,false] rfl rfl (any_of HT_.out (by kernel_rfl)) (fun _ _ _ h=>h) (Or.inl ⟨by rfl,?_⟩) ?_ ?_;rotate_left
       ·intro w';go_simp;with_reducible rfl
       rotate_left
       ·simp only [Act.put,List.setIfInBounds_toArray,List.set_cons_zero,List.set_cons_succ,i64_w,i32_w];rfl
       refine pure_ (i:=2) (N:=some 19) (v:=?_) (a':=?_) #[true,true,true,false,false,false,false,false,false,false] rfl rfl (any_of HT_.out (by kernel_rfl)) (fun _ _ _ h=>h) (Or.inl ⟨by rfl,?_⟩) ?_ ?_;rotate_left
       ·intro w';go_simp;with_reducible rfl
       rotate_left
       ·simp only [Act.put,List.setIfInBounds_toArray,List.set_cons_zero,List.set_cons_succ,i64_w,i32_w];rfl
       refine pure_ (i:=4) (N:=some 21) (v:=?_) (a':=?_) #[true,true,true,false,true,false,false,false,false,false] rfl rfl (any_of HT_.out (by kernel_rfl)) (fun _ _ _ h=>h) (Or.inl ⟨by rfl,?_⟩) ?_ ?_;rotate_left
       ·intro w';go_simp;with_reducible rfl
       rotate_left
       ·simp only [Act.put,List.setIfInBounds_toArray,List.set_cons_zero,List.set_cons_succ,i64_w,i32_w];rfl
       refine pure_ (i:=5) (N:=some 22) (v:=?_) (a':=?_) #[true,true,true,false,true,true,false,false,false,false] rfl rfl (any_of HT_.out (by kernel_rfl)) (fun _ _ _ h=>h) (Or.inl ⟨by rfl,?_⟩) ?_ ?_;rotate_left
       ·intro w';go_simp;with_reducible rfl
       rotate_left
       ·simp only [Act.put,List.setIfInBounds_toArray,List.set_cons_zero,List.set_cons_succ,i64_w,i32_w];rfl
       refine pure_ (i:=6) (N:=some 23) (v:=?_) (a':=?_) #[true,true,true,false,true,true,true,false,false,false] rfl rfl (any_of HT_.out (by kernel_rfl)) (fun _ _ _ h=>h) (Or.inl ⟨by rfl,?_⟩) ?_ ?_;rotate_left
       ·intro w';go_simp;with_reducible rfl
       rotate_left
       ·simp only [Act.put,List.setIfInBounds_toArray,List.set_cons_zero,List.set_cons_succ,i64_w,i32_w];rfl
       refine take_ (i:=3) (N:=some 20) (v:=?_) (a':=?_) #[true,true,true,true,true,true,true,false,false,false] rfl rfl (take_ofW HT_.out HW_.out (by kernel_rfl)) (fun _ _ _ h=>h) (Or.inl ⟨by rfl,?_⟩) hHeld ?_ ?_;rotate_left
       ·rintro w' ⟨s0,s1,s2,s3⟩;go_simp;with_reducible rfl
       rotate_left
       ·simp only [Act.put,List.setIfInBounds_toArray,List.set_cons_zero,List.set_cons_succ,i64_w,i32_w];rfl
       refine take_ (i:=7) (N:=some 24) (v:=?_) (a':=?_) #[true,true,true,true,true,true,true,true,false,false] rfl rfl (take_ofW HT_.out HW_.out (by kernel_rfl)) (fun _ _ _ h=>h) (Or.inl ⟨by rfl,?_⟩) hHeld ?_ ?_;rotate_left
       ·rintro w' ⟨s0,s1,s2,s3⟩;go_simp;with_reducible rfl
       rotate_left
       ·simp only [Act.put,List.setIfInBounds_toArray,List.set_cons_zero,List.set_cons_succ,i64_w,i32_w];rfl
       refine one_ (i:=8) (N:=some 25) #[true,true,true,true,true,true,true,true,true,false] rfl rfl (one_of HT_.out (by kernel_rfl)) (by decide) (fun K hK=>?_);refine goes_ Try.func153 (by kernel_rfl) rfl #[.agg #[.int .i64 ((rd_T147 l0 x5_1).f0),.int .i64 ((rd_T147 l0 x5_1).f1)],.agg #[.int .i64 ((rd_T147 l1 x5_1).f0),.int .i64 ((rd_T147 l1 x5_1).f1)]] (by rfl) rfl rfl (by (try simp only [List.map_toArray,List.map_cons,List.map_nil]);first | done | rfl | (simp only [List.length_drop,List.length_take];rfl)) ?_;with_reducible refine (laws_eqVol.calls ((rd_T147 l0 x5_1).f0) ((rd_T147 l0 x5_1).f1) ((rd_T147 l1 x5_1).f0) ((rd_T147 l1 x5_1).f1) false _ A7.out).mono ?_
       rintro e w12 ⟨rfl,hb⟩;refine ⟨_,rfl,?_⟩;have n0_:=Aside0.mk (below_step (hs HB) hb);clear HB;have HB:=n0_;clear n0_
       (try clear hb)
       (try clear hb2)
       (try clear hk)
       (try clear hi)
       refine hK.out _ _ ⟨((HB.out.cell (World.block_lt_of_cell? w _ hw1104_0)).trans hw1104_0),((HB.out.cell (World.block_lt_of_cell? w _ hw1104_1)).trans hw1104_1),((HB.out.cell (World.block_lt_of_cell? w _ hw1105_0)).trans hw1105_0),((HB.out.cell (World.block_lt_of_cell? w _ hw1105_1)).trans hw1105_1)⟩ (fun hHeld=>?_);clear hK K;refine norm_ (a':=?_) ?_ ?_;rotate_left
       ·show Act.put _ (some 25) _ = _;simp only [Act.put,List.setIfInBounds_toArray,List.set_cons_zero,List.set_cons_succ,i64_w,i32_w];rfl
       refine pure_ (i:=9) (N:=some 26) (v:=?_) (a':=?_) #[true,true,true,true,true,true,true,true,true,true] rfl rfl (any_of HT_.out (by kernel_rfl)) (fun _ _ _ h=>h) (Or.inl ⟨by rfl,?_⟩) ?_ ?_;rotate_left
       ·intro w';go_simp;with_reducible rfl
       rotate_left
       ·simp only [Act.put,List.setIfInBounds_toArray,List.set_cons_zero,List.set_cons_succ,i64_w,i32_w];rfl
       refine done_ (done_of HT_.out (by kernel_rfl)) ?_
       try go_wp2
       go_ret
       exact ⟨by first | rfl | (simp [errW_none,errW_some] <;> rfl) | (simp [*,errW_none,errW_some] <;> rfl),hs HB⟩
      rw [if_neg c6] at H;exact absurd H (by simp)
     rw [if_neg c5] at H;exact absurd H (by simp)
    rw [if_neg c4] at H;have c4b0 : decide (x5_1 < (l0.length : Int)) = false:=decide_eq_false c4;clear c4;obtain rfl:=Option.some.inj H
    go_wp2
    go_ret
    exact ⟨by first | rfl | (simp [errW_none,errW_some] <;> rfl) | (simp [*,errW_none,errW_some] <;> rfl),hs HB⟩
 rw [if_neg c3] at H;have c3b0 : ((l0.length : Int) == (l1.length : Int)) = false:=beq_eq_false_iff_ne.mpr c3;have c3b1 : ((l0.length : Int) != (l1.length : Int)) = true:=bne_iff_ne.mpr c3;have c3b2 : (l0.length == l1.length) = false:=by first | simpa using c3 | (simp at c3 ⊢;omega)
 obtain rfl:=Option.some.inj H
 go_enter Try.func116,Try.ntmps116
 go_wp2
 go_ret
 exact ⟨by first | rfl | (simp [errW_none,errW_some] <;> rfl) | (simp [*,errW_none,errW_some] <;> rfl),hs HB⟩
end Go.Proofs.Ytdolplcbokioaaa.PB

namespace Go.Proofs.Ytdolplcbokioaaa.PB
open Go.RowKit Go.Proofs.YtdolplcbokioaaaW.PrintWords Go.Proofs.YtdolplcbokioaaaW.PrintLast Go.Proofs.YtdolplcbokioaaaW.PrintMore
attribute [local go_sem] max2_int min2_int max_two min_two max_three min_three max_four min_four   -- for this text's walks alone
set_option linter.unusedVariables false
set_option linter.unusedSimpArgs false
def laws_eqStore.f (k : Nat) (l0_0 : List (S147)) (l0_1 : List (S133)) (a0_2 : Int) (l1_0 : List (S147)) (l1_1 : List (S133)) (a1_2 : Int) : Option (Bool):=(laws_eqVolS.f k l0_0 l1_0).bind fun t1109=>(if t1109 = true then ((laws_eqArena.f k l0_1 l1_1).bind fun t1110=>(if t1110 = true then (if a0_2 = a1_2 then (some true) else (some false)) else (some false))) else (some false))
theorem laws_eqStore.mono : ∀ a0 a1 a2 a3 a4 a5 k,LeO (laws_eqStore.f k a0 a1 a2 a3 a4 a5) (laws_eqStore.f (k + 1) a0 a1 a2 a3 a4 a5):=by
 intro a0 a1 a2 a3 a4 a5 k;unfold laws_eqStore.f
 repeat' first
   | (with_reducible exact laws_eqArena.mono _ _ _)
   | (with_reducible exact laws_eqVolS.mono _ _ _)
   | (with_reducible exact LeO.refl _)
   | (with_reducible exact LeO.none _)
   | (with_reducible refine LeO.ite ?_ ?_)
   | (with_reducible refine LeO.bind ?_ (fun _=>?_))
   | exact laws_eqArena.mono _ _ _
   | exact laws_eqVolS.mono _ _ _
   | exact LeO.none _
   | refine LeO.ite ?_ ?_
   | refine LeO.bind ?_ (fun _=>?_)
set_option maxHeartbeats 8000000 in
set_option maxRecDepth 100000 in
theorem laws_eqStore.calls (k : Nat) (A0_0 : Option Addr) (c0_0 : Nat) (l0_0 : List (S147)) (A0_1 : Option Addr) (c0_1 : Nat) (l0_1 : List (S133)) (a0_2 : Int) (A1_0 : Option Addr) (c1_0 : Nat) (l1_0 : List (S147)) (A1_1 : Option Addr) (c1_1 : Nat) (l1_1 : List (S133)) (a1_2 : Int) (r : Bool) (w : World) (hr0_0 : Kd.C k147 w A0_0 l0_0.length l0_0) (hc0_0 : l0_0.length ≤ c0_0) (hr0_1 : Kd.C k133 w A0_1 l0_1.length l0_1) (hc0_1 : l0_1.length ≤ c0_1) (hr1_0 : Kd.C k147 w A1_0 l1_0.length l1_0) (hc1_0 : l1_0.length ≤ c1_0) (hr1_1 : Kd.C k133 w A1_1 l1_1.length l1_1) (hc1_1 : l1_1.length ≤ c1_1) (h : laws_eqStore.f k l0_0 l0_1 a0_2 l1_0 l1_1 a1_2 = some r) :
  Calls Try.prog 48 #[.agg #[.slice A0_0 l0_0.length c0_0,.slice A0_1 l0_1.length c0_1,.int .i64 a0_2],.agg #[.slice A1_0 l1_0.length c1_0,.slice A1_1 l1_1.length c1_1,.int .i64 a1_2]] w fun e w'=>e = .returned (.bool r) ∧ Below w.heap.size w w':=by
 have hu83:=Try.underlying83;have hu44:=Try.underlying44;have HR0_0:=Aside0.mk hr0_0;have HC0_0:=Aside0.mk hc0_0;clear hr0_0 hc0_0;have HR0_1:=Aside0.mk hr0_1;have HC0_1:=Aside0.mk hc0_1;clear hr0_1 hc0_1;have HR1_0:=Aside0.mk hr1_0;have HC1_0:=Aside0.mk hc1_0;clear hr1_0 hc1_0;have HR1_1:=Aside0.mk hr1_1;have HC1_1:=Aside0.mk hc1_1;clear hr1_1 hc1_1;have HB:=Aside0.mk (Below.refl w.heap.size w);have H : ((laws_eqVolS.f k l0_0 l1_0).bind fun t1109=>(if t1109 = true then ((laws_eqArena.f k l0_1 l1_1).bind fun t1110=>(if t1110 = true then (if a0_2 = a1_2 then (some true) else (some false)) else (some false))) else (some false))) = some r:=h;clear h;replace H:=Option.bind_eq_some_iff.mp H;obtain ⟨t1109,A30,H⟩:=H;replace H : (if t1109 = true then ((laws_eqArena.f k l0_1 l1_1).bind fun t1110=>(if t1110 = true then (if a0_2 = a1_2 then (some true) else (some false)) else (some false))) else (some false)) = some r:=H;have A3:=Aside0.mk A30;clear A30
 by_cases c4 : t1109 = true
 ·subst c4;have H1 : ((laws_eqArena.f k l0_1 l1_1).bind fun t1110=>(if t1110 = true then (if a0_2 = a1_2 then (some true) else (some false)) else (some false))) = some r:=by rw [if_pos rfl] at H;exact H
  clear H;have H:=H1;clear H1;replace H:=Option.bind_eq_some_iff.mp H;obtain ⟨t1110,A50,H⟩:=H;replace H : (if t1110 = true then (if a0_2 = a1_2 then (some true) else (some false)) else (some false)) = some r:=H;have A5:=Aside0.mk A50;clear A50
  by_cases c6 : t1110 = true
  ·subst c6;have H1 : (if a0_2 = a1_2 then (some true) else (some false)) = some r:=by rw [if_pos rfl] at H;exact H
   clear H;have H:=H1;clear H1
   by_cases c7 : a0_2 = a1_2
   ·rw [if_pos c7] at H;have c7b0 : (a0_2 == a1_2) = true:=beq_iff_eq.mpr c7;have c7b1 : (a0_2 != a1_2) = false:=bne_eq_false_iff_eq.mpr c7;clear c7;obtain rfl:=Option.some.inj H
    go_enter Try.func48,Try.ntmps48
    go_wp2_with (first | ((with_reducible refine gate_dst (N:=2) rfl ?_);refine box_event ?hg (N:=2) ?hd (cs:=#[.slice A0_0 l0_0.length c0_0,.slice A0_1 l0_1.length c0_1,.int .i64 a0_2]) (t:=83) ?hr ?_;(case hd=>rfl);(case hg=>rfl);(case hr=>first | (go_simp;done) | (go_simp;rfl));intro gb1107 hg w8 hbox hb;have n0_:=Aside0.mk (below_step (hs HB) hb);have n1_:=Aside0.mk (hbox);have n2_:=Aside0.mk ((by rw [hg];exact (below_size (hs HB)) : w.heap.size ≤ gb1107));have n3_:=Aside0.mk ((by rw [hg];exact (below_size (hs HB)) : w.heap.size ≤ gb1107));clear HB;have HB:=n0_;have BK1107:=n1_;have GW1107:=n2_;have GE1107:=n3_;clear n0_ n1_ n2_ n3_;clear hb hbox hg) | ((with_reducible refine gate_dst (N:=3) rfl ?_);refine box_event ?hg (N:=3) ?hd (cs:=#[.slice A1_0 l1_0.length c1_0,.slice A1_1 l1_1.length c1_1,.int .i64 a1_2]) (t:=83) ?hr ?_;(case hd=>rfl);(case hg=>rfl);(case hr=>first | (go_simp;done) | (go_simp;rfl));intro gb1108 hg w9 hbox hb;have n0_:=Aside0.mk (blk_below (g:=gb1107) (o:=.cells #[.slice A0_0 l0_0.length c0_0,.slice A0_1 l0_1.length c0_1,.int .i64 a0_2] 83 (0,0)) (bs BK1107) hb);have n1_:=Aside0.mk (below_step (hs1 HB GE1107) hb);have n2_:=Aside0.mk (hbox);have n3_:=Aside0.mk ((by rw [hg];exact (below_size (hs1 HB GE1107)) : w.heap.size ≤ gb1108));have n4_:=Aside0.mk ((by rw [hg];exact (below_size (hs1 HB GE1107)) : w.heap.size ≤ gb1108));have n5_:=Aside0.mk ((by rw [hg];exact Nat.ne_of_lt (blk_lt (g:=gb1107) (o:=.cells #[.slice A0_0 l0_0.length c0_0,.slice A0_1 l0_1.length c0_1,.int .i64 a0_2] 83 (0,0)) (bs BK1107)) : gb1107 ≠ gb1108));have n6_:=Aside0.mk ((by rw [hg];exact Nat.ne_of_gt (blk_lt (g:=gb1107) (o:=.cells #[.slice A0_0 l0_0.length c0_0,.slice A0_1 l0_1.length c0_1,.int .i64 a0_2] 83 (0,0)) (bs BK1107)) : gb1108 ≠ gb1107));clear BK1107;clear HB;have BK1107:=n0_;have HB:=n1_;have BK1108:=n2_;have GW1108:=n3_;have GE1108:=n4_;have NB1107_1108:=n5_;have NB1108_1107:=n6_;clear n0_ n1_ n2_ n3_ n4_ n5_ n6_;clear hb hbox hg;have hnb10:=NB1107_1108.out;have hnc10:=NB1108_1107.out;have hcz11_0 : w9.cell? ⟨gb1107,0,none⟩ = some (.slice A0_0 l0_0.length c0_0):=(blk_cell BK1107.out 0).trans rfl;have hcz11_1 : w9.cell? ⟨gb1107,1,none⟩ = some (.slice A0_1 l0_1.length c0_1):=(blk_cell BK1107.out 1).trans rfl;have hcz11_2 : w9.cell? ⟨gb1107,2,none⟩ = some (.int .i64 a0_2):=(blk_cell BK1107.out 2).trans rfl;have hfz11_0:=blk_frozen BK1107.out 0;have hfz11_1:=blk_frozen BK1107.out 1;have hfz11_2:=blk_frozen BK1107.out 2;have hcz12_0 : w9.cell? ⟨gb1108,0,none⟩ = some (.slice A1_0 l1_0.length c1_0):=(blk_cell BK1108.out 0).trans rfl;have hcz12_1 : w9.cell? ⟨gb1108,1,none⟩ = some (.slice A1_1 l1_1.length c1_1):=(blk_cell BK1108.out 1).trans rfl;have hcz12_2 : w9.cell? ⟨gb1108,2,none⟩ = some (.int .i64 a1_2):=(blk_cell BK1108.out 2).trans rfl;have hfz12_0:=blk_frozen BK1108.out 0;have hfz12_1:=blk_frozen BK1108.out 1;have hfz12_2:=blk_frozen BK1108.out 2) | ((with_reducible refine gate_callee (f:=116) rfl ?_);refine goesL_ (some 9) rfl rfl Try.func116 (by kernel_rfl) rfl #[.slice A0_0 l0_0.length c0_0,.slice A1_0 l1_0.length c1_0] rfl (by (try simp only [List.map_toArray,List.map_cons,List.map_nil]);first | done | rfl | (simp only [List.length_drop,List.length_take];rfl)) ?_;(with_reducible refine (laws_eqVolS.calls k _ _ l0_0 _ _ l1_0 true _ ?side1 ?side2 ?side3 ?side4 A3.out).mono ?_);(case side1=>repeat (first | exact (Kd.C_below HR0_0.out HB.out) | (with_reducible refine Kd.C_alloc ?_ _) | (with_reducible refine Kd.C_drewN ?_ _) | (with_reducible refine Kd.C_drew ?_)));(case side2=>exact HC0_0.out);(case side3=>repeat (first | exact (Kd.C_below HR1_0.out HB.out) | (with_reducible refine Kd.C_alloc ?_ _) | (with_reducible refine Kd.C_drewN ?_ _) | (with_reducible refine Kd.C_drew ?_)));(case side4=>exact HC1_0.out);rintro e w13 ⟨rfl,hb⟩;refine ⟨_,rfl,?_⟩;have n0_:=Aside0.mk (blk_below (g:=gb1107) (o:=.cells #[.slice A0_0 l0_0.length c0_0,.slice A0_1 l0_1.length c0_1,.int .i64 a0_2] 83 (0,0)) (bs BK1107) hb);have n1_:=Aside0.mk (blk_below (g:=gb1108) (o:=.cells #[.slice A1_0 l1_0.length c1_0,.slice A1_1 l1_1.length c1_1,.int .i64 a1_2] 83 (0,0)) (bs BK1108) hb);have n2_:=Aside0.mk (below_step (hs2 HB GE1107 GE1108) hb);clear BK1107;clear BK1108;clear HB;have BK1107:=n0_;have BK1108:=n1_;have HB:=n2_;clear n0_ n1_ n2_;(try clear hb);(try clear hb2);(try clear hk);(try clear hi);have hcz14_0 : w13.cell? ⟨gb1107,0,none⟩ = some (.slice A0_0 l0_0.length c0_0):=(blk_cell BK1107.out 0).trans rfl;have hcz14_1 : w13.cell? ⟨gb1107,1,none⟩ = some (.slice A0_1 l0_1.length c0_1):=(blk_cell BK1107.out 1).trans rfl;have hcz14_2 : w13.cell? ⟨gb1107,2,none⟩ = some (.int .i64 a0_2):=(blk_cell BK1107.out 2).trans rfl;have hfz14_0:=blk_frozen BK1107.out 0;have hfz14_1:=blk_frozen BK1107.out 1;have hfz14_2:=blk_frozen BK1107.out 2;have hcz15_0 : w13.cell? ⟨gb1108,0,none⟩ = some (.slice A1_0 l1_0.length c1_0):=(blk_cell BK1108.out 0).trans rfl;have hcz15_1 : w13.cell? ⟨gb1108,1,none⟩ = some (.slice A1_1 l1_1.length c1_1):=(blk_cell BK1108.out 1).trans rfl;have hcz15_2 : w13.cell? ⟨gb1108,2,none⟩ = some (.int .i64 a1_2):=(blk_cell BK1108.out 2).trans rfl;have hfz15_0:=blk_frozen BK1108.out 0;have hfz15_1:=blk_frozen BK1108.out 1;have hfz15_2:=blk_frozen BK1108.out 2) | ((with_reducible refine gate_callee (f:=33) rfl ?_);refine goesL_ (some 15) rfl rfl Try.func33 (by kernel_rfl) rfl #[.agg #[.slice A0_1 l0_1.length c0_1],.agg #[.slice A1_1 l1_1.length c1_1]] rfl (by (try simp only [List.map_toArray,List.map_cons,List.map_nil]);first | done | rfl | (simp only [List.length_drop,List.length_take];rfl)) ?_;(with_reducible refine (laws_eqArena.calls k _ _ l0_1 _ _ l1_1 true _ ?side1 ?side2 ?side3 ?side4 A5.out).mono ?_);(case side1=>repeat (first | exact (Kd.C_below HR0_1.out HB.out) | (with_reducible refine Kd.C_alloc ?_ _) | (with_reducible refine Kd.C_drewN ?_ _) | (with_reducible refine Kd.C_drew ?_)));(case side2=>exact HC0_1.out);(case side3=>repeat (first | exact (Kd.C_below HR1_1.out HB.out) | (with_reducible refine Kd.C_alloc ?_ _) | (with_reducible refine Kd.C_drewN ?_ _) | (with_reducible refine Kd.C_drew ?_)));(case side4=>exact HC1_1.out);rintro e w16 ⟨rfl,hb⟩;refine ⟨_,rfl,?_⟩;have n0_:=Aside0.mk (blk_below (g:=gb1107) (o:=.cells #[.slice A0_0 l0_0.length c0_0,.slice A0_1 l0_1.length c0_1,.int .i64 a0_2] 83 (0,0)) (bs BK1107) hb);have n1_:=Aside0.mk (blk_below (g:=gb1108) (o:=.cells #[.slice A1_0 l1_0.length c1_0,.slice A1_1 l1_1.length c1_1,.int .i64 a1_2] 83 (0,0)) (bs BK1108) hb);have n2_:=Aside0.mk (below_step (hs2 HB GE1107 GE1108) hb);clear BK1107;clear BK1108;clear HB;have BK1107:=n0_;have BK1108:=n1_;have HB:=n2_;clear n0_ n1_ n2_;(try clear hb);(try clear hb2);(try clear hk);(try clear hi);have hcz17_0 : w16.cell? ⟨gb1107,0,none⟩ = some (.slice A0_0 l0_0.length c0_0):=(blk_cell BK1107.out 0).trans rfl;have hcz17_1 : w16.cell? ⟨gb1107,1,none⟩ = some (.slice A0_1 l0_1.length c0_1):=(blk_cell BK1107.out 1).trans rfl;have hcz17_2 : w16.cell? ⟨gb1107,2,none⟩ = some (.int .i64 a0_2):=(blk_cell BK1107.out 2).trans rfl;have hfz17_0:=blk_frozen BK1107.out 0;have hfz17_1:=blk_frozen BK1107.out 1;have hfz17_2:=blk_frozen BK1107.out 2;have hcz18_0 : w16.cell? ⟨gb1108,0,none⟩ = some (.slice A1_0 l1_0.length c1_0):=(blk_cell BK1108.out 0).trans rfl;have hcz18_1 : w16.cell? ⟨gb1108,1,none⟩ = some (.slice A1_1 l1_1.length c1_1):=(blk_cell BK1108.out 1).trans rfl;have hcz18_2 : w16.cell? ⟨gb1108,2,none⟩ = some (.int .i64 a1_2):=(blk_cell BK1108.out 2).trans rfl;have hfz18_0:=blk_frozen BK1108.out 0;have hfz18_1:=blk_frozen BK1108.out 1;have hfz18_2:=blk_frozen BK1108.out 2))
    go_ret
    exact ⟨by first | rfl | (simp [errW_none,errW_some] <;> rfl) | (simp [*,errW_none,errW_some] <;> rfl),hs2 HB GE1107 GE1108⟩
   rw [if_neg c7] at H;have c7b0 : (a0_2 == a1_2) = false:=beq_eq_false_iff_ne.mpr c7;have c7b1 : (a0_2 != a1_2) = true:=bne_iff_ne.mpr c7;obtain rfl:=Option.some.inj H
   go_enter Try.func48,Try.ntmps48
   go_wp2_with (first | ((with_reducible refine gate_dst (N:=2) rfl ?_);refine box_event ?hg (N:=2) ?hd (cs:=#[.slice A0_0 l0_0.length c0_0,.slice A0_1 l0_1.length c0_1,.int .i64 a0_2]) (t:=83) ?hr ?_;(case hd=>rfl);(case hg=>rfl);(case hr=>first | (go_simp;done) | (go_simp;rfl));intro gb1107 hg w19 hbox hb;have n0_:=Aside0.mk (below_step (hs HB) hb);have n1_:=Aside0.mk (hbox);have n2_:=Aside0.mk ((by rw [hg];exact (below_size (hs HB)) : w.heap.size ≤ gb1107));have n3_:=Aside0.mk ((by rw [hg];exact (below_size (hs HB)) : w.heap.size ≤ gb1107));clear HB;have HB:=n0_;have BK1107:=n1_;have GW1107:=n2_;have GE1107:=n3_;clear n0_ n1_ n2_ n3_;clear hb hbox hg) | ((with_reducible refine gate_dst (N:=3) rfl ?_);refine box_event ?hg (N:=3) ?hd (cs:=#[.slice A1_0 l1_0.length c1_0,.slice A1_1 l1_1.length c1_1,.int .i64 a1_2]) (t:=83) ?hr ?_;(case hd=>rfl);(case hg=>rfl);(case hr=>first | (go_simp;done) | (go_simp;rfl));intro gb1108 hg w20 hbox hb;have n0_:=Aside0.mk (blk_below (g:=gb1107) (o:=.cells #[.slice A0_0 l0_0.length c0_0,.slice A0_1 l0_1.length c0_1,.int .i64 a0_2] 83 (0,0)) (bs BK1107) hb);have n1_:=Aside0.mk (below_step (hs1 HB GE1107) hb);have n2_:=Aside0.mk (hbox);have n3_:=Aside0.mk ((by rw [hg];exact (below_size (hs1 HB GE1107)) : w.heap.size ≤ gb1108));have n4_:=Aside0.mk ((by rw [hg];exact (below_size (hs1 HB GE1107)) : w.heap.size ≤ gb1108));have n5_:=Aside0.mk ((by rw [hg];exact Nat.ne_of_lt (blk_lt (g:=gb1107) (o:=.cells #[.slice A0_0 l0_0.length c0_0,.slice A0_1 l0_1.length c0_1,.int .i64 a0_2] 83 (0,0)) (bs BK1107)) : gb1107 ≠ gb1108));have n6_:=Aside0.mk ((by rw [hg];exact Nat.ne_of_gt (blk_lt (g:=gb1107) (o:=.cells #[.slice A0_0 l0_0.length c0_0,.slice A0_1 l0_1.length c0_1,.int .i64 a0_2] 83 (0,0)) (bs BK1107)) : gb1108 ≠ gb1107));clear BK1107;clear HB;have BK1107:=n0_;have HB:=n1_;have BK1108:=n2_;have GW1108:=n3_;have GE1108:=n4_;have NB1107_1108:=n5_;have NB1108_1107:=n6_;clear n0_ n1_ n2_ n3_ n4_ n5_ n6_;clear hb hbox hg;have hnb21:=NB1107_1108.out;have hnc21:=NB1108_1107.out;have hcz22_0 : w20.cell? ⟨gb1107,0,none⟩ = some (.slice A0_0 l0_0.length c0_0):=(blk_cell BK1107.out 0).trans rfl;have hcz22_1 : w20.cell? ⟨gb1107,1,none⟩ = some (.slice A0_1 l0_1.length c0_1):=(blk_cell BK1107.out 1).trans rfl;have hcz22_2 : w20.cell? ⟨gb1107,2,none⟩ = some (.int .i64 a0_2):=(blk_cell BK1107.out 2).trans rfl;have hfz22_0:=blk_frozen BK1107.out 0;have hfz22_1:=blk_frozen BK1107.out 1;have hfz22_2:=blk_frozen BK1107.out 2;have hcz23_0 : w20.cell? ⟨gb1108,0,none⟩ = some (.slice A1_0 l1_0.length c1_0):=(blk_cell BK1108.out 0).trans rfl;have hcz23_1 : w20.cell? ⟨gb1108,1,none⟩ = some (.slice A1_1 l1_1.length c1_1):=(blk_cell BK1108.out 1).trans rfl;have hcz23_2 : w20.cell? ⟨gb1108,2,none⟩ = some (.int .i64 a1_2):=(blk_cell BK1108.out 2).trans rfl;have hfz23_0:=blk_frozen BK1108.out 0;have hfz23_1:=blk_frozen BK1108.out 1;have hfz23_2:=blk_frozen BK1108.out 2) | ((with_reducible refine gate_callee (f:=116) rfl ?_);refine goesL_ (some 9) rfl rfl Try.func116 (by kernel_rfl) rfl #[.slice A0_0 l0_0.length c0_0,.slice A1_0 l1_0.length c1_0] rfl (by (try simp only [List.map_toArray,List.map_cons,List.map_nil]);first | done | rfl | (simp only [List.length_drop,List.length_take];rfl)) ?_;(with_reducible refine (laws_eqVolS.calls k _ _ l0_0 _ _ l1_0 true _ ?side1 ?side2 ?side3 ?side4 A3.out).mono ?_);(case side1=>repeat (first | exact (Kd.C_below HR0_0.out HB.out) | (with_reducible refine Kd.C_alloc ?_ _) | (with_reducible refine Kd.C_drewN ?_ _) | (with_reducible refine Kd.C_drew ?_)));(case side2=>exact HC0_0.out);(case side3=>repeat (first | exact (Kd.C_below HR1_0.out HB.out) | (with_reducible refine Kd.C_alloc ?_ _) | (with_reducible refine Kd.C_drewN ?_ _) | (with_reducible refine Kd.C_drew ?_)));(case side4=>exact HC1_0.out);rintro e w24 ⟨rfl,hb⟩;refine ⟨_,rfl,?_⟩;have n0_:=Aside0.mk (blk_below (g:=gb1107) (o:=.cells #[.slice A0_0 l0_0.length c0_0,.slice A0_1 l0_1.length c0_1,.int .i64 a0_2] 83 (0,0)) (bs BK1107) hb);have n1_:=Aside0.mk (blk_below (g:=gb1108) (o:=.cells #[.slice A1_0 l1_0.length c1_0,.slice A1_1 l1_1.length c1_1,.int .i64 a1_2] 83 (0,0)) (bs BK1108) hb);have n2_:=Aside0.mk (below_step (hs2 HB GE1107 GE1108) hb);clear BK1107;clear BK1108;clear HB;have BK1107:=n0_;have BK1108:=n1_;have HB:=n2_;clear n0_ n1_ n2_;(try clear hb);(try clear hb2);(try clear hk);(try clear hi);have hcz25_0 : w24.cell? ⟨gb1107,0,none⟩ = some (.slice A0_0 l0_0.length c0_0):=(blk_cell BK1107.out 0).trans rfl;have hcz25_1 : w24.cell? ⟨gb1107,1,none⟩ = some (.slice A0_1 l0_1.length c0_1):=(blk_cell BK1107.out 1).trans rfl;have hcz25_2 : w24.cell? ⟨gb1107,2,none⟩ = some (.int .i64 a0_2):=(blk_cell BK1107.out 2).trans rfl;have hfz25_0:=blk_frozen BK1107.out 0;have hfz25_1:=blk_frozen BK1107.out 1;have hfz25_2:=blk_frozen BK1107.out 2;have hcz26_0 : w24.cell? ⟨gb1108,0,none⟩ = some (.slice A1_0 l1_0.length c1_0):=(blk_cell BK1108.out 0).trans rfl;have hcz26_1 : w24.cell? ⟨gb1108,1,none⟩ = some (.slice A1_1 l1_1.length c1_1):=(blk_cell BK1108.out 1).trans rfl;have hcz26_2 : w24.cell? ⟨gb1108,2,none⟩ = some (.int .i64 a1_2):=(blk_cell BK1108.out 2).trans rfl;have hfz26_0:=blk_frozen BK1108.out 0;have hfz26_1:=blk_frozen BK1108.out 1;have hfz26_2:=blk_frozen BK1108.out 2) | ((with_reducible refine gate_callee (f:=33) rfl ?_);refine goesL_ (some 15) rfl rfl Try.func33 (by kernel_rfl) rfl #[.agg #[.slice A0_1 l0_1.length c0_1],.agg #[.slice A1_1 l1_1.length c1_1]] rfl (by (try simp only [List.map_toArray,List.map_cons,List.map_nil]);first | done | rfl | (simp only [List.length_drop,List.length_take];rfl)) ?_;(with_reducible refine (laws_eqArena.calls k _ _ l0_1 _ _ l1_1 true _ ?side1 ?side2 ?side3 ?side4 A5.out).mono ?_);(case side1=>repeat (first | exact (Kd.C_below HR0_1.out HB.out) | (with_reducible refine Kd.C_alloc ?_ _) | (with_reducible refine Kd.C_drewN ?_ _) | (with_reducible refine Kd.C_drew ?_)));(case side2=>exact HC0_1.out);(case side3=>repeat (first | exact (Kd.C_below HR1_1.out HB.out) | (with_reducible refine Kd.C_alloc ?_ _) | (with_reducible refine Kd.C_drewN ?_ _) | (with_reducible refine Kd.C_drew ?_)));(case side4=>exact HC1_1.out);rintro e w27 ⟨rfl,hb⟩;refine ⟨_,rfl,?_⟩;have n0_:=Aside0.mk (blk_below (g:=gb1107) (o:=.cells #[.slice A0_0 l0_0.length c0_0,.slice A0_1 l0_1.length c0_1,.int .i64 a0_2] 83 (0,0)) (bs BK1107) hb);have n1_:=Aside0.mk (blk_below (g:=gb1108) (o:=.cells #[.slice A1_0 l1_0.length c1_0,.slice A1_1 l1_1.length c1_1,.int .i64 a1_2] 83 (0,0)) (bs BK1108) hb);have n2_:=Aside0.mk (below_step (hs2 HB GE1107 GE1108) hb);clear BK1107;clear BK1108;clear HB;have BK1107:=n0_;have BK1108:=n1_;have HB:=n2_;clear n0_ n1_ n2_;(try clear hb);(try clear hb2);(try clear hk);(try clear hi);have hcz28_0 : w27.cell? ⟨gb1107,0,none⟩ = some (.slice A0_0 l0_0.length c0_0):=(blk_cell BK1107.out 0).trans rfl;have hcz28_1 : w27.cell? ⟨gb1107,1,none⟩ = some (.slice A0_1 l0_1.length c0_1):=(blk_cell BK1107.out 1).trans rfl;have hcz28_2 : w27.cell? ⟨gb1107,2,none⟩ = some (.int .i64 a0_2):=(blk_cell BK1107.out 2).trans rfl;have hfz28_0:=blk_frozen BK1107.out 0;have hfz28_1:=blk_frozen BK1107.out 1;have hfz28_2:=blk_frozen BK1107.out 2;have hcz29_0 : w27.cell? ⟨gb1108,0,none⟩ = some (.slice A1_0 l1_0.length c1_0):=(blk_cell BK1108.out 0).trans rfl;have hcz29_1 : w27.cell? ⟨gb1108,1,none⟩ = some (.slice A1_1 l1_1.length c1_1):=(blk_cell BK1108.out 1).trans rfl;have hcz29_2 : w27.cell? ⟨gb1108,2,none⟩ = some (.int .i64 a1_2):=(blk_cell BK1108.out 2).trans rfl;have hfz29_0:=blk_frozen BK1108.out 0;have hfz29_1:=blk_frozen BK1108.out 1;have hfz29_2:=blk_frozen BK1108.out 2))
   go_ret
   exact ⟨by first | rfl | (simp [errW_none,errW_some] <;> rfl) | (simp [*,errW_none,errW_some] <;> rfl),hs2 HB GE1107 GE1108⟩
  replace c6:=Bool.eq_false_iff.mpr c6;subst c6;have H1 : (some false) = some r:=by rw [if_neg (show ¬ (false = true) by decide)] at H;exact H
  clear H;have H:=H1;clear H1;obtain rfl:=Option.some.inj H
  go_enter Try.func48,Try.ntmps48
  go_wp2_with (first | ((with_reducible refine gate_dst (N:=2) rfl ?_);refine box_event ?hg (N:=2) ?hd (cs:=#[.slice A0_0 l0_0.length c0_0,.slice A0_1 l0_1.length c0_1,.int .i64 a0_2]) (t:=83) ?hr ?_;(case hd=>rfl);(case hg=>rfl);(case hr=>first | (go_simp;done) | (go_simp;rfl));intro gb1107 hg w30 hbox hb;have n0_:=Aside0.mk (below_step (hs HB) hb);have n1_:=Aside0.mk (hbox);have n2_:=Aside0.mk ((by rw [hg];exact (below_size (hs HB)) : w.heap.size ≤ gb1107));have n3_:=Aside0.mk ((by rw [hg];exact (below_size (hs HB)) : w.heap.size ≤ gb1107));clear HB;have HB:=n0_;have BK1107:=n1_;have GW1107:=n2_;have GE1107:=n3_;clear n0_ n1_ n2_ n3_;clear hb hbox hg) | ((with_reducible refine gate_dst (N:=3) rfl ?_);refine box_event ?hg (N:=3) ?hd (cs:=#[.slice A1_0 l1_0.length c1_0,.slice A1_1 l1_1.length c1_1,.int .i64 a1_2]) (t:=83) ?hr ?_;(case hd=>rfl);(case hg=>rfl);(case hr=>first | (go_simp;done) | (go_simp;rfl));intro gb1108 hg w31 hbox hb;have n0_:=Aside0.mk (blk_below (g:=gb1107) (o:=.cells #[.slice A0_0 l0_0.length c0_0,.slice A0_1 l0_1.length c0_1,.int .i64 a0_2] 83 (0,0)) (bs BK1107) hb);have n1_:=Aside0.mk (below_step (hs1 HB GE1107) hb);have n2_:=Aside0.mk (hbox);have n3_:=Aside0.mk ((by rw [hg];exact (below_size (hs1 HB GE1107)) : w.heap.size ≤ gb1108));have n4_:=Aside0.mk ((by rw [hg];exact (below_size (hs1 HB GE1107)) : w.heap.size ≤ gb1108));have n5_:=Aside0.mk ((by rw [hg];exact Nat.ne_of_lt (blk_lt (g:=gb1107) (o:=.cells #[.slice A0_0 l0_0.length c0_0,.slice A0_1 l0_1.length c0_1,.int .i64 a0_2] 83 (0,0)) (bs BK1107)) : gb1107 ≠ gb1108));have n6_:=Aside0.mk ((by rw [hg];exact Nat.ne_of_gt (blk_lt (g:=gb1107) (o:=.cells #[.slice A0_0 l0_0.length c0_0,.slice A0_1 l0_1.length c0_1,.int .i64 a0_2] 83 (0,0)) (bs BK1107)) : gb1108 ≠ gb1107));clear BK1107;clear HB;have BK1107:=n0_;have HB:=n1_;have BK1108:=n2_;have GW1108:=n3_;have GE1108:=n4_;have NB1107_1108:=n5_;have NB1108_1107:=n6_;clear n0_ n1_ n2_ n3_ n4_ n5_ n6_;clear hb hbox hg;have hnb32:=NB1107_1108.out;have hnc32:=NB1108_1107.out;have hcz33_0 : w31.cell? ⟨gb1107,0,none⟩ = some (.slice A0_0 l0_0.length c0_0):=(blk_cell BK1107.out 0).trans rfl;have hcz33_1 : w31.cell? ⟨gb1107,1,none⟩ = some (.slice A0_1 l0_1.length c0_1):=(blk_cell BK1107.out 1).trans rfl;have hcz33_2 : w31.cell? ⟨gb1107,2,none⟩ = some (.int .i64 a0_2):=(blk_cell BK1107.out 2).trans rfl;have hfz33_0:=blk_frozen BK1107.out 0;have hfz33_1:=blk_frozen BK1107.out 1;have hfz33_2:=blk_frozen BK1107.out 2;have hcz34_0 : w31.cell? ⟨gb1108,0,none⟩ = some (.slice A1_0 l1_0.length c1_0):=(blk_cell BK1108.out 0).trans rfl;have hcz34_1 : w31.cell? ⟨gb1108,1,none⟩ = some (.slice A1_1 l1_1.length c1_1):=(blk_cell BK1108.out 1).trans rfl;have hcz34_2 : w31.cell? ⟨gb1108,2,none⟩ = some (.int .i64 a1_2):=(blk_cell BK1108.out 2).trans rfl;have hfz34_0:=blk_frozen BK1108.out 0;have hfz34_1:=blk_frozen BK1108.out 1;have hfz34_2:=blk_frozen BK1108.out 2) | ((with_reducible refine gate_callee (f:=116) rfl ?_);refine goesL_ (some 9) rfl rfl Try.func116 (by kernel_rfl) rfl #[.slice A0_0 l0_0.length c0_0,.slice A1_0 l1_0.length c1_0] rfl (by (try simp only [List.map_toArray,List.map_cons,List.map_nil]);first | done | rfl | (simp only [List.length_drop,List.length_take];rfl)) ?_;(with_reducible refine (laws_eqVolS.calls k _ _ l0_0 _ _ l1_0 true _ ?side1 ?side2 ?side3 ?side4 A3.out).mono ?_);(case side1=>repeat (first | exact (Kd.C_below HR0_0.out HB.out) | (with_reducible refine Kd.C_alloc ?_ _) | (with_reducible refine Kd.C_drewN ?_ _) | (with_reducible refine Kd.C_drew ?_)));(case side2=>exact HC0_0.out);(case side3=>repeat (first | exact (Kd.C_below HR1_0.out HB.out) | (with_reducible refine Kd.C_alloc ?_ _) | (with_reducible refine Kd.C_drewN ?_ _) | (with_reducible refine Kd.C_drew ?_)));(case side4=>exact HC1_0.out);rintro e w35 ⟨rfl,hb⟩;refine ⟨_,rfl,?_⟩;have n0_:=Aside0.mk (blk_below (g:=gb1107) (o:=.cells #[.slice A0_0 l0_0.length c0_0,.slice A0_1 l0_1.length c0_1,.int .i64 a0_2] 83 (0,0)) (bs BK1107) hb);have n1_:=Aside0.mk (blk_below (g:=gb1108) (o:=.cells #[.slice A1_0 l1_0.length c1_0,.slice A1_1 l1_1.length c1_1,.int .i64 a1_2] 83 (0,0)) (bs BK1108) hb);have n2_:=Aside0.mk (below_step (hs2 HB GE1107 GE1108) hb);clear BK1107;clear BK1108;clear HB;have BK1107:=n0_;have BK1108:=n1_;have HB:=n2_;clear n0_ n1_ n2_;(try clear hb);(try clear hb2);(try clear hk);(try clear hi);have hcz36_0 : w35.cell? ⟨gb1107,0,none⟩ = some (.slice A0_0 l0_0.length c0_0):=(blk_cell BK1107.out 0).trans rfl;have hcz36_1 : w35.cell? ⟨gb1107,1,none⟩ = some (.slice A0_1 l0_1.length c0_1):=(blk_cell BK1107.out 1).trans rfl;have hcz36_2 : w35.cell? ⟨gb1107,2,none⟩ = some (.int .i64 a0_2):=(blk_cell BK1107.out 2).trans rfl;have hfz36_0:=blk_frozen BK1107.out 0;have hfz36_1:=blk_frozen BK1107.out 1;have hfz36_2:=blk_frozen BK1107.out 2;have hcz37_0 : w35.cell? ⟨gb1108,0,none⟩ = some (.slice A1_0 l1_0.length c1_0):=(blk_cell BK1108.out 0).trans rfl;have hcz37_1 : w35.cell? ⟨gb1108,1,none⟩ = some (.slice A1_1 l1_1.length c1_1):=(blk_cell BK1108.out 1).trans rfl;have hcz37_2 : w35.cell? ⟨gb1108,2,none⟩ = some (.int .i64 a1_2):=(blk_cell BK1108.out 2).trans rfl;have hfz37_0:=blk_frozen BK1108.out 0;have hfz37_1:=blk_frozen BK1108.out 1;have hfz37_2:=blk_frozen BK1108.out 2) | ((with_reducible refine gate_callee (f:=33) rfl ?_);refine goesL_ (some 15) rfl rfl Try.func33 (by kernel_rfl) rfl #[.agg #[.slice A0_1 l0_1.length c0_1],.agg #[.slice A1_1 l1_1.length c1_1]] rfl (by (try simp only [List.map_toArray,List.map_cons,List.map_nil]);first | done | rfl | (simp only [List.length_drop,List.length_take];rfl)) ?_;(with_reducible refine (laws_eqArena.calls k _ _ l0_1 _ _ l1_1 false _ ?side1 ?side2 ?side3 ?side4 A5.out).mono ?_);(case side1=>repeat (first | exact (Kd.C_below HR0_1.out HB.out) | (with_reducible refine Kd.C_alloc ?_ _) | (with_reducible refine Kd.C_drewN ?_ _) | (with_reducible refine Kd.C_drew ?_)));(case side2=>exact HC0_1.out);(case side3=>repeat (first | exact (Kd.C_below HR1_1.out HB.out) | (with_reducible refine Kd.C_alloc ?_ _) | (with_reducible refine Kd.C_drewN ?_ _) | (with_reducible refine Kd.C_drew ?_)));(case side4=>exact HC1_1.out);rintro e w38 ⟨rfl,hb⟩;refine ⟨_,rfl,?_⟩;have n0_:=Aside0.mk (blk_below (g:=gb1107) (o:=.cells #[.slice A0_0 l0_0.length c0_0,.slice A0_1 l0_1.length c0_1,.int .i64 a0_2] 83 (0,0)) (bs BK1107) hb);have n1_:=Aside0.mk (blk_below (g:=gb1108) (o:=.cells #[.slice A1_0 l1_0.length c1_0,.slice A1_1 l1_1.length c1_1,.int .i64 a1_2] 83 (0,0)) (bs BK1108) hb);have n2_:=Aside0.mk (below_step (hs2 HB GE1107 GE1108) hb);clear BK1107;clear BK1108;clear HB;have BK1107:=n0_;have BK1108:=n1_;have HB:=n2_;clear n0_ n1_ n2_;(try clear hb);(try clear hb2);(try clear hk);(try clear hi)))
  go_ret
  exact ⟨by first | rfl | (simp [errW_none,errW_some] <;> rfl) | (simp [*,errW_none,errW_some] <;> rfl),hs2 HB GE1107 GE1108⟩
 replace c4:=Bool.eq_false_iff.mpr c4;subst c4;have H1 : (some false) = some r:=by rw [if_neg (show ¬ (false = true) by decide)] at H;exact H
 clear H;have H:=H1;clear H1;obtain rfl:=Option.some.inj H
 go_enter Try.func48,Try.ntmps48
 go_wp2_with (first | ((with_reducible refine gate_dst (N:=2) rfl ?_);refine box_event ?hg (N:=2) ?hd (cs:=#[.slice A0_0 l0_0.length c0_0,.slice A0_1 l0_1.length c0_1,.int .i64 a0_2]) (t:=83) ?hr ?_;(case hd=>rfl);(case hg=>rfl);(case hr=>first | (go_simp;done) | (go_simp;rfl));intro gb1107 hg w39 hbox hb;have n0_:=Aside0.mk (below_step (hs HB) hb);have n1_:=Aside0.mk (hbox);have n2_:=Aside0.mk ((by rw [hg];exact (below_size (hs HB)) : w.heap.size ≤ gb1107));have n3_:=Aside0.mk ((by rw [hg];exact (below_size (hs HB)) : w.heap.size ≤ gb1107));clear HB;have HB:=n0_;have BK1107:=n1_;have GW1107:=n2_;have GE1107:=n3_;clear n0_ n1_ n2_ n3_;clear hb hbox hg) | ((with_reducible refine gate_dst (N:=3) rfl ?_);refine box_event ?hg (N:=3) ?hd (cs:=#[.slice A1_0 l1_0.length c1_0,.slice A1_1 l1_1.length c1_1,.int .i64 a1_2]) (t:=83) ?hr ?_;(case hd=>rfl);(case hg=>rfl);(case hr=>first | (go_simp;done) | (go_simp;rfl));intro gb1108 hg w40 hbox hb;have n0_:=Aside0.mk (blk_below (g:=gb1107) (o:=.cells #[.slice A0_0 l0_0.length c0_0,.slice A0_1 l0_1.length c0_1,.int .i64 a0_2] 83 (0,0)) (bs BK1107) hb);have n1_:=Aside0.mk (below_step (hs1 HB GE1107) hb);have n2_:=Aside0.mk (hbox);have n3_:=Aside0.mk ((by rw [hg];exact (below_size (hs1 HB GE1107)) : w.heap.size ≤ gb1108));have n4_:=Aside0.mk ((by rw [hg];exact (below_size (hs1 HB GE1107)) : w.heap.size ≤ gb1108));have n5_:=Aside0.mk ((by rw [hg];exact Nat.ne_of_lt (blk_lt (g:=gb1107) (o:=.cells #[.slice A0_0 l0_0.length c0_0,.slice A0_1 l0_1.length c0_1,.int .i64 a0_2] 83 (0,0)) (bs BK1107)) : gb1107 ≠ gb1108));have n6_:=Aside0.mk ((by rw [hg];exact Nat.ne_of_gt (blk_lt (g:=gb1107) (o:=.cells #[.slice A0_0 l0_0.length c0_0,.slice A0_1 l0_1.length c0_1,.int .i64 a0_2] 83 (0,0)) (bs BK1107)) : gb1108 ≠ gb1107));clear BK1107;clear HB;have BK1107:=n0_;have HB:=n1_;have BK1108:=n2_;have GW1108:=n3_;have GE1108:=n4_;have NB1107_1108:=n5_;have NB1108_1107:=n6_;clear n0_ n1_ n2_ n3_ n4_ n5_ n6_;clear hb hbox hg;have hnb41:=NB1107_1108.out;have hnc41:=NB1108_1107.out;have hcz42_0 : w40.cell? ⟨gb1107,0,none⟩ = some (.slice A0_0 l0_0.length c0_0):=(blk_cell BK1107.out 0).trans rfl;have hcz42_1 : w40.cell? ⟨gb1107,1,none⟩ = some (.slice A0_1 l0_1.length c0_1):=(blk_cell BK1107.out 1).trans rfl;have hcz42_2 : w40.cell? ⟨gb1107,2,none⟩ = some (.int .i64 a0_2):=(blk_cell BK1107.out 2).trans rfl;have hfz42_0:=blk_frozen BK1107.out 0;have hfz42_1:=blk_frozen BK1107.out 1;have hfz42_2:=blk_frozen BK1107.out 2;have hcz43_0 : w40.cell? ⟨gb1108,0,none⟩ = some (.slice A1_0 l1_0.length c1_0):=(blk_cell BK1108.out 0).trans rfl;have hcz43_1 : w40.cell? ⟨gb1108,1,none⟩ = some (.slice A1_1 l1_1.length c1_1):=(blk_cell BK1108.out 1).trans rfl;have hcz43_2 : w40.cell? ⟨gb1108,2,none⟩ = some (.int .i64 a1_2):=(blk_cell BK1108.out 2).trans rfl;have hfz43_0:=blk_frozen BK1108.out 0;have hfz43_1:=blk_frozen BK1108.out 1;have hfz43_2:=blk_frozen BK1108.out 2) | ((with_reducible refine gate_callee (f:=116) rfl ?_);refine goesL_ (some 9) rfl rfl Try.func116 (by kernel_rfl) rfl #[.slice A0_0 l0_0.length c0_0,.slice A1_0 l1_0.length c1_0] rfl (by (try simp only [List.map_toArray,List.map_cons,List.map_nil]);first | done | rfl | (simp only [List.length_drop,List.length_take];rfl)) ?_;(with_reducible refine (laws_eqVolS.calls k _ _ l0_0 _ _ l1_0 false _ ?side1 ?side2 ?side3 ?side4 A3.out).mono ?_);(case side1=>repeat (first | exact (Kd.C_below HR0_0.out HB.out) | (with_reducible refine Kd.C_alloc ?_ _) | (with_reducible refine Kd.C_drewN ?_ _) | (with_reducible refine Kd.C_drew ?_)));(case side2=>exact HC0_0.out);(case side3=>repeat (first | exact (Kd.C_below HR1_0.out HB.out) | (with_reducible refine Kd.C_alloc ?_ _) | (with_reducible refine Kd.C_drewN ?_ _) | (with_reducible refine Kd.C_drew ?_)));(case side4=>exact HC1_0.out);rintro e w44 ⟨rfl,hb⟩;refine ⟨_,rfl,?_⟩;have n0_:=Aside0.mk (blk_below (g:=gb1107) (o:=.cells #[.slice A0_0 l0_0.length c0_0,.slice A0_1 l0_1.length c0_1,.int .i64 a0_2] 83 (0,0)) (bs BK1107) hb);have n1_:=Aside0.mk (blk_below (g:=gb1108) (o:=.cells #[.slice A1_0 l1_0.length c1_0,.slice A1_1 l1_1.length c1_1,.int .i64 a1_2] 83 (0,0)) (bs BK1108) hb);have n2_:=Aside0.mk (below_step (hs2 HB GE1107 GE1108) hb);clear BK1107;clear BK1108;clear HB;have BK1107:=n0_;have BK1108:=n1_;have HB:=n2_;clear n0_ n1_ n2_;(try clear hb);(try clear hb2);(try clear hk);(try clear hi)))
 go_ret
 exact ⟨by first | rfl | (simp [errW_none,errW_some] <;> rfl) | (simp [*,errW_none,errW_some] <;> rfl),hs2 HB GE1107 GE1108⟩
end Go.Proofs.Ytdolplcbokioaaa.PB

namespace Go.Proofs.Ytdolplcbokioaaa.PB
open Go.RowKit Go.Proofs.YtdolplcbokioaaaW.PrintWords Go.Proofs.YtdolplcbokioaaaW.PrintLast Go.Proofs.YtdolplcbokioaaaW.PrintMore
attribute [local go_sem] max2_int min2_int max_two min_two max_three min_three max_four min_four   -- for this text's walks alone
set_option linter.unusedVariables false
set_option linter.unusedSimpArgs false
def spec_l01In.f (a0 : Int) (a1 : Int) (a2 : Int) : Option (Bool):=if a0 ≥ a1 then (some (decide (a0 ≤ a2))) else (some false)
set_option maxHeartbeats 8000000 in
set_option maxRecDepth 100000 in
theorem spec_l01In.calls (a0 : Int) (a1 : Int) (a2 : Int) (r : Bool) (w : World) (h : spec_l01In.f a0 a1 a2 = some r) :
  Calls Try.prog 86 #[.int .i64 a0,.int .i64 a1,.int .i64 a2] w fun e w'=>e = .returned (.bool r) ∧ Drawn0 w w':=by
 have H : (if a0 ≥ a1 then (some (decide (a0 ≤ a2))) else (some false)) = some r:=h;clear h
 by_cases c4 : a0 ≥ a1
 ·rw [if_pos c4] at H;have c4b0 : decide (a1 ≤ a0) = true:=decide_eq_true c4;clear c4;obtain rfl:=Option.some.inj H
  go_enter Try.func86,Try.ntmps86
  go_wp2
  go_ret
  exact ⟨by first | rfl | (simp;done) | (simp [*];done),by repeat (first | exact Drawn0.refl _ | apply Drawn0.step)⟩
 rw [if_neg c4] at H;have c4b0 : decide (a1 ≤ a0) = false:=decide_eq_false c4;clear c4;obtain rfl:=Option.some.inj H
 go_enter Try.func86,Try.ntmps86
 go_wp2
 go_ret
 exact ⟨by first | rfl | (simp;done) | (simp [*];done),by repeat (first | exact Drawn0.refl _ | apply Drawn0.step)⟩
end Go.Proofs.Ytdolplcbokioaaa.PB
