/- FnExactSweepArena: functions of the translation as Lean functions with what their calls come to, plain lemmas on them, and, at the end, the row. Parts of one proof, merged by a program of this session; each part's own sentence stands at its head. -/
import Derived.Test.YtdolplcbokioaaaProg
import Derived.Below
import Derived.Deep.Draws
import Derived.Deep.AppendLies
import Derived.Maps.AppendAt
import Derived.OwnWalk
import Derived.Laws.BytesArg
import Derived.Laws.MakeOwn
import Derived.Laws.OwnMore
import Derived.Deep.OwnRows
import Derived.Tactics
import Derived.Lib.ConvBytes
import Derived.Laws.Slices
import Derived.WalkKit
import Derived.KernelRfl
import Derived.RowKit3
import Derived.Deep.LoopGhost
import Derived.Deep.QuietTactic
import Derived.BigQuiet
import Derived.WideLaws
import Derived.Deep.DeepCutAuto
import Derived.Deep.CutBlock
import Derived.Deep.RegionHeld3
import Derived.Laws.Rows
import Derived.Lib.AppendStr
import Derived.ArgAppend
import Derived.Laws.IdiomCopy
import Derived.OrdersHeld
import Derived.Laws.BitsLemmas
import Derived.RowKit
import Derived.Test.YtdolplcbokioaaaMFnExactSweepArenawa
/- Rows whose elements' inner rows lie apart: a field of an element stored, and an element's own row written by a call. -/
namespace Go.Proofs.YtdolplcbokioaaaW.PrintWords
set_option linter.unusedVariables false
set_option linter.unusedSimpArgs false
open Go.RowKit
namespace Kd
section
variable {α : Type} {d : Kd α} {e g n cap : Nat} {w W w' : World} {base : Nat} {ok oki : Nat → Prop} {v : Value} {xs : List α} {i : Int} {c : List Value}
/-- One field of element i is stored. -/
theorem S_field (h : S d e W base ok (.slice (some ⟨g, 0, none⟩) n cap) xs) (z : α) (i : Int) (h0 : 0 ≤ i) (h1 : i < n) (j : Nat) (u : Value) (hj : j + [u].length ≤ d.sz) {x' : α}
    (hM : ∀ (okp : Nat → Prop) (c : List Value), d.M W base okp (xs.getD i.toNat z) c → d.M W base okp x' (c.take j ++ [u] ++ c.drop (j + [u].length))) :
    S d e (W.setCell ⟨g, i.toNat * d.sz + j, none⟩ u) base ok (.slice (some ⟨g, 0, none⟩) n cap) (xs.set i.toNat x') ∧ W.grownBy (W.setCell ⟨g, i.toNat * d.sz + j, none⟩ u) (some g) := by
  have hS : S d e W base (fun k => ok k ∧ ¬ (fun _ => False) k) (.slice (some ⟨g, 0, none⟩) n cap) xs := S_mono h (fun k hk => ⟨hk, fun h => h⟩)
  obtain ⟨oki, c, _, hMc, _, _, _, hH⟩ := S_elem hS z i h0 h1
  have r := S_seg (seg := [u]) (j := j) hH h0 h1 hj (hM oki c hMc) (fun _ hk => .inl hk) (fun _ hk => hk.elim)
  exact r
/-- What element i leads to was written by a call that keeps all else. -/
theorem S_called (hH : H d e W base ok v xs i oki c) (hk : Kept W w' oki) {x' : α} (hM : d.M w' base (fun k => oki k ∨ W.heap.size ≤ k) x' c) (hok : ∀ k, W.heap.size ≤ k → ok k) : S d e w' base ok v (xs.set i.toNat x') :=
  H_back (H_kept (H_widen hH) hk (fun _ _ hn hS => hn (.inl hS))) hM (fun k hk => hk.imp id (fun h => ⟨hok k h, h⟩))
/-- Cells of element i are stored; what they lead to is new to the row. -/
theorem S_put (h : S d e W base ok (.slice (some ⟨g, 0, none⟩) n cap) xs) (z : α) (i : Int) (h0 : 0 ≤ i) (h1 : i < n) (j : Nat) (seg : List Value) (hj : j + seg.length ≤ d.sz) {okv : Nat → Prop} (hap : ∀ k, ok k → okv k → False) (hg : ∀ k, okv k → k ≠ g) {x' : α}
    (hM : ∀ (okp : Nat → Prop) (c : List Value), d.M W base okp (xs.getD i.toNat z) c → d.M W base (fun k => okp k ∨ okv k) x' (c.take j ++ seg ++ c.drop (j + seg.length))) :
    S d e (W.setCells g (i.toNat * d.sz + j) seg) base (fun k => ok k ∨ okv k) (.slice (some ⟨g, 0, none⟩) n cap) (xs.set i.toNat x') ∧ W.grownBy (W.setCells g (i.toNat * d.sz + j) seg) (some g) := by
  have hS : S d e W base (fun k => (ok k ∨ okv k) ∧ ¬ okv k) (.slice (some ⟨g, 0, none⟩) n cap) xs := S_mono h (fun k hk => ⟨.inl hk, fun h2 => hap k hk h2⟩)
  obtain ⟨oki, c, _, hMc, _, _, _, hH⟩ := S_elem hS z i h0 h1
  exact S_seg (okg := okv) hH h0 h1 hj (hM oki c hMc) (fun _ hk => hk) (fun k hk => ⟨.inr hk, hg k hk⟩)
/-- Two rows that came at once, of types apart: their blocks are apart. -/
theorem two_apart {β : Type} {d' : Kd β} {e' : Nat} {base' : Nat} {ok' : Nat → Prop} {v' : Value} {ys : List β} (h : d.R e w base ok v xs) (h' : S d' e' w base' ok' v' ys) (ht : ∀ q, q ∈ e :: d.E → ∀ q', q' ∈ e' :: d'.E → q ≠ q') :
    ∃ TA TB : Nat → Prop, (∀ k, TA k → TB k → False) ∧ d.R e w base (fun k => (base ≤ k ∧ k < w.heap.size) ∧ TA k) v xs ∧ S d' e' w base' (fun k => (base' ≤ k ∧ k < w.heap.size) ∧ TB k) v' ys := by
  refine ⟨fun k => ∃ q, q ∈ e :: d.E ∧ ∃ cells, w.heap[k]? = some (.cells cells q (0, 0)), fun k => ∃ q, q ∈ e' :: d'.E ∧ ∃ cells, w.heap[k]? = some (.cells cells q (0, 0)), ?_, R_mono (R_bound h) (fun k hk => ⟨⟨hk.2.1, hk.2.2.1⟩, hk.2.2.2⟩), S_mono (S_bound h') (fun k hk => ⟨⟨hk.2.1, hk.2.2.1⟩, hk.2.2.2⟩)⟩
  rintro k ⟨q, hq, c, hc⟩ ⟨q', hq', c', hc'⟩
  rw [hc] at hc'
  injection hc' with hc'
  injection hc' with h1 h2 h3
  exact ht q hq q' hq' h2
/-- Two rows that came at once, the second one's block none of the first one's. -/
theorem two_told {β : Type} {d' : Kd β} {e' : Nat} {base' : Nat} {ok' : Nat → Prop} {v' : Value} {ys : List β} (h : S d e w base (fun k => some k ≠ v'.ownBlock) v xs) (h' : d'.R e' w base' ok' v' ys) (hE : d'.E = []) :
    ∃ TA TB : Nat → Prop, (∀ k, TA k → TB k → False) ∧ S d e w base (fun k => (base ≤ k ∧ k < w.heap.size) ∧ TA k) v xs ∧ d'.R e' w base' (fun k => (base' ≤ k ∧ k < w.heap.size) ∧ TB k) v' ys :=
  ⟨fun k => some k ≠ v'.ownBlock, fun k => some k = v'.ownBlock, fun k h1 h2 => h1 h2, S_mono (S_bound h) (fun k hk => ⟨⟨hk.2.1, hk.2.2.1⟩, hk.1⟩), R_mono (R_bound (R_tight hE h')) (fun k hk => ⟨⟨hk.2.1, hk.2.2.1⟩, hk.1⟩)⟩
end
end Kd
end Go.Proofs.YtdolplcbokioaaaW.PrintWords

/- Short words for facts that are carried over worlds that only drew or made an object. -/
namespace Go.Proofs.YtdolplcbokioaaaW.PrintWords
open Go.RowKit

inductive Strip (w0 : World) : World → Prop
  | refl : Strip w0 w0
  | alloc {w : World} (h : Strip w0 w) (o : Obj) : Strip w0 (w.alloc o)
  | drew {w : World} (h : Strip w0 w) : Strip w0 w.drew
  | drewN {w : World} (h : Strip w0 w) (m : Nat) : Strip w0 (w.drewN m)
theorem rs {α : Type} {d : Kd α} {e : TypeId} {w0 w : World} {base : Nat} {ok : Nat → Prop} {v : Value} {xs : List α} (a : Aside0 (d.R e w0 base ok v xs))
    (s : Strip w0 w := by (with_reducible repeat (first | refine Strip.alloc ?_ _ | refine Strip.drewN ?_ _ | refine Strip.drew ?_)); with_reducible exact Strip.refl) : d.R e w base ok v xs := by
  induction s with
  | refl => exact a.out
  | alloc _ o ih => exact Kd.R_alloc ih o
  | drew _ ih => exact Kd.R_drew ih
  | drewN _ m ih => exact Kd.R_drewN ih m
theorem bs {w0 w : World} {g : Nat} {o : Obj} (a : Aside0 (w0.heap[g]? = some o))
    (s : Strip w0 w := by (with_reducible repeat (first | refine Strip.alloc ?_ _ | refine Strip.drewN ?_ _ | refine Strip.drew ?_)); with_reducible exact Strip.refl) : w.heap[g]? = some o := by
  induction s with
  | refl => exact a.out
  | alloc _ o ih => exact blk_alloc ih o
  | drew _ ih => exact blk_drew ih
  | drewN _ m ih => exact blk_drewN ih m
theorem hs {u w0 w : World} (a : Aside0 (Below u.heap.size u w0))
    (s : Strip w0 w := by (with_reducible repeat (first | refine Strip.alloc ?_ _ | refine Strip.drewN ?_ _ | refine Strip.drew ?_)); with_reducible exact Strip.refl) : Below u.heap.size u w := by
  induction s with
  | refl => exact a.out
  | alloc _ o ih => exact below_alloc ih o
  | drew _ ih => exact below_drew1 ih
  | drewN _ m ih => exact pw_below_drewN ih m
theorem ss {α : Type} {d : Kd α} {e : TypeId} {w0 w : World} {base : Nat} {ok : Nat → Prop} {v : Value} {xs : List α} (a : Aside0 (d.S e w0 base ok v xs))
    (s : Strip w0 w := by (with_reducible repeat (first | refine Strip.alloc ?_ _ | refine Strip.drewN ?_ _ | refine Strip.drew ?_)); with_reducible exact Strip.refl) : d.S e w base ok v xs := by
  induction s with
  | refl => exact a.out
  | alloc _ o ih => exact Kd.S_alloc ih o
  | drew _ ih => exact Kd.S_drew ih
  | drewN _ m ih => exact Kd.S_drewN ih m
inductive StripG (G : Nat → Prop) (w0 : World) : World → Prop
  | refl : StripG G w0 w0
  | alloc {w : World} (h : StripG G w0 w) (o : Obj) : StripG G w0 (w.alloc o)
  | drew {w : World} (h : StripG G w0 w) : StripG G w0 w.drew
  | drewN {w : World} (h : StripG G w0 w) (m : Nat) : StripG G w0 (w.drewN m)
  | set {w : World} {g j : Nat} {v : Value} (h : StripG G w0 w) (hg : G g) : StripG G w0 (w.setCell ⟨g, j, none⟩ v)
theorem hsG {G : Nat → Prop} {u w0 w : World} (a : Below u.heap.size u w0) (hG : ∀ g, G g → u.heap.size ≤ g) (s : StripG G w0 w) : Below u.heap.size u w := by
  induction s with
  | refl => exact a
  | alloc _ o ih => exact below_alloc ih o
  | drew _ ih => exact below_drew1 ih
  | drewN _ m ih => exact pw_below_drewN ih m
  | set _ hg ih => exact below_set ih (hG _ hg)
theorem hs1 {u w0 w : World} {g1 : Nat} (a : Aside0 (Below u.heap.size u w0)) (b1 : Aside0 (u.heap.size ≤ g1))
    (s : StripG (fun g => g = g1) w0 w := by repeat (first | (with_reducible exact StripG.refl) | (with_reducible refine StripG.alloc ?_ _) | (with_reducible refine StripG.drewN ?_ _) | (with_reducible refine StripG.drew ?_) | (with_reducible refine StripG.set ?_ (by repeat (first | (with_reducible exact rfl) | (with_reducible exact Or.inl rfl) | (with_reducible apply Or.inr)))))) : Below u.heap.size u w :=
  hsG a.out (fun g h => by subst h; exact b1.out) s
theorem hs2 {u w0 w : World} {g1 g2 : Nat} (a : Aside0 (Below u.heap.size u w0)) (b1 : Aside0 (u.heap.size ≤ g1)) (b2 : Aside0 (u.heap.size ≤ g2))
    (s : StripG (fun g => g = g1 ∨ g = g2) w0 w := by repeat (first | (with_reducible exact StripG.refl) | (with_reducible refine StripG.alloc ?_ _) | (with_reducible refine StripG.drewN ?_ _) | (with_reducible refine StripG.drew ?_) | (with_reducible refine StripG.set ?_ (by repeat (first | (with_reducible exact rfl) | (with_reducible exact Or.inl rfl) | (with_reducible apply Or.inr)))))) : Below u.heap.size u w :=
  hsG a.out (fun g (h : g = g1 ∨ g = g2) => by rcases h with rfl | rfl <;> (first | exact b1.out | exact b2.out)) s
theorem hs3 {u w0 w : World} {g1 g2 g3 : Nat} (a : Aside0 (Below u.heap.size u w0)) (b1 : Aside0 (u.heap.size ≤ g1)) (b2 : Aside0 (u.heap.size ≤ g2)) (b3 : Aside0 (u.heap.size ≤ g3))
    (s : StripG (fun g => g = g1 ∨ g = g2 ∨ g = g3) w0 w := by repeat (first | (with_reducible exact StripG.refl) | (with_reducible refine StripG.alloc ?_ _) | (with_reducible refine StripG.drewN ?_ _) | (with_reducible refine StripG.drew ?_) | (with_reducible refine StripG.set ?_ (by repeat (first | (with_reducible exact rfl) | (with_reducible exact Or.inl rfl) | (with_reducible apply Or.inr)))))) : Below u.heap.size u w :=
  hsG a.out (fun g (h : g = g1 ∨ g = g2 ∨ g = g3) => by rcases h with rfl | rfl | rfl <;> (first | exact b1.out | exact b2.out | exact b3.out)) s
theorem hs4 {u w0 w : World} {g1 g2 g3 g4 : Nat} (a : Aside0 (Below u.heap.size u w0)) (b1 : Aside0 (u.heap.size ≤ g1)) (b2 : Aside0 (u.heap.size ≤ g2)) (b3 : Aside0 (u.heap.size ≤ g3)) (b4 : Aside0 (u.heap.size ≤ g4))
    (s : StripG (fun g => g = g1 ∨ g = g2 ∨ g = g3 ∨ g = g4) w0 w := by repeat (first | (with_reducible exact StripG.refl) | (with_reducible refine StripG.alloc ?_ _) | (with_reducible refine StripG.drewN ?_ _) | (with_reducible refine StripG.drew ?_) | (with_reducible refine StripG.set ?_ (by repeat (first | (with_reducible exact rfl) | (with_reducible exact Or.inl rfl) | (with_reducible apply Or.inr)))))) : Below u.heap.size u w :=
  hsG a.out (fun g (h : g = g1 ∨ g = g2 ∨ g = g3 ∨ g = g4) => by rcases h with rfl | rfl | rfl | rfl <;> (first | exact b1.out | exact b2.out | exact b3.out | exact b4.out)) s
theorem hs5 {u w0 w : World} {g1 g2 g3 g4 g5 : Nat} (a : Aside0 (Below u.heap.size u w0)) (b1 : Aside0 (u.heap.size ≤ g1)) (b2 : Aside0 (u.heap.size ≤ g2)) (b3 : Aside0 (u.heap.size ≤ g3)) (b4 : Aside0 (u.heap.size ≤ g4)) (b5 : Aside0 (u.heap.size ≤ g5))
    (s : StripG (fun g => g = g1 ∨ g = g2 ∨ g = g3 ∨ g = g4 ∨ g = g5) w0 w := by repeat (first | (with_reducible exact StripG.refl) | (with_reducible refine StripG.alloc ?_ _) | (with_reducible refine StripG.drewN ?_ _) | (with_reducible refine StripG.drew ?_) | (with_reducible refine StripG.set ?_ (by repeat (first | (with_reducible exact rfl) | (with_reducible exact Or.inl rfl) | (with_reducible apply Or.inr)))))) : Below u.heap.size u w :=
  hsG a.out (fun g (h : g = g1 ∨ g = g2 ∨ g = g3 ∨ g = g4 ∨ g = g5) => by rcases h with rfl | rfl | rfl | rfl | rfl <;> (first | exact b1.out | exact b2.out | exact b3.out | exact b4.out | exact b5.out)) s
end Go.Proofs.YtdolplcbokioaaaW.PrintWords

namespace Go.Proofs.Ytdolplcbokioaaa.PB
open Go.RowKit Go.Proofs.YtdolplcbokioaaaW.PrintWords Go.Proofs.YtdolplcbokioaaaW.PrintLast Go.Proofs.YtdolplcbokioaaaW.PrintMore
attribute [local go_sem] max2_int min2_int max_two min_two max_three min_three max_four min_four   -- for this text's walks alone
set_option linter.unusedVariables false
set_option linter.unusedSimpArgs false
def errW : Option Int → Value
 | none=>.nilIface
 | some c=>.iface 0 (.int .i64 c)
theorem errW_none : errW none = .nilIface:=rfl
theorem errW_some (c : Int) : errW (some c) = .iface 0 (.int .i64 c):=rfl
theorem info3 : (Try.prog.info? 3).map (fun i=>(i.zero,i.size,i.bytes)) = some (some (.int .i64 0),1,8):=by kernel_rfl
theorem info4 : (Try.prog.info? 4).map (fun i=>(i.zero,i.size,i.bytes)) = some (some (.bool false),1,1):=by kernel_rfl
theorem info5 : (Try.prog.info? 5).map (fun i=>(i.zero,i.size,i.bytes)) = some (some (.int .u8 0),1,1):=by kernel_rfl
theorem info9 : (Try.prog.info? 9).map (fun i=>(i.zero,i.size,i.bytes)) = some (some (.string ⟨#[]⟩),1,16):=by kernel_rfl
theorem info33 : (Try.prog.info? 33).map (fun i=>(i.zero,i.size,i.bytes)) = some (some (.agg #[(.int .i64 0),(.int .i64 0),(.int .i64 0),(.int .i64 0),(.int .i64 0),(.string ⟨#[]⟩)]),6,56):=by kernel_rfl
theorem info71 : (Try.prog.info? 71).map (fun i=>(i.zero,i.size,i.bytes)) = some (some (.agg #[(.bool false),(.int .i64 0),(.slice none 0 0)]),3,40):=by kernel_rfl
theorem info90 : (Try.prog.info? 90).map (fun i=>(i.zero,i.size,i.bytes)) = some (some (.agg #[(.int .i64 0),(.int .i64 0),(.int .i64 0),(.int .i64 0)]),4,32):=by kernel_rfl
theorem info133 : (Try.prog.info? 133).map (fun i=>(i.zero,i.size,i.bytes)) = some (some (.agg #[(.bool false),(.slice none 0 0)]),2,32):=by kernel_rfl
theorem info142 : (Try.prog.info? 142).map (fun i=>(i.zero,i.size,i.bytes)) = some (some (.agg #[(.int .i64 0),(.string ⟨#[]⟩)]),2,24):=by kernel_rfl
theorem info147 : (Try.prog.info? 147).map (fun i=>(i.zero,i.size,i.bytes)) = some (some (.agg #[(.int .i64 0),(.int .i64 0)]),2,16):=by kernel_rfl
-- the values' own types
structure S90 where
 f0 : Int
 f1 : Int
 f2 : Int
 f3 : Int
def z90 : S90:=⟨(0 : Int),(0 : Int),(0 : Int),(0 : Int)⟩
def k90 : Kd S90:=Kd.iso (Kd.pair (Kd.int .i64) (Kd.pair (Kd.int .i64) (Kd.pair (Kd.int .i64) (Kd.int .i64)))) (fun x : S90=>(x.f0,x.f1,x.f2,x.f3))
theorem k90_open {w : World} {x : S90} {cs : List Value} (h : k90.K w x cs) : cs = [.int .i64 x.f0,.int .i64 x.f1,.int .i64 x.f2,.int .i64 x.f3]:=by
 obtain ⟨_,_,rfl,rfl,⟨_,_,rfl,rfl,⟨_,_,rfl,rfl,rfl⟩⟩⟩:=h;exact rfl
theorem k90_openM {w : World} {base : Nat} {ok : Nat → Prop} {x : S90} {cs : List Value} (h : k90.M w base ok x cs) : cs = [.int .i64 x.f0,.int .i64 x.f1,.int .i64 x.f2,.int .i64 x.f3]:=by
 obtain ⟨_,_,rfl,rfl,⟨_,_,rfl,rfl,⟨_,_,rfl,rfl,rfl⟩⟩⟩:=h;exact rfl
theorem k90_mk (w : World) (x : S90)  : k90.K w x [.int .i64 x.f0,.int .i64 x.f1,.int .i64 x.f2,.int .i64 x.f3]:=⟨[.int .i64 x.f0],[.int .i64 x.f1,.int .i64 x.f2,.int .i64 x.f3],rfl,rfl,⟨[.int .i64 x.f1],[.int .i64 x.f2,.int .i64 x.f3],rfl,rfl,⟨[.int .i64 x.f2],[.int .i64 x.f3],rfl,rfl,rfl⟩⟩⟩
theorem k90_mkM (w : World) (base : Nat) (ok : Nat → Prop) (x : S90)  : k90.M w base ok x [.int .i64 x.f0,.int .i64 x.f1,.int .i64 x.f2,.int .i64 x.f3]:=⟨[.int .i64 x.f0],[.int .i64 x.f1,.int .i64 x.f2,.int .i64 x.f3],rfl,rfl,⟨[.int .i64 x.f1],[.int .i64 x.f2,.int .i64 x.f3],rfl,rfl,⟨[.int .i64 x.f2],[.int .i64 x.f3],rfl,rfl,rfl⟩⟩⟩
theorem k90_mkF (W : World) (ok : Nat → Prop) (x : S90) : Kd.FK k90 W ok x [.int .i64 x.f0,.int .i64 x.f1,.int .i64 x.f2,.int .i64 x.f3]:=fun W2 _=>k90_mk W2 x
def rd_T90 (xs : List S90) (i : Int) : S90:=xs.getD i.toNat z90
theorem at_T90 {w : World} {A : Option Addr} {n : Nat} {xs : List S90} (h : Kd.C k90 w A n xs) (i : Int) (h0 : 0 ≤ i) (h1 : i < n) : ∃ ad ,A = some ad ∧ w.cell? (ad.add (i.toNat * 4)) = some (.int .i64 (rd_T90 xs i).f0) ∧ w.cell? ⟨(ad.add (i.toNat * 4)).block,(ad.add (i.toNat * 4)).off + 1,none⟩ = some (.int .i64 (rd_T90 xs i).f1) ∧ w.cell? ⟨(ad.add (i.toNat * 4)).block,(ad.add (i.toNat * 4)).off + 2,none⟩ = some (.int .i64 (rd_T90 xs i).f2) ∧ w.cell? ⟨(ad.add (i.toNat * 4)).block,(ad.add (i.toNat * 4)).off + 3,none⟩ = some (.int .i64 (rd_T90 xs i).f3):=by
 obtain ⟨ad,c,e,_,hK,hc0⟩:=Kd.C_get h z90 i h0 h1;have hc : ∀ j u,c[j]? = some u → w.cell? (ad.add (i.toNat * 4 + j)) = some u:=hc0;obtain rfl:=k90_open hK;exact ⟨ad,e,hc 0 _ rfl,by rw [← add_field _ _ 1 (by omega)];exact hc 1 _ rfl,by rw [← add_field _ _ 2 (by omega)];exact hc 2 _ rfl,by rw [← add_field _ _ 3 (by omega)];exact hc 3 _ rfl⟩
structure S33 where
 f0 : Int
 f1 : Int
 f2 : Int
 f3 : Int
 f4 : Int
 f5 : ByteArray
def z33 : S33:=⟨(0 : Int),(0 : Int),(0 : Int),(0 : Int),(0 : Int),(⟨#[]⟩ : ByteArray)⟩
def k33 : Kd S33:=Kd.iso (Kd.pair (Kd.int .i64) (Kd.pair (Kd.int .i64) (Kd.pair (Kd.int .i64) (Kd.pair (Kd.int .i64) (Kd.pair (Kd.int .i64) Kd.string))))) (fun x : S33=>(x.f0,x.f1,x.f2,x.f3,x.f4,x.f5))
theorem k33_open {w : World} {x : S33} {cs : List Value} (h : k33.K w x cs) : cs = [.int .i64 x.f0,.int .i64 x.f1,.int .i64 x.f2,.int .i64 x.f3,.int .i64 x.f4,.string x.f5]:=by
 obtain ⟨_,_,rfl,rfl,⟨_,_,rfl,rfl,⟨_,_,rfl,rfl,⟨_,_,rfl,rfl,⟨_,_,rfl,rfl,rfl⟩⟩⟩⟩⟩:=h;exact rfl
theorem k33_openM {w : World} {base : Nat} {ok : Nat → Prop} {x : S33} {cs : List Value} (h : k33.M w base ok x cs) : cs = [.int .i64 x.f0,.int .i64 x.f1,.int .i64 x.f2,.int .i64 x.f3,.int .i64 x.f4,.string x.f5]:=by
 obtain ⟨_,_,rfl,rfl,⟨_,_,rfl,rfl,⟨_,_,rfl,rfl,⟨_,_,rfl,rfl,⟨_,_,rfl,rfl,rfl⟩⟩⟩⟩⟩:=h;exact rfl
theorem k33_mk (w : World) (x : S33)  : k33.K w x [.int .i64 x.f0,.int .i64 x.f1,.int .i64 x.f2,.int .i64 x.f3,.int .i64 x.f4,.string x.f5]:=⟨[.int .i64 x.f0],[.int .i64 x.f1,.int .i64 x.f2,.int .i64 x.f3,.int .i64 x.f4,.string x.f5],rfl,rfl,⟨[.int .i64 x.f1],[.int .i64 x.f2,.int .i64 x.f3,.int .i64 x.f4,.string x.f5],rfl,rfl,⟨[.int .i64 x.f2],[.int .i64 x.f3,.int .i64 x.f4,.string x.f5],rfl,rfl,⟨[.int .i64 x.f3],[.int .i64 x.f4,.string x.f5],rfl,rfl,⟨[.int .i64 x.f4],[.string x.f5],rfl,rfl,rfl⟩⟩⟩⟩⟩
theorem k33_mkM (w : World) (base : Nat) (ok : Nat → Prop) (x : S33)  : k33.M w base ok x [.int .i64 x.f0,.int .i64 x.f1,.int .i64 x.f2,.int .i64 x.f3,.int .i64 x.f4,.string x.f5]:=⟨[.int .i64 x.f0],[.int .i64 x.f1,.int .i64 x.f2,.int .i64 x.f3,.int .i64 x.f4,.string x.f5],rfl,rfl,⟨[.int .i64 x.f1],[.int .i64 x.f2,.int .i64 x.f3,.int .i64 x.f4,.string x.f5],rfl,rfl,⟨[.int .i64 x.f2],[.int .i64 x.f3,.int .i64 x.f4,.string x.f5],rfl,rfl,⟨[.int .i64 x.f3],[.int .i64 x.f4,.string x.f5],rfl,rfl,⟨[.int .i64 x.f4],[.string x.f5],rfl,rfl,rfl⟩⟩⟩⟩⟩
theorem k33_mkF (W : World) (ok : Nat → Prop) (x : S33) : Kd.FK k33 W ok x [.int .i64 x.f0,.int .i64 x.f1,.int .i64 x.f2,.int .i64 x.f3,.int .i64 x.f4,.string x.f5]:=fun W2 _=>k33_mk W2 x
def rd_T33 (xs : List S33) (i : Int) : S33:=xs.getD i.toNat z33
theorem at_T33 {w : World} {A : Option Addr} {n : Nat} {xs : List S33} (h : Kd.C k33 w A n xs) (i : Int) (h0 : 0 ≤ i) (h1 : i < n) : ∃ ad ,A = some ad ∧ w.cell? (ad.add (i.toNat * 6)) = some (.int .i64 (rd_T33 xs i).f0) ∧ w.cell? ⟨(ad.add (i.toNat * 6)).block,(ad.add (i.toNat * 6)).off + 1,none⟩ = some (.int .i64 (rd_T33 xs i).f1) ∧ w.cell? ⟨(ad.add (i.toNat * 6)).block,(ad.add (i.toNat * 6)).off + 2,none⟩ = some (.int .i64 (rd_T33 xs i).f2) ∧ w.cell? ⟨(ad.add (i.toNat * 6)).block,(ad.add (i.toNat * 6)).off + 3,none⟩ = some (.int .i64 (rd_T33 xs i).f3) ∧ w.cell? ⟨(ad.add (i.toNat * 6)).block,(ad.add (i.toNat * 6)).off + 4,none⟩ = some (.int .i64 (rd_T33 xs i).f4) ∧ w.cell? ⟨(ad.add (i.toNat * 6)).block,(ad.add (i.toNat * 6)).off + 5,none⟩ = some (.string (rd_T33 xs i).f5):=by
 obtain ⟨ad,c,e,_,hK,hc0⟩:=Kd.C_get h z33 i h0 h1;have hc : ∀ j u,c[j]? = some u → w.cell? (ad.add (i.toNat * 6 + j)) = some u:=hc0;obtain rfl:=k33_open hK;exact ⟨ad,e,hc 0 _ rfl,by rw [← add_field _ _ 1 (by omega)];exact hc 1 _ rfl,by rw [← add_field _ _ 2 (by omega)];exact hc 2 _ rfl,by rw [← add_field _ _ 3 (by omega)];exact hc 3 _ rfl,by rw [← add_field _ _ 4 (by omega)];exact hc 4 _ rfl,by rw [← add_field _ _ 5 (by omega)];exact hc 5 _ rfl⟩
structure S36 where
 f0 : Int
 f1 : Int
 f2 : S33
def z36 : S36:=⟨(0 : Int),(0 : Int),z33⟩
def k36 : Kd S36:=Kd.iso (Kd.pair (Kd.int .i64) (Kd.pair (Kd.int .i64) k33)) (fun x : S36=>(x.f0,x.f1,x.f2))
theorem k36_open {w : World} {x : S36} {cs : List Value} (h : k36.K w x cs) : cs = [.int .i64 x.f0,.int .i64 x.f1,.int .i64 x.f2.f0,.int .i64 x.f2.f1,.int .i64 x.f2.f2,.int .i64 x.f2.f3,.int .i64 x.f2.f4,.string x.f2.f5]:=by
 obtain ⟨_,_,rfl,rfl,⟨_,_,rfl,rfl,s2⟩⟩:=h;obtain rfl:=k33_open s2;exact rfl
theorem k36_openM {w : World} {base : Nat} {ok : Nat → Prop} {x : S36} {cs : List Value} (h : k36.M w base ok x cs) : cs = [.int .i64 x.f0,.int .i64 x.f1,.int .i64 x.f2.f0,.int .i64 x.f2.f1,.int .i64 x.f2.f2,.int .i64 x.f2.f3,.int .i64 x.f2.f4,.string x.f2.f5]:=by
 obtain ⟨_,_,rfl,rfl,⟨_,_,rfl,rfl,s2⟩⟩:=h;obtain rfl:=k33_openM s2;exact rfl
theorem k36_mk (w : World) (x : S36)  : k36.K w x [.int .i64 x.f0,.int .i64 x.f1,.int .i64 x.f2.f0,.int .i64 x.f2.f1,.int .i64 x.f2.f2,.int .i64 x.f2.f3,.int .i64 x.f2.f4,.string x.f2.f5]:=⟨[.int .i64 x.f0],[.int .i64 x.f1,.int .i64 x.f2.f0,.int .i64 x.f2.f1,.int .i64 x.f2.f2,.int .i64 x.f2.f3,.int .i64 x.f2.f4,.string x.f2.f5],rfl,rfl,⟨[.int .i64 x.f1],[.int .i64 x.f2.f0,.int .i64 x.f2.f1,.int .i64 x.f2.f2,.int .i64 x.f2.f3,.int .i64 x.f2.f4,.string x.f2.f5],rfl,rfl,(k33_mk w x.f2 )⟩⟩
theorem k36_mkM (w : World) (base : Nat) (ok : Nat → Prop) (x : S36)  : k36.M w base ok x [.int .i64 x.f0,.int .i64 x.f1,.int .i64 x.f2.f0,.int .i64 x.f2.f1,.int .i64 x.f2.f2,.int .i64 x.f2.f3,.int .i64 x.f2.f4,.string x.f2.f5]:=⟨[.int .i64 x.f0],[.int .i64 x.f1,.int .i64 x.f2.f0,.int .i64 x.f2.f1,.int .i64 x.f2.f2,.int .i64 x.f2.f3,.int .i64 x.f2.f4,.string x.f2.f5],rfl,rfl,⟨[.int .i64 x.f1],[.int .i64 x.f2.f0,.int .i64 x.f2.f1,.int .i64 x.f2.f2,.int .i64 x.f2.f3,.int .i64 x.f2.f4,.string x.f2.f5],rfl,rfl,(k33_mkM w base ok x.f2 )⟩⟩
theorem k36_mkF (W : World) (ok : Nat → Prop) (x : S36) : Kd.FK k36 W ok x [.int .i64 x.f0,.int .i64 x.f1,.int .i64 x.f2.f0,.int .i64 x.f2.f1,.int .i64 x.f2.f2,.int .i64 x.f2.f3,.int .i64 x.f2.f4,.string x.f2.f5]:=fun W2 _=>k36_mk W2 x
def rd_T36 (xs : List S36) (i : Int) : S36:=xs.getD i.toNat z36
theorem at_T36 {w : World} {A : Option Addr} {n : Nat} {xs : List S36} (h : Kd.C k36 w A n xs) (i : Int) (h0 : 0 ≤ i) (h1 : i < n) : ∃ ad ,A = some ad ∧ w.cell? (ad.add (i.toNat * 8)) = some (.int .i64 (rd_T36 xs i).f0) ∧ w.cell? ⟨(ad.add (i.toNat * 8)).block,(ad.add (i.toNat * 8)).off + 1,none⟩ = some (.int .i64 (rd_T36 xs i).f1) ∧ w.cell? ⟨(ad.add (i.toNat * 8)).block,(ad.add (i.toNat * 8)).off + 2,none⟩ = some (.int .i64 (rd_T36 xs i).f2.f0) ∧ w.cell? ⟨(ad.add (i.toNat * 8)).block,(ad.add (i.toNat * 8)).off + 3,none⟩ = some (.int .i64 (rd_T36 xs i).f2.f1) ∧ w.cell? ⟨(ad.add (i.toNat * 8)).block,(ad.add (i.toNat * 8)).off + 4,none⟩ = some (.int .i64 (rd_T36 xs i).f2.f2) ∧ w.cell? ⟨(ad.add (i.toNat * 8)).block,(ad.add (i.toNat * 8)).off + 5,none⟩ = some (.int .i64 (rd_T36 xs i).f2.f3) ∧ w.cell? ⟨(ad.add (i.toNat * 8)).block,(ad.add (i.toNat * 8)).off + 6,none⟩ = some (.int .i64 (rd_T36 xs i).f2.f4) ∧ w.cell? ⟨(ad.add (i.toNat * 8)).block,(ad.add (i.toNat * 8)).off + 7,none⟩ = some (.string (rd_T36 xs i).f2.f5):=by
 obtain ⟨ad,c,e,_,hK,hc0⟩:=Kd.C_get h z36 i h0 h1;have hc : ∀ j u,c[j]? = some u → w.cell? (ad.add (i.toNat * 8 + j)) = some u:=hc0;obtain rfl:=k36_open hK;exact ⟨ad,e,hc 0 _ rfl,by rw [← add_field _ _ 1 (by omega)];exact hc 1 _ rfl,by rw [← add_field _ _ 2 (by omega)];exact hc 2 _ rfl,by rw [← add_field _ _ 3 (by omega)];exact hc 3 _ rfl,by rw [← add_field _ _ 4 (by omega)];exact hc 4 _ rfl,by rw [← add_field _ _ 5 (by omega)];exact hc 5 _ rfl,by rw [← add_field _ _ 6 (by omega)];exact hc 6 _ rfl,by rw [← add_field _ _ 7 (by omega)];exact hc 7 _ rfl⟩
def rd_L7 (xs : List (List Int)) (i : Int) : (List Int):=xs.getD i.toNat ([] : List Int)
theorem at_L7 {w : World} {A : Option Addr} {n : Nat} {xs : List (List Int)} (h : Kd.C (Kd.slice 3 (Kd.int .i64)) w A n xs) (i : Int) (h0 : 0 ≤ i) (h1 : i < n) : ∃ ad A0 c0,A = some ad ∧ w.cell? (ad.add i.toNat) = some (.slice A0 (rd_L7 xs i).length c0) ∧ (rd_L7 xs i).length ≤ c0 ∧ (Kd.int .i64).C w A0 (rd_L7 xs i).length (rd_L7 xs i):=by
 obtain ⟨ad,c,e,_,hK,hc0⟩:=Kd.C_get h ([] : List Int) i h0 h1;have hc : ∀ j u,c[j]? = some u → w.cell? (ad.add (i.toNat * 1 + j)) = some u:=hc0;obtain ⟨A0,c0,rfl,l0,g0⟩:=hK;exact ⟨ad,A0,c0,e,by have hq:=hc 0 _ rfl;rwa [Nat.mul_one,Nat.add_zero] at hq,l0,g0⟩
structure S133 where
 f0 : Bool
 f1 : (List Int)
def z133 : S133:=⟨false,([] : List Int)⟩
def k133 : Kd S133:=Kd.iso (Kd.pair Kd.bool (Kd.slice 3 (Kd.int .i64))) (fun x : S133=>(x.f0,x.f1))
theorem k133_open {w : World} {x : S133} {cs : List Value} (h : k133.K w x cs) : ∃ A1 c1,cs = [.bool x.f0,.slice A1 x.f1.length c1] ∧ x.f1.length ≤ c1 ∧ (Kd.int .i64).C w A1 x.f1.length x.f1:=by
 obtain ⟨_,_,rfl,rfl,⟨A1,c1,rfl,l1,g1⟩⟩:=h;exact ⟨A1,c1,rfl,l1,g1⟩
theorem k133_openM {w : World} {base : Nat} {ok : Nat → Prop} {x : S133} {cs : List Value} (h : k133.M w base ok x cs) : ∃ v1,cs = [.bool x.f0,v1] ∧ (Kd.int .i64).R 3 w base ok v1 x.f1:=by
 obtain ⟨_,_,rfl,rfl,⟨v1,rfl,g1⟩⟩:=h;exact ⟨v1,rfl,g1⟩
theorem k133_mk (w : World) (x : S133) {A1 : Option Addr} {c1 : Nat} (l1 : x.f1.length ≤ c1) (g1 : (Kd.int .i64).C w A1 x.f1.length x.f1) : k133.K w x [.bool x.f0,.slice A1 x.f1.length c1]:=⟨[.bool x.f0],[.slice A1 x.f1.length c1],rfl,rfl,⟨A1,c1,rfl,l1,g1⟩⟩
theorem k133_mkM (w : World) (base : Nat) (ok : Nat → Prop) (x : S133) {v1 : Value} (g1 : (Kd.int .i64).R 3 w base ok v1 x.f1) : k133.M w base ok x [.bool x.f0,v1]:=⟨[.bool x.f0],[v1],rfl,rfl,⟨v1,rfl,g1⟩⟩
theorem k133_openF {W : World} {ok : Nat → Prop} {x : S133} {cs : List Value} (h : Kd.FK k133 W ok x cs) : ∃ A1 c1,cs = [.bool x.f0,.slice A1 x.f1.length c1] ∧ x.f1.length ≤ c1 ∧ Kd.F (Kd.int .i64) W ok A1 x.f1.length x.f1:=by
 obtain ⟨A1,c1,rfl,l1,_⟩:=k133_open (Kd.FK_now h);exact ⟨A1,c1,rfl,l1,(fun W' hW=>by obtain ⟨A1_,c1_,he,l1_,g1_⟩:=k133_open (h W' hW);injection (Option.some.inj (show some (Value.slice A1 x.f1.length c1) = some (Value.slice A1_ x.f1.length c1_) from congrArg (fun l=>l[1]?) he)) with ha_ _ _;rw [ha_];exact g1_)⟩
theorem k133_mkF (W : World) (ok : Nat → Prop) (x : S133) {A1 : Option Addr} {c1 : Nat} (l1 : x.f1.length ≤ c1) (g1 : Kd.F (Kd.int .i64) W ok A1 x.f1.length x.f1) : Kd.FK k133 W ok x [.bool x.f0,.slice A1 x.f1.length c1]:=fun W2 hW=>k133_mk W2 x l1 (g1 W2 hW)
def rd_T133 (xs : List S133) (i : Int) : S133:=xs.getD i.toNat z133
theorem at_T133 {w : World} {A : Option Addr} {n : Nat} {xs : List S133} (h : Kd.C k133 w A n xs) (i : Int) (h0 : 0 ≤ i) (h1 : i < n) : ∃ ad A1 c1,A = some ad ∧ w.cell? (ad.add (i.toNat * 2)) = some (.bool (rd_T133 xs i).f0) ∧ w.cell? ⟨(ad.add (i.toNat * 2)).block,(ad.add (i.toNat * 2)).off + 1,none⟩ = some (.slice A1 (rd_T133 xs i).f1.length c1) ∧ (rd_T133 xs i).f1.length ≤ c1 ∧ (Kd.int .i64).C w A1 (rd_T133 xs i).f1.length (rd_T133 xs i).f1:=by
 obtain ⟨ad,c,e,_,hK,hc0⟩:=Kd.C_get h z133 i h0 h1;have hc : ∀ j u,c[j]? = some u → w.cell? (ad.add (i.toNat * 2 + j)) = some u:=hc0;obtain ⟨A1,c1,rfl,l1,g1⟩:=k133_open hK;exact ⟨ad,A1,c1,e,hc 0 _ rfl,by rw [← add_field _ _ 1 (by omega)];exact hc 1 _ rfl,l1,g1⟩
structure S175 where
 f0 : Bool
 f1 : (List Int)
def z175 : S175:=⟨false,([] : List Int)⟩
def k175 : Kd S175:=Kd.iso (Kd.pair Kd.bool (Kd.slice 3 (Kd.int .i64))) (fun x : S175=>(x.f0,x.f1))
theorem k175_open {w : World} {x : S175} {cs : List Value} (h : k175.K w x cs) : ∃ A1 c1,cs = [.bool x.f0,.slice A1 x.f1.length c1] ∧ x.f1.length ≤ c1 ∧ (Kd.int .i64).C w A1 x.f1.length x.f1:=by
 obtain ⟨_,_,rfl,rfl,⟨A1,c1,rfl,l1,g1⟩⟩:=h;exact ⟨A1,c1,rfl,l1,g1⟩
theorem k175_openM {w : World} {base : Nat} {ok : Nat → Prop} {x : S175} {cs : List Value} (h : k175.M w base ok x cs) : ∃ v1,cs = [.bool x.f0,v1] ∧ (Kd.int .i64).R 3 w base ok v1 x.f1:=by
 obtain ⟨_,_,rfl,rfl,⟨v1,rfl,g1⟩⟩:=h;exact ⟨v1,rfl,g1⟩
theorem k175_mk (w : World) (x : S175) {A1 : Option Addr} {c1 : Nat} (l1 : x.f1.length ≤ c1) (g1 : (Kd.int .i64).C w A1 x.f1.length x.f1) : k175.K w x [.bool x.f0,.slice A1 x.f1.length c1]:=⟨[.bool x.f0],[.slice A1 x.f1.length c1],rfl,rfl,⟨A1,c1,rfl,l1,g1⟩⟩
theorem k175_mkM (w : World) (base : Nat) (ok : Nat → Prop) (x : S175) {v1 : Value} (g1 : (Kd.int .i64).R 3 w base ok v1 x.f1) : k175.M w base ok x [.bool x.f0,v1]:=⟨[.bool x.f0],[v1],rfl,rfl,⟨v1,rfl,g1⟩⟩
theorem k175_openF {W : World} {ok : Nat → Prop} {x : S175} {cs : List Value} (h : Kd.FK k175 W ok x cs) : ∃ A1 c1,cs = [.bool x.f0,.slice A1 x.f1.length c1] ∧ x.f1.length ≤ c1 ∧ Kd.F (Kd.int .i64) W ok A1 x.f1.length x.f1:=by
 obtain ⟨A1,c1,rfl,l1,_⟩:=k175_open (Kd.FK_now h);exact ⟨A1,c1,rfl,l1,(fun W' hW=>by obtain ⟨A1_,c1_,he,l1_,g1_⟩:=k175_open (h W' hW);injection (Option.some.inj (show some (Value.slice A1 x.f1.length c1) = some (Value.slice A1_ x.f1.length c1_) from congrArg (fun l=>l[1]?) he)) with ha_ _ _;rw [ha_];exact g1_)⟩
theorem k175_mkF (W : World) (ok : Nat → Prop) (x : S175) {A1 : Option Addr} {c1 : Nat} (l1 : x.f1.length ≤ c1) (g1 : Kd.F (Kd.int .i64) W ok A1 x.f1.length x.f1) : Kd.FK k175 W ok x [.bool x.f0,.slice A1 x.f1.length c1]:=fun W2 hW=>k175_mk W2 x l1 (g1 W2 hW)
def rd_T175 (xs : List S175) (i : Int) : S175:=xs.getD i.toNat z175
theorem at_T175 {w : World} {A : Option Addr} {n : Nat} {xs : List S175} (h : Kd.C k175 w A n xs) (i : Int) (h0 : 0 ≤ i) (h1 : i < n) : ∃ ad A1 c1,A = some ad ∧ w.cell? (ad.add (i.toNat * 2)) = some (.bool (rd_T175 xs i).f0) ∧ w.cell? ⟨(ad.add (i.toNat * 2)).block,(ad.add (i.toNat * 2)).off + 1,none⟩ = some (.slice A1 (rd_T175 xs i).f1.length c1) ∧ (rd_T175 xs i).f1.length ≤ c1 ∧ (Kd.int .i64).C w A1 (rd_T175 xs i).f1.length (rd_T175 xs i).f1:=by
 obtain ⟨ad,c,e,_,hK,hc0⟩:=Kd.C_get h z175 i h0 h1;have hc : ∀ j u,c[j]? = some u → w.cell? (ad.add (i.toNat * 2 + j)) = some u:=hc0;obtain ⟨A1,c1,rfl,l1,g1⟩:=k175_open hK;exact ⟨ad,A1,c1,e,hc 0 _ rfl,by rw [← add_field _ _ 1 (by omega)];exact hc 1 _ rfl,l1,g1⟩
structure S142 where
 f0 : Int
 f1 : ByteArray
def z142 : S142:=⟨(0 : Int),(⟨#[]⟩ : ByteArray)⟩
def k142 : Kd S142:=Kd.iso (Kd.pair (Kd.int .i64) Kd.string) (fun x : S142=>(x.f0,x.f1))
theorem k142_open {w : World} {x : S142} {cs : List Value} (h : k142.K w x cs) : cs = [.int .i64 x.f0,.string x.f1]:=by
 obtain ⟨_,_,rfl,rfl,rfl⟩:=h;exact rfl
theorem k142_openM {w : World} {base : Nat} {ok : Nat → Prop} {x : S142} {cs : List Value} (h : k142.M w base ok x cs) : cs = [.int .i64 x.f0,.string x.f1]:=by
 obtain ⟨_,_,rfl,rfl,rfl⟩:=h;exact rfl
theorem k142_mk (w : World) (x : S142)  : k142.K w x [.int .i64 x.f0,.string x.f1]:=⟨[.int .i64 x.f0],[.string x.f1],rfl,rfl,rfl⟩
theorem k142_mkM (w : World) (base : Nat) (ok : Nat → Prop) (x : S142)  : k142.M w base ok x [.int .i64 x.f0,.string x.f1]:=⟨[.int .i64 x.f0],[.string x.f1],rfl,rfl,rfl⟩
theorem k142_mkF (W : World) (ok : Nat → Prop) (x : S142) : Kd.FK k142 W ok x [.int .i64 x.f0,.string x.f1]:=fun W2 _=>k142_mk W2 x
def rd_T142 (xs : List S142) (i : Int) : S142:=xs.getD i.toNat z142
theorem at_T142 {w : World} {A : Option Addr} {n : Nat} {xs : List S142} (h : Kd.C k142 w A n xs) (i : Int) (h0 : 0 ≤ i) (h1 : i < n) : ∃ ad ,A = some ad ∧ w.cell? (ad.add (i.toNat * 2)) = some (.int .i64 (rd_T142 xs i).f0) ∧ w.cell? ⟨(ad.add (i.toNat * 2)).block,(ad.add (i.toNat * 2)).off + 1,none⟩ = some (.string (rd_T142 xs i).f1):=by
 obtain ⟨ad,c,e,_,hK,hc0⟩:=Kd.C_get h z142 i h0 h1;have hc : ∀ j u,c[j]? = some u → w.cell? (ad.add (i.toNat * 2 + j)) = some u:=hc0;obtain rfl:=k142_open hK;exact ⟨ad,e,hc 0 _ rfl,by rw [← add_field _ _ 1 (by omega)];exact hc 1 _ rfl⟩
def rd_L11 (xs : List (List S142)) (i : Int) : (List S142):=xs.getD i.toNat ([] : List S142)
theorem at_L11 {w : World} {A : Option Addr} {n : Nat} {xs : List (List S142)} (h : Kd.C (Kd.slice 142 k142) w A n xs) (i : Int) (h0 : 0 ≤ i) (h1 : i < n) : ∃ ad A0 c0,A = some ad ∧ w.cell? (ad.add i.toNat) = some (.slice A0 (rd_L11 xs i).length c0) ∧ (rd_L11 xs i).length ≤ c0 ∧ k142.C w A0 (rd_L11 xs i).length (rd_L11 xs i):=by
 obtain ⟨ad,c,e,_,hK,hc0⟩:=Kd.C_get h ([] : List S142) i h0 h1;have hc : ∀ j u,c[j]? = some u → w.cell? (ad.add (i.toNat * 1 + j)) = some u:=hc0;obtain ⟨A0,c0,rfl,l0,g0⟩:=hK;exact ⟨ad,A0,c0,e,by have hq:=hc 0 _ rfl;rwa [Nat.mul_one,Nat.add_zero] at hq,l0,g0⟩
structure S71 where
 f0 : Bool
 f1 : Int
 f2 : (List S142)
def z71 : S71:=⟨false,(0 : Int),([] : List S142)⟩
def k71 : Kd S71:=Kd.iso (Kd.pair Kd.bool (Kd.pair (Kd.int .i64) (Kd.slice 142 k142))) (fun x : S71=>(x.f0,x.f1,x.f2))
theorem k71_open {w : World} {x : S71} {cs : List Value} (h : k71.K w x cs) : ∃ A2 c2,cs = [.bool x.f0,.int .i64 x.f1,.slice A2 x.f2.length c2] ∧ x.f2.length ≤ c2 ∧ k142.C w A2 x.f2.length x.f2:=by
 obtain ⟨_,_,rfl,rfl,⟨_,_,rfl,rfl,⟨A2,c2,rfl,l2,g2⟩⟩⟩:=h;exact ⟨A2,c2,rfl,l2,g2⟩
theorem k71_openM {w : World} {base : Nat} {ok : Nat → Prop} {x : S71} {cs : List Value} (h : k71.M w base ok x cs) : ∃ v2,cs = [.bool x.f0,.int .i64 x.f1,v2] ∧ k142.R 142 w base ok v2 x.f2:=by
 obtain ⟨_,_,rfl,rfl,⟨_,_,rfl,rfl,⟨v2,rfl,g2⟩⟩⟩:=h;exact ⟨v2,rfl,g2⟩
theorem k71_mk (w : World) (x : S71) {A2 : Option Addr} {c2 : Nat} (l2 : x.f2.length ≤ c2) (g2 : k142.C w A2 x.f2.length x.f2) : k71.K w x [.bool x.f0,.int .i64 x.f1,.slice A2 x.f2.length c2]:=⟨[.bool x.f0],[.int .i64 x.f1,.slice A2 x.f2.length c2],rfl,rfl,⟨[.int .i64 x.f1],[.slice A2 x.f2.length c2],rfl,rfl,⟨A2,c2,rfl,l2,g2⟩⟩⟩
theorem k71_mkM (w : World) (base : Nat) (ok : Nat → Prop) (x : S71) {v2 : Value} (g2 : k142.R 142 w base ok v2 x.f2) : k71.M w base ok x [.bool x.f0,.int .i64 x.f1,v2]:=⟨[.bool x.f0],[.int .i64 x.f1,v2],rfl,rfl,⟨[.int .i64 x.f1],[v2],rfl,rfl,⟨v2,rfl,g2⟩⟩⟩
theorem k71_openF {W : World} {ok : Nat → Prop} {x : S71} {cs : List Value} (h : Kd.FK k71 W ok x cs) : ∃ A2 c2,cs = [.bool x.f0,.int .i64 x.f1,.slice A2 x.f2.length c2] ∧ x.f2.length ≤ c2 ∧ Kd.F k142 W ok A2 x.f2.length x.f2:=by
 obtain ⟨A2,c2,rfl,l2,_⟩:=k71_open (Kd.FK_now h);exact ⟨A2,c2,rfl,l2,(fun W' hW=>by obtain ⟨A2_,c2_,he,l2_,g2_⟩:=k71_open (h W' hW);injection (Option.some.inj (show some (Value.slice A2 x.f2.length c2) = some (Value.slice A2_ x.f2.length c2_) from congrArg (fun l=>l[2]?) he)) with ha_ _ _;rw [ha_];exact g2_)⟩
theorem k71_mkF (W : World) (ok : Nat → Prop) (x : S71) {A2 : Option Addr} {c2 : Nat} (l2 : x.f2.length ≤ c2) (g2 : Kd.F k142 W ok A2 x.f2.length x.f2) : Kd.FK k71 W ok x [.bool x.f0,.int .i64 x.f1,.slice A2 x.f2.length c2]:=fun W2 hW=>k71_mk W2 x l2 (g2 W2 hW)
def rd_T71 (xs : List S71) (i : Int) : S71:=xs.getD i.toNat z71
theorem at_T71 {w : World} {A : Option Addr} {n : Nat} {xs : List S71} (h : Kd.C k71 w A n xs) (i : Int) (h0 : 0 ≤ i) (h1 : i < n) : ∃ ad A2 c2,A = some ad ∧ w.cell? (ad.add (i.toNat * 3)) = some (.bool (rd_T71 xs i).f0) ∧ w.cell? ⟨(ad.add (i.toNat * 3)).block,(ad.add (i.toNat * 3)).off + 1,none⟩ = some (.int .i64 (rd_T71 xs i).f1) ∧ w.cell? ⟨(ad.add (i.toNat * 3)).block,(ad.add (i.toNat * 3)).off + 2,none⟩ = some (.slice A2 (rd_T71 xs i).f2.length c2) ∧ (rd_T71 xs i).f2.length ≤ c2 ∧ k142.C w A2 (rd_T71 xs i).f2.length (rd_T71 xs i).f2:=by
 obtain ⟨ad,c,e,_,hK,hc0⟩:=Kd.C_get h z71 i h0 h1;have hc : ∀ j u,c[j]? = some u → w.cell? (ad.add (i.toNat * 3 + j)) = some u:=hc0;obtain ⟨A2,c2,rfl,l2,g2⟩:=k71_open hK;exact ⟨ad,A2,c2,e,hc 0 _ rfl,by rw [← add_field _ _ 1 (by omega)];exact hc 1 _ rfl,by rw [← add_field _ _ 2 (by omega)];exact hc 2 _ rfl,l2,g2⟩
structure S184 where
 f0 : Int
 f1 : Int
def z184 : S184:=⟨(0 : Int),(0 : Int)⟩
def k184 : Kd S184:=Kd.iso (Kd.pair (Kd.int .i64) (Kd.int .i64)) (fun x : S184=>(x.f0,x.f1))
theorem k184_open {w : World} {x : S184} {cs : List Value} (h : k184.K w x cs) : cs = [.int .i64 x.f0,.int .i64 x.f1]:=by
 obtain ⟨_,_,rfl,rfl,rfl⟩:=h;exact rfl
theorem k184_openM {w : World} {base : Nat} {ok : Nat → Prop} {x : S184} {cs : List Value} (h : k184.M w base ok x cs) : cs = [.int .i64 x.f0,.int .i64 x.f1]:=by
 obtain ⟨_,_,rfl,rfl,rfl⟩:=h;exact rfl
theorem k184_mk (w : World) (x : S184)  : k184.K w x [.int .i64 x.f0,.int .i64 x.f1]:=⟨[.int .i64 x.f0],[.int .i64 x.f1],rfl,rfl,rfl⟩
theorem k184_mkM (w : World) (base : Nat) (ok : Nat → Prop) (x : S184)  : k184.M w base ok x [.int .i64 x.f0,.int .i64 x.f1]:=⟨[.int .i64 x.f0],[.int .i64 x.f1],rfl,rfl,rfl⟩
theorem k184_mkF (W : World) (ok : Nat → Prop) (x : S184) : Kd.FK k184 W ok x [.int .i64 x.f0,.int .i64 x.f1]:=fun W2 _=>k184_mk W2 x
def rd_T184 (xs : List S184) (i : Int) : S184:=xs.getD i.toNat z184
theorem at_T184 {w : World} {A : Option Addr} {n : Nat} {xs : List S184} (h : Kd.C k184 w A n xs) (i : Int) (h0 : 0 ≤ i) (h1 : i < n) : ∃ ad ,A = some ad ∧ w.cell? (ad.add (i.toNat * 2)) = some (.int .i64 (rd_T184 xs i).f0) ∧ w.cell? ⟨(ad.add (i.toNat * 2)).block,(ad.add (i.toNat * 2)).off + 1,none⟩ = some (.int .i64 (rd_T184 xs i).f1):=by
 obtain ⟨ad,c,e,_,hK,hc0⟩:=Kd.C_get h z184 i h0 h1;have hc : ∀ j u,c[j]? = some u → w.cell? (ad.add (i.toNat * 2 + j)) = some u:=hc0;obtain rfl:=k184_open hK;exact ⟨ad,e,hc 0 _ rfl,by rw [← add_field _ _ 1 (by omega)];exact hc 1 _ rfl⟩
structure S147 where
 f0 : Int
 f1 : Int
def z147 : S147:=⟨(0 : Int),(0 : Int)⟩
def k147 : Kd S147:=Kd.iso (Kd.pair (Kd.int .i64) (Kd.int .i64)) (fun x : S147=>(x.f0,x.f1))
theorem k147_open {w : World} {x : S147} {cs : List Value} (h : k147.K w x cs) : cs = [.int .i64 x.f0,.int .i64 x.f1]:=by
 obtain ⟨_,_,rfl,rfl,rfl⟩:=h;exact rfl
theorem k147_openM {w : World} {base : Nat} {ok : Nat → Prop} {x : S147} {cs : List Value} (h : k147.M w base ok x cs) : cs = [.int .i64 x.f0,.int .i64 x.f1]:=by
 obtain ⟨_,_,rfl,rfl,rfl⟩:=h;exact rfl
theorem k147_mk (w : World) (x : S147)  : k147.K w x [.int .i64 x.f0,.int .i64 x.f1]:=⟨[.int .i64 x.f0],[.int .i64 x.f1],rfl,rfl,rfl⟩
theorem k147_mkM (w : World) (base : Nat) (ok : Nat → Prop) (x : S147)  : k147.M w base ok x [.int .i64 x.f0,.int .i64 x.f1]:=⟨[.int .i64 x.f0],[.int .i64 x.f1],rfl,rfl,rfl⟩
theorem k147_mkF (W : World) (ok : Nat → Prop) (x : S147) : Kd.FK k147 W ok x [.int .i64 x.f0,.int .i64 x.f1]:=fun W2 _=>k147_mk W2 x
def rd_T147 (xs : List S147) (i : Int) : S147:=xs.getD i.toNat z147
theorem at_T147 {w : World} {A : Option Addr} {n : Nat} {xs : List S147} (h : Kd.C k147 w A n xs) (i : Int) (h0 : 0 ≤ i) (h1 : i < n) : ∃ ad ,A = some ad ∧ w.cell? (ad.add (i.toNat * 2)) = some (.int .i64 (rd_T147 xs i).f0) ∧ w.cell? ⟨(ad.add (i.toNat * 2)).block,(ad.add (i.toNat * 2)).off + 1,none⟩ = some (.int .i64 (rd_T147 xs i).f1):=by
 obtain ⟨ad,c,e,_,hK,hc0⟩:=Kd.C_get h z147 i h0 h1;have hc : ∀ j u,c[j]? = some u → w.cell? (ad.add (i.toNat * 2 + j)) = some u:=hc0;obtain rfl:=k147_open hK;exact ⟨ad,e,hc 0 _ rfl,by rw [← add_field _ _ 1 (by omega)];exact hc 1 _ rfl⟩
structure S160 where
 f0 : Int
 f1 : Int
 f2 : Int
 f3 : Int
def z160 : S160:=⟨(0 : Int),(0 : Int),(0 : Int),(0 : Int)⟩
def k160 : Kd S160:=Kd.iso (Kd.pair (Kd.int .i64) (Kd.pair (Kd.int .i64) (Kd.pair (Kd.int .i64) (Kd.int .i64)))) (fun x : S160=>(x.f0,x.f1,x.f2,x.f3))
theorem k160_open {w : World} {x : S160} {cs : List Value} (h : k160.K w x cs) : cs = [.int .i64 x.f0,.int .i64 x.f1,.int .i64 x.f2,.int .i64 x.f3]:=by
 obtain ⟨_,_,rfl,rfl,⟨_,_,rfl,rfl,⟨_,_,rfl,rfl,rfl⟩⟩⟩:=h;exact rfl
theorem k160_openM {w : World} {base : Nat} {ok : Nat → Prop} {x : S160} {cs : List Value} (h : k160.M w base ok x cs) : cs = [.int .i64 x.f0,.int .i64 x.f1,.int .i64 x.f2,.int .i64 x.f3]:=by
 obtain ⟨_,_,rfl,rfl,⟨_,_,rfl,rfl,⟨_,_,rfl,rfl,rfl⟩⟩⟩:=h;exact rfl
theorem k160_mk (w : World) (x : S160)  : k160.K w x [.int .i64 x.f0,.int .i64 x.f1,.int .i64 x.f2,.int .i64 x.f3]:=⟨[.int .i64 x.f0],[.int .i64 x.f1,.int .i64 x.f2,.int .i64 x.f3],rfl,rfl,⟨[.int .i64 x.f1],[.int .i64 x.f2,.int .i64 x.f3],rfl,rfl,⟨[.int .i64 x.f2],[.int .i64 x.f3],rfl,rfl,rfl⟩⟩⟩
theorem k160_mkM (w : World) (base : Nat) (ok : Nat → Prop) (x : S160)  : k160.M w base ok x [.int .i64 x.f0,.int .i64 x.f1,.int .i64 x.f2,.int .i64 x.f3]:=⟨[.int .i64 x.f0],[.int .i64 x.f1,.int .i64 x.f2,.int .i64 x.f3],rfl,rfl,⟨[.int .i64 x.f1],[.int .i64 x.f2,.int .i64 x.f3],rfl,rfl,⟨[.int .i64 x.f2],[.int .i64 x.f3],rfl,rfl,rfl⟩⟩⟩
theorem k160_mkF (W : World) (ok : Nat → Prop) (x : S160) : Kd.FK k160 W ok x [.int .i64 x.f0,.int .i64 x.f1,.int .i64 x.f2,.int .i64 x.f3]:=fun W2 _=>k160_mk W2 x
def rd_T160 (xs : List S160) (i : Int) : S160:=xs.getD i.toNat z160
theorem at_T160 {w : World} {A : Option Addr} {n : Nat} {xs : List S160} (h : Kd.C k160 w A n xs) (i : Int) (h0 : 0 ≤ i) (h1 : i < n) : ∃ ad ,A = some ad ∧ w.cell? (ad.add (i.toNat * 4)) = some (.int .i64 (rd_T160 xs i).f0) ∧ w.cell? ⟨(ad.add (i.toNat * 4)).block,(ad.add (i.toNat * 4)).off + 1,none⟩ = some (.int .i64 (rd_T160 xs i).f1) ∧ w.cell? ⟨(ad.add (i.toNat * 4)).block,(ad.add (i.toNat * 4)).off + 2,none⟩ = some (.int .i64 (rd_T160 xs i).f2) ∧ w.cell? ⟨(ad.add (i.toNat * 4)).block,(ad.add (i.toNat * 4)).off + 3,none⟩ = some (.int .i64 (rd_T160 xs i).f3):=by
 obtain ⟨ad,c,e,_,hK,hc0⟩:=Kd.C_get h z160 i h0 h1;have hc : ∀ j u,c[j]? = some u → w.cell? (ad.add (i.toNat * 4 + j)) = some u:=hc0;obtain rfl:=k160_open hK;exact ⟨ad,e,hc 0 _ rfl,by rw [← add_field _ _ 1 (by omega)];exact hc 1 _ rfl,by rw [← add_field _ _ 2 (by omega)];exact hc 2 _ rfl,by rw [← add_field _ _ 3 (by omega)];exact hc 3 _ rfl⟩
structure S213 where
 f0 : Int
 f1 : ByteArray
def z213 : S213:=⟨(0 : Int),(⟨#[]⟩ : ByteArray)⟩
def k213 : Kd S213:=Kd.iso (Kd.pair (Kd.int .i64) Kd.string) (fun x : S213=>(x.f0,x.f1))
theorem k213_open {w : World} {x : S213} {cs : List Value} (h : k213.K w x cs) : cs = [.int .i64 x.f0,.string x.f1]:=by
 obtain ⟨_,_,rfl,rfl,rfl⟩:=h;exact rfl
theorem k213_openM {w : World} {base : Nat} {ok : Nat → Prop} {x : S213} {cs : List Value} (h : k213.M w base ok x cs) : cs = [.int .i64 x.f0,.string x.f1]:=by
 obtain ⟨_,_,rfl,rfl,rfl⟩:=h;exact rfl
theorem k213_mk (w : World) (x : S213)  : k213.K w x [.int .i64 x.f0,.string x.f1]:=⟨[.int .i64 x.f0],[.string x.f1],rfl,rfl,rfl⟩
theorem k213_mkM (w : World) (base : Nat) (ok : Nat → Prop) (x : S213)  : k213.M w base ok x [.int .i64 x.f0,.string x.f1]:=⟨[.int .i64 x.f0],[.string x.f1],rfl,rfl,rfl⟩
theorem k213_mkF (W : World) (ok : Nat → Prop) (x : S213) : Kd.FK k213 W ok x [.int .i64 x.f0,.string x.f1]:=fun W2 _=>k213_mk W2 x
def rd_T213 (xs : List S213) (i : Int) : S213:=xs.getD i.toNat z213
theorem at_T213 {w : World} {A : Option Addr} {n : Nat} {xs : List S213} (h : Kd.C k213 w A n xs) (i : Int) (h0 : 0 ≤ i) (h1 : i < n) : ∃ ad ,A = some ad ∧ w.cell? (ad.add (i.toNat * 2)) = some (.int .i64 (rd_T213 xs i).f0) ∧ w.cell? ⟨(ad.add (i.toNat * 2)).block,(ad.add (i.toNat * 2)).off + 1,none⟩ = some (.string (rd_T213 xs i).f1):=by
 obtain ⟨ad,c,e,_,hK,hc0⟩:=Kd.C_get h z213 i h0 h1;have hc : ∀ j u,c[j]? = some u → w.cell? (ad.add (i.toNat * 2 + j)) = some u:=hc0;obtain rfl:=k213_open hK;exact ⟨ad,e,hc 0 _ rfl,by rw [← add_field _ _ 1 (by omega)];exact hc 1 _ rfl⟩
def rd_L17 (xs : List (List S213)) (i : Int) : (List S213):=xs.getD i.toNat ([] : List S213)
theorem at_L17 {w : World} {A : Option Addr} {n : Nat} {xs : List (List S213)} (h : Kd.C (Kd.slice 213 k213) w A n xs) (i : Int) (h0 : 0 ≤ i) (h1 : i < n) : ∃ ad A0 c0,A = some ad ∧ w.cell? (ad.add i.toNat) = some (.slice A0 (rd_L17 xs i).length c0) ∧ (rd_L17 xs i).length ≤ c0 ∧ k213.C w A0 (rd_L17 xs i).length (rd_L17 xs i):=by
 obtain ⟨ad,c,e,_,hK,hc0⟩:=Kd.C_get h ([] : List S213) i h0 h1;have hc : ∀ j u,c[j]? = some u → w.cell? (ad.add (i.toNat * 1 + j)) = some u:=hc0;obtain ⟨A0,c0,rfl,l0,g0⟩:=hK;exact ⟨ad,A0,c0,e,by have hq:=hc 0 _ rfl;rwa [Nat.mul_one,Nat.add_zero] at hq,l0,g0⟩
structure S191 where
 f0 : Bool
 f1 : Int
 f2 : (List S213)
def z191 : S191:=⟨false,(0 : Int),([] : List S213)⟩
def k191 : Kd S191:=Kd.iso (Kd.pair Kd.bool (Kd.pair (Kd.int .i64) (Kd.slice 213 k213))) (fun x : S191=>(x.f0,x.f1,x.f2))
theorem k191_open {w : World} {x : S191} {cs : List Value} (h : k191.K w x cs) : ∃ A2 c2,cs = [.bool x.f0,.int .i64 x.f1,.slice A2 x.f2.length c2] ∧ x.f2.length ≤ c2 ∧ k213.C w A2 x.f2.length x.f2:=by
 obtain ⟨_,_,rfl,rfl,⟨_,_,rfl,rfl,⟨A2,c2,rfl,l2,g2⟩⟩⟩:=h;exact ⟨A2,c2,rfl,l2,g2⟩
theorem k191_openM {w : World} {base : Nat} {ok : Nat → Prop} {x : S191} {cs : List Value} (h : k191.M w base ok x cs) : ∃ v2,cs = [.bool x.f0,.int .i64 x.f1,v2] ∧ k213.R 213 w base ok v2 x.f2:=by
 obtain ⟨_,_,rfl,rfl,⟨_,_,rfl,rfl,⟨v2,rfl,g2⟩⟩⟩:=h;exact ⟨v2,rfl,g2⟩
theorem k191_mk (w : World) (x : S191) {A2 : Option Addr} {c2 : Nat} (l2 : x.f2.length ≤ c2) (g2 : k213.C w A2 x.f2.length x.f2) : k191.K w x [.bool x.f0,.int .i64 x.f1,.slice A2 x.f2.length c2]:=⟨[.bool x.f0],[.int .i64 x.f1,.slice A2 x.f2.length c2],rfl,rfl,⟨[.int .i64 x.f1],[.slice A2 x.f2.length c2],rfl,rfl,⟨A2,c2,rfl,l2,g2⟩⟩⟩
theorem k191_mkM (w : World) (base : Nat) (ok : Nat → Prop) (x : S191) {v2 : Value} (g2 : k213.R 213 w base ok v2 x.f2) : k191.M w base ok x [.bool x.f0,.int .i64 x.f1,v2]:=⟨[.bool x.f0],[.int .i64 x.f1,v2],rfl,rfl,⟨[.int .i64 x.f1],[v2],rfl,rfl,⟨v2,rfl,g2⟩⟩⟩
theorem k191_openF {W : World} {ok : Nat → Prop} {x : S191} {cs : List Value} (h : Kd.FK k191 W ok x cs) : ∃ A2 c2,cs = [.bool x.f0,.int .i64 x.f1,.slice A2 x.f2.length c2] ∧ x.f2.length ≤ c2 ∧ Kd.F k213 W ok A2 x.f2.length x.f2:=by
 obtain ⟨A2,c2,rfl,l2,_⟩:=k191_open (Kd.FK_now h);exact ⟨A2,c2,rfl,l2,(fun W' hW=>by obtain ⟨A2_,c2_,he,l2_,g2_⟩:=k191_open (h W' hW);injection (Option.some.inj (show some (Value.slice A2 x.f2.length c2) = some (Value.slice A2_ x.f2.length c2_) from congrArg (fun l=>l[2]?) he)) with ha_ _ _;rw [ha_];exact g2_)⟩
theorem k191_mkF (W : World) (ok : Nat → Prop) (x : S191) {A2 : Option Addr} {c2 : Nat} (l2 : x.f2.length ≤ c2) (g2 : Kd.F k213 W ok A2 x.f2.length x.f2) : Kd.FK k191 W ok x [.bool x.f0,.int .i64 x.f1,.slice A2 x.f2.length c2]:=fun W2 hW=>k191_mk W2 x l2 (g2 W2 hW)
def rd_T191 (xs : List S191) (i : Int) : S191:=xs.getD i.toNat z191
theorem at_T191 {w : World} {A : Option Addr} {n : Nat} {xs : List S191} (h : Kd.C k191 w A n xs) (i : Int) (h0 : 0 ≤ i) (h1 : i < n) : ∃ ad A2 c2,A = some ad ∧ w.cell? (ad.add (i.toNat * 3)) = some (.bool (rd_T191 xs i).f0) ∧ w.cell? ⟨(ad.add (i.toNat * 3)).block,(ad.add (i.toNat * 3)).off + 1,none⟩ = some (.int .i64 (rd_T191 xs i).f1) ∧ w.cell? ⟨(ad.add (i.toNat * 3)).block,(ad.add (i.toNat * 3)).off + 2,none⟩ = some (.slice A2 (rd_T191 xs i).f2.length c2) ∧ (rd_T191 xs i).f2.length ≤ c2 ∧ k213.C w A2 (rd_T191 xs i).f2.length (rd_T191 xs i).f2:=by
 obtain ⟨ad,c,e,_,hK,hc0⟩:=Kd.C_get h z191 i h0 h1;have hc : ∀ j u,c[j]? = some u → w.cell? (ad.add (i.toNat * 3 + j)) = some u:=hc0;obtain ⟨A2,c2,rfl,l2,g2⟩:=k191_open hK;exact ⟨ad,A2,c2,e,hc 0 _ rfl,by rw [← add_field _ _ 1 (by omega)];exact hc 1 _ rfl,by rw [← add_field _ _ 2 (by omega)];exact hc 2 _ rfl,l2,g2⟩
end Go.Proofs.Ytdolplcbokioaaa.PB

namespace Go.Proofs.Ytdolplcbokioaaa.PB
open Go.RowKit Go.Proofs.YtdolplcbokioaaaW.PrintWords Go.Proofs.YtdolplcbokioaaaW.PrintLast Go.Proofs.YtdolplcbokioaaaW.PrintMore
attribute [local go_sem] max2_int min2_int max_two min_two max_three min_three max_four min_four   -- for this text's walks alone
set_option linter.unusedVariables false
set_option linter.unusedSimpArgs false
def laws_markIntS.l0 : Nat → List Int → Int → Int → Option (Int × List Int)
 | 0,_,_,_=>none
 | k + 1,x0,x1,x5=>if x5 < (x0.length : Int) then (if 0 ≤ x5 then (laws_markIntS.l0 k (x0.set (x5 : Int).toNat x1) (wrap64 (x1 + 1)) (wrap64 (x5 + 1))) else (none)) else (some (x1,x0))
def laws_markIntS.f (k : Nat) (l0 : List Int) (a1 : Int) : Option (Int × List Int):=laws_markIntS.l0 k l0 a1 0
theorem laws_markIntS.mono_l : ∀ k,(∀ y0 y1 y2,LeO (laws_markIntS.l0 k y0 y1 y2) (laws_markIntS.l0 (k + 1) y0 y1 y2))
 | 0=>fun _ _ _ r h=>by simp [laws_markIntS.l0] at h
 | k + 1=>by
  have ih0:=laws_markIntS.mono_l k;intro y0 y1 y2;unfold laws_markIntS.l0
  repeat' first
  | (with_reducible exact ih0 _ _ _)
  | (with_reducible exact LeO.refl _)
  | (with_reducible exact LeO.none _)
  | (with_reducible refine LeO.ite ?_ ?_)
  | (with_reducible refine LeO.bind ?_ (fun _=>?_))
  | exact ih0 _ _ _
  | exact LeO.none _
  | refine LeO.ite ?_ ?_
  | refine LeO.bind ?_ (fun _=>?_)
theorem laws_markIntS.mono : ∀ a0 a1 k,LeO (laws_markIntS.f k a0 a1) (laws_markIntS.f (k + 1) a0 a1):=by
 intro a0 a1 k;have ih0:=laws_markIntS.mono_l k;unfold laws_markIntS.f
 repeat' first
   | (with_reducible exact ih0 _ _ _)
   | (with_reducible exact LeO.refl _)
   | (with_reducible exact LeO.none _)
   | (with_reducible refine LeO.ite ?_ ?_)
   | (with_reducible refine LeO.bind ?_ (fun _=>?_))
   | exact ih0 _ _ _
   | exact LeO.none _
   | refine LeO.ite ?_ ?_
   | refine LeO.bind ?_ (fun _=>?_)
set_option maxHeartbeats 8000000 in
set_option maxRecDepth 100000 in
theorem laws_markIntS.calls (k : Nat) (P0_ : Nat → Prop) (u9000_ : Value) (l0 : List Int) (a1 : Int) (r1 : Int) (r2 : List Int) (w0 w : World) (hB : Below w0.heap.size w0 w) (ho0 : Kd.R (Kd.int .i64) 3 w w0.heap.size P0_ u9000_ l0) (h : laws_markIntS.f k l0 a1 = some (r1,r2)) :
  Calls Try.prog 75 #[u9000_,.int .i64 a1] w fun e w'=>e = .returned (.int .i64 r1) ∧ Kd.R (Kd.int .i64) 3 w' w0.heap.size (fun k_=>(P0_ k_ ∨ w.heap.size ≤ k_)) u9000_ r2 ∧ Below w0.heap.size w0 w' ∧ Kept w w' (fun k_=>P0_ k_):=by
 have HO0:=Aside0.mk (show Kd.R (Kd.int .i64) 3 w w0.heap.size (fun k_=>(P0_ k_ ∨ w.heap.size ≤ k_)) u9000_ l0 from Kd.R_mono ho0 (fun k_ hk=>(.inl hk)));have HK:=Aside0.mk (Kept.refl w (fun k_=>P0_ k_));have HW0:=Aside0.mk hB.size;have HB:=Aside0.mk hB;clear hB;have H : (laws_markIntS.l0 k l0 a1 0) = some (r1,r2):=h;clear h;have H':=Aside0.mk H;clear H
 go_enter Try.func75,Try.ntmps75
 go_wp2
 go_loopg [1,5] k (fun kq v1 v5 w'=>∃ (x0_1 : List Int) (x1_1 : Int) (x5_1 : Int),v1 = .int .i64 x1_1 ∧ v5 = .int .i64 x5_1 ∧ Aside0 (laws_markIntS.l0 kq x0_1 x1_1 x5_1 = some (r1,r2)) ∧ Aside0 (kq ≤ k) ∧ Aside0 (Kd.R (Kd.int .i64) 3 w' w0.heap.size (fun k_=>(P0_ k_ ∨ w.heap.size ≤ k_)) u9000_ x0_1) ∧ Aside0 (Kept w w' (fun k_=>P0_ k_)) ∧ Aside0 (Below w0.heap.size w0 w'));case atStart=>exact ⟨(l0),(a1),(0),(by first | rfl | (simp;done) | (simp [*];done)),(by first | rfl | (simp;done) | (simp [*];done)),H',⟨Nat.le_refl _⟩,⟨rs HO0⟩,⟨by repeat (first | (with_reducible first | exact HK.out | apply Kept.alloc | apply Kept.drewN | apply Kept.drew) | exact HK.out)⟩,⟨hs HB⟩⟩
 case round =>
  clear H'
  try clear p2
  obtain ⟨x0_1,x1_1,x5_1,rfl,rfl,HA,HK1,HO_0,HK,HB⟩:=hrel;cases gk with
  | zero=>exact absurd HA.out (by simp [laws_markIntS.l0])
  | succ k1 =>
   have H:=HA.out;clear HA;simp only [laws_markIntS.l0] at H
   by_cases c3 : x5_1 < (x0_1.length : Int)
   ·rw [if_pos c3] at H;have c3b0 : decide (x5_1 < (x0_1.length : Int)) = true:=decide_eq_true c3;clear c3
    by_cases c4 : 0 ≤ x5_1
    ·rw [if_pos c4] at H;have c4b0 : decide (0 ≤ x5_1) = true:=decide_eq_true c4;clear c4;obtain ⟨y869,hy869⟩ : ∃ y_ : List Int,y_ = (x0_1.set (x5_1 : Int).toNat x1_1):=⟨_,rfl⟩;replace H : (laws_markIntS.l0 k1 y869 (wrap64 (x1_1 + 1)) (wrap64 (x5_1 + 1))) = some (r1,r2):=by first | (rw [hy869];with_reducible exact H) | (have H2_:=(Option.bind_some _ _).symm.trans H;rw [hy869];with_reducible exact H2_) | (have H2_:=(Option.bind_some _ _).symm.trans H;with_reducible exact H2_) | with_reducible exact H | (rw [hy869];exact H) | exact H
     have Ny869:=Aside0.mk hy869;clear hy869;have H':=Aside0.mk H;clear H;obtain ⟨Ao6,co6,eo6⟩:=Kd.R_slice HO_0.out;subst eo6;have p5 : 0 ≤ (x5_1 : Int):=of_decide_eq_true (by first | (with_reducible assumption) | assumption);have q5 : (x5_1 : Int) < ((x0_1.length : Int) : Int):=of_decide_eq_true (by first | (with_reducible assumption) | assumption);obtain ⟨go5,co5,eo5,gb5,gl5,cl5,HG5⟩:=Kd.R_form HO_0.out (by omega)
     (first | cases eo5 | (injection eo5 with ea_ en_ ec_;(first | subst ea_ | (injection ea_ with ea_;subst ea_));subst ec_;clear en_))
     have GB5:=Aside0.mk gb5;have GG5:=Aside0.mk HG5;clear gb5 gl5 HG5;have HMgo5:=Aside0.mk (show (P0_ go5 ∨ w.heap.size ≤ go5) from (HO_0.out.1 _ rfl));obtain ⟨hx5_0,hf5_0⟩:=Kd.R_celln 0 HO_0.out (x5_1 : Int) p5 q5;replace p5:=eq_true p5;replace q5:=eq_true q5;have HP7:=Kd.R_putg HO_0.out (x5_1 : Int) x1_1;go_wp2_with (first | ((with_reducible refine gate_store (t:=3) (p:=15) rfl ?_);refine store_event (t:=3) (p:=15) (v:=?vo_w8) (w1:=(wr.setCell ⟨go5,(x5_1 : Int).toNat,none⟩ (.int .i64 x1_1))) ?hg ?ho ?hn ?hr ?_;(case ho=>rfl);(case hg=>rfl);(case hn=>rfl);(case hr=>first | (go_simp;done) | (go_simp;rfl));intro w8 hw;have hg : wr.grownBy w8 (some go5):=(by rw [hw];exact HP7.2);have hp_ : Kd.R (Kd.int .i64) 3 w8 w0.heap.size (fun k_=>(P0_ k_ ∨ w.heap.size ≤ k_)) (.slice (some ⟨go5,0,none⟩) x0_1.length co6) y869:=(by rw [hw,Ny869.out];exact HP7.1);clear HP7;have n0_:=Aside0.mk (hp_);have n1_:=Aside0.mk ((by rw [hw];exact below_set (HB.out) GB5.out : Below w0.heap.size w0 w8));have n2_:=Aside0.mk (Kept.of_grown (S:=(fun k_=>P0_ k_)) hg (by repeat (first | (with_reducible first | exact HK.out | apply Kept.alloc | apply Kept.drewN | apply Kept.drew) | exact HK.out)) (fun k_ e_=>(HO_0.out.1 k_ e_)));clear HO_0;clear HB;clear HK;have HO_0:=n0_;have HB:=n1_;have HK:=n2_;clear n0_ n1_ n2_;clear hg hw hp_));go_roundg k1;case measure=>have:=HK1.out;omega
     case rel=>exact ⟨(y869),(wrap64 (x1_1 + 1)),(wrap64 (x5_1 + 1)),(by first | rfl | (simp;done) | (simp [*];done)),(by first | rfl | (simp;done) | (simp [*];done)),H',⟨by have:=HK1.out;omega⟩,⟨rs HO_0⟩,⟨by repeat (first | (with_reducible first | exact HK.out | apply Kept.alloc | apply Kept.drewN | apply Kept.drew) | exact HK.out)⟩,⟨hs HB⟩⟩
    rw [if_neg c4] at H;exact absurd H (by simp)
   rw [if_neg c3] at H;have c3b0 : decide (x5_1 < (x0_1.length : Int)) = false:=decide_eq_false c3;clear c3;simp only [Option.some.injEq,Prod.mk.injEq] at H;obtain ⟨rfl,rfl⟩:=H;obtain ⟨Ao9,co9,eo9⟩:=Kd.R_slice HO_0.out;subst eo9
   go_wp2
   go_ret
   exact ⟨by first | rfl | (simp [errW_none,errW_some] <;> rfl) | (simp [*,errW_none,errW_some] <;> rfl),rs HO_0,hs HB,by repeat (first | (with_reducible first | exact HK.out | apply Kept.alloc | apply Kept.drewN | apply Kept.drew) | exact HK.out)⟩
end Go.Proofs.Ytdolplcbokioaaa.PB

namespace Go.Proofs.Ytdolplcbokioaaa.PB
open Go.RowKit Go.Proofs.YtdolplcbokioaaaW.PrintWords Go.Proofs.YtdolplcbokioaaaW.PrintLast Go.Proofs.YtdolplcbokioaaaW.PrintMore
set_option linter.unusedVariables false
set_option linter.unusedSimpArgs false
def laws_markKnotS.l0 : Nat → List S133 → Int → Int → Option (Int × (List S133))
 | 0,_,_,_=>none
 | k + 1,x0,x1,x5=>if x5 < (x0.length : Int) then (if 0 ≤ x5 then ((some ((x0.set (x5 : Int).toNat (⟨(Int.tmod x1 3 == 0),(rd_T133 x0 x5).f1⟩ : S133)) : List S133)).bind fun y1=>((laws_markIntS.f k (rd_T133 y1 x5).f1 (wrap64 (x1 + 1))).bind fun b_=>(laws_markKnotS.l0 k (y1.set (x5 : Int).toNat (⟨(rd_T133 y1 x5).f0,b_.2⟩ : S133)) b_.1 (wrap64 (x5 + 1))))) else (none)) else (some (x1,x0))
def laws_markKnotS.f (k : Nat) (l0 : List S133) (a1 : Int) : Option (Int × (List S133)):=laws_markKnotS.l0 k l0 a1 0
theorem laws_markKnotS.mono_l : ∀ k,∀ y0 y1 y2,LeO (laws_markKnotS.l0 k y0 y1 y2) (laws_markKnotS.l0 (k + 1) y0 y1 y2)
 | 0=>fun _ _ _ r h=>by simp [laws_markKnotS.l0] at h
 | k + 1=>by
  have ih0:=laws_markKnotS.mono_l k;intro y0 y1 y2;unfold laws_markKnotS.l0;refine LeO.ite (LeO.ite ?_ (LeO.none _)) (LeO.refl _)
  repeat' first
   | (with_reducible exact ih0 _ _ _)
   | (with_reducible exact laws_markIntS.mono _ _ _)
   | (with_reducible exact LeO.refl _)
   | (with_reducible refine LeO.bind ?_ (fun _=>?_))
theorem laws_markKnotS.mono : ∀ a0 a1 k,LeO (laws_markKnotS.f k a0 a1) (laws_markKnotS.f (k + 1) a0 a1):=fun a0 a1 k=>laws_markKnotS.mono_l k _ _ _
set_option maxHeartbeats 8000000 in
set_option maxRecDepth 100000 in
theorem laws_markKnotS.calls (k : Nat) (P0_ : Nat → Prop) (u9000_ : Value) (l0 : List S133) (a1 : Int) (r1 : Int) (r2 : List S133) (w0 w : World) (hB : Below w0.heap.size w0 w) (ho0 : Kd.S k133 133 w w0.heap.size P0_ u9000_ l0) (h : laws_markKnotS.f k l0 a1 = some (r1,r2)) :
  Calls Try.prog 103 #[u9000_,.int .i64 a1] w fun e w'=>e = .returned (.int .i64 r1) ∧ Kd.S k133 133 w' w0.heap.size (fun k_=>(P0_ k_ ∨ w.heap.size ≤ k_)) u9000_ r2 ∧ Below w0.heap.size w0 w' ∧ Kept w w' (fun k_=>P0_ k_):=by
 have HO0:=Aside0.mk (show Kd.S k133 133 w w0.heap.size (fun k_=>(P0_ k_ ∨ w.heap.size ≤ k_)) u9000_ l0 from Kd.S_mono ho0 (fun k_ hk=>(.inl hk)));have HK:=Aside0.mk (Kept.refl w (fun k_=>P0_ k_));have HB:=Aside0.mk hB;clear hB ho0;have H':=Aside0.mk (show laws_markKnotS.l0 k l0 a1 0 = some (r1,r2) from h);clear h
 go_enter Try.func103,Try.ntmps103
 go_wp2
 go_loopg [1,5] k (fun kq v1 v5 w'=>∃ (x0_1 : List S133) (x1_1 : Int) (x5_1 : Int),v1 = .int .i64 x1_1 ∧ v5 = .int .i64 x5_1 ∧ Aside0 (laws_markKnotS.l0 kq x0_1 x1_1 x5_1 = some (r1,r2)) ∧ Aside0 (kq ≤ k) ∧ Aside0 (Kd.S k133 133 w' w0.heap.size (fun k_=>(P0_ k_ ∨ w.heap.size ≤ k_)) u9000_ x0_1) ∧ Aside0 (Kept w w' (fun k_=>P0_ k_)) ∧ Aside0 (Below w0.heap.size w0 w'));case atStart=>exact ⟨l0,a1,0,rfl,rfl,H',⟨Nat.le_refl _⟩,HO0,HK,HB⟩
 case round =>
  clear H';obtain ⟨x0_1,x1_1,x5_1,rfl,rfl,HA,HK1,HO_0,HK,HB⟩:=hrel;cases gk with
  | zero=>exact absurd HA.out (by simp [laws_markKnotS.l0])
  | succ k1 =>
   have H:=HA.out;clear HA;simp only [laws_markKnotS.l0] at H
   by_cases c3 : x5_1 < (x0_1.length : Int)
   ·rw [if_pos c3] at H;have c3b0 : decide (x5_1 < (x0_1.length : Int)) = true:=decide_eq_true c3
    by_cases c4 : 0 ≤ x5_1
    ·rw [if_pos c4] at H;have c4b0 : decide (0 ≤ x5_1) = true:=decide_eq_true c4;obtain ⟨y1,hy1⟩ : ∃ y_ : List S133,y_ = (x0_1.set (x5_1 : Int).toNat (⟨(Int.tmod x1_1 3 == 0),(rd_T133 x0_1 x5_1).f1⟩ : S133)):=⟨_,rfl⟩;replace H : ((laws_markIntS.f k1 (rd_T133 y1 x5_1).f1 (wrap64 (x1_1 + 1))).bind fun b_=>(laws_markKnotS.l0 k1 (y1.set (x5_1 : Int).toNat (⟨(rd_T133 y1 x5_1).f0,b_.2⟩ : S133)) b_.1 (wrap64 (x5_1 + 1)))) = some (r1,r2):=by rw [hy1];exact H
     have Ny1:=Aside0.mk hy1;clear hy1;obtain ⟨⟨t_,l_⟩,A0_,H⟩:=Option.bind_eq_some_iff.mp H;have A1:=Aside0.mk A0_;clear A0_;have H':=Aside0.mk (show laws_markKnotS.l0 k1 (y1.set (x5_1 : Int).toNat (⟨(rd_T133 y1 x5_1).f0,l_⟩ : S133)) t_ (wrap64 (x5_1 + 1)) = some (r1,r2) from H);clear H;obtain ⟨go5,co5,eo5,gb5,_,_⟩:=Kd.S_form HO_0.out (by omega);subst eo5;have GB5:=Aside0.mk gb5;clear gb5;have HM5:=Aside0.mk (show (P0_ go5 ∨ w.heap.size ≤ go5) from ((Kd.S_R HO_0.out).1 _ rfl));have p5:=eq_true c4;have q5:=eq_true c3;have P5:=Aside0.mk c4;have Q5:=Aside0.mk c3;clear c3 c4;obtain ⟨okia0,cea0,hcla0,hMa0,hcca0,hokia0,hHa0⟩:=Kd.S_lend HO_0.out z133 (x5_1 : Int) P5.out Q5.out;have hfra0:=(Kd.R_elem (Kd.S_R HO_0.out) z133 (x5_1 : Int) P5.out Q5.out).choose_spec.2.2.2;obtain ⟨vea0,rfl,gea0⟩:=k133_openM hMa0;have hxa0_0 : wr.cell? ⟨go5,(x5_1 : Int).toNat * 2,none⟩ = some (.bool (rd_T133 x0_1 x5_1).f0):=hcca0 0 _ rfl;have hfa0_0 : wr.frozen? ⟨go5,(x5_1 : Int).toNat * 2,none⟩ = false:=hfra0 0;have hxa0_1 : wr.cell? ⟨go5,(x5_1 : Int).toNat * 2 + 1,none⟩ = some vea0:=hcca0 1 _ rfl;have hfa0_1 : wr.frozen? ⟨go5,(x5_1 : Int).toNat * 2 + 1,none⟩ = false:=hfra0 1;clear hcla0 hMa0 hcca0 hfra0;clear hokia0 hHa0;have HP:=Kd.S_field HO_0.out z133 (x5_1 : Int) P5.out Q5.out 0 (.bool (Int.tmod x1_1 3 == 0)) (show 1 ≤ 2 from by decide) (x':=(⟨(Int.tmod x1_1 3 == 0),(rd_T133 x0_1 x5_1).f1⟩ : S133)) (fun okp c hM_=>by obtain ⟨v_,rfl,g_⟩:=k133_openM hM_;exact k133_mkM _ _ _ _ g_);have HP':=Aside0.mk HP;clear HP;go_wp2_with (first | ((with_reducible refine gate_store (t:=4) (p:=18) rfl ?_);refine store_event (t:=4) (p:=18) (v:=?vo0_) (w1:=(wr.setCell ⟨go5,(x5_1 : Int).toNat * 2,none⟩ (.bool (Int.tmod x1_1 3 == 0)))) ?hg ?ho ?hn ?hr ?_;(case ho=>rfl);(case hg=>rfl);(case hn=>rfl);(case hr=>first | (go_simp;done) | (go_simp;rfl));intro ws1 hw;have hg : wr.grownBy ws1 (some go5):=(by rw [hw];exact HP'.out.2);have n0_:=Aside0.mk (show Kd.S k133 133 ws1 w0.heap.size (fun k_=>(P0_ k_ ∨ w.heap.size ≤ k_)) (.slice (some ⟨go5,0,none⟩) x0_1.length co5) y1 from (by rw [hw,Ny1.out];exact HP'.out.1));have n1_:=Aside0.mk (show Below w0.heap.size w0 ws1 from (by rw [hw];exact below_set HB.out GB5.out));have n2_:=Aside0.mk (Kept.of_grown (S:=(fun k_=>P0_ k_)) hg HK.out (fun k_ e_=>(Kd.S_R HO_0.out).1 k_ e_));clear HO_0 HB HK HP';have HO_0:=n0_;have HB:=n1_;have HK:=n2_;clear n0_ n1_ n2_ hg hw;clear hxa0_0 hfa0_0 hxa0_1 hfa0_1;obtain ⟨okia1,cea1,hcla1,hMa1,hcca1,hokia1,hHa1⟩:=Kd.S_lend HO_0.out z133 (x5_1 : Int) P5.out Q5.out;have hfra1:=(Kd.R_elem (Kd.S_R HO_0.out) z133 (x5_1 : Int) P5.out Q5.out).choose_spec.2.2.2;obtain ⟨vea1,rfl,gea1⟩:=k133_openM hMa1;have hxa1_0 : ws1.cell? ⟨go5,(x5_1 : Int).toNat * 2,none⟩ = some (.bool (rd_T133 y1 x5_1).f0):=hcca1 0 _ rfl;have hfa1_0 : ws1.frozen? ⟨go5,(x5_1 : Int).toNat * 2,none⟩ = false:=hfra1 0;have hxa1_1 : ws1.cell? ⟨go5,(x5_1 : Int).toNat * 2 + 1,none⟩ = some vea1:=hcca1 1 _ rfl;have hfa1_1 : ws1.frozen? ⟨go5,(x5_1 : Int).toNat * 2 + 1,none⟩ = false:=hfra1 1;clear hcla1 hMa1 hcca1 hfra1;have HOK:=Aside0.mk hokia1;have HH:=Aside0.mk hHa1;have HG:=Aside0.mk (show Kd.R (Kd.int .i64) 3 ws1 w0.heap.size okia1 vea1 (rd_T133 y1 x5_1).f1 from gea1);clear hokia1 hHa1 gea1) | ((go_at_call 75);(with_reducible refine (laws_markIntS.calls k1 okia1 _ _ _ t_ l_ w0 _ HB.out HG.out A1.out).mono ?_);rintro e wz ⟨rfl,hR_,hB_,hK_⟩;have n0_:=Aside0.mk (show Kd.S k133 133 wz w0.heap.size (fun k_=>(P0_ k_ ∨ w.heap.size ≤ k_)) (.slice (some ⟨go5,0,none⟩) x0_1.length co5) (y1.set (x5_1 : Int).toNat (⟨(rd_T133 y1 x5_1).f0,l_⟩ : S133)) from Kd.S_called HH.out hK_ (k133_mkM _ _ _ (⟨(rd_T133 y1 x5_1).f0,l_⟩ : S133) hR_) (fun k_ hk=>.inr (Nat.le_trans HK.out.1 hk)));have n1_:=Aside0.mk hB_;have n2_:=Aside0.mk (Kept.then_ HK.out hK_ (fun k_ hk=>(HOK.out k_ hk).1));clear HO_0 HB HK;have HO_0:=n0_;have HB:=n1_;have HK:=n2_;clear n0_ n1_ n2_ hR_ hB_ hK_ HH HG HOK));go_roundg k1;case measure=>have:=HK1.out;omega
     case rel=>exact ⟨_,_,_,rfl,rfl,H',⟨by have:=HK1.out;omega⟩,HO_0,HK,HB⟩
    rw [if_neg c4] at H;exact absurd H (by simp)
   rw [if_neg c3] at H;have c3b0 : decide (x5_1 < (x0_1.length : Int)) = false:=decide_eq_false c3;clear c3;simp only [Option.some.injEq,Prod.mk.injEq] at H;obtain ⟨rfl,rfl⟩:=H;obtain ⟨Ao18,co18,eo18⟩:=Kd.S_slice HO_0.out;subst eo18
   go_wp2
   go_ret
   exact ⟨rfl,HO_0.out,HB.out,HK.out⟩
end Go.Proofs.Ytdolplcbokioaaa.PB

namespace Go.Proofs.Ytdolplcbokioaaa.PB
open Go.RowKit Go.Proofs.YtdolplcbokioaaaW.PrintWords Go.Proofs.YtdolplcbokioaaaW.PrintLast Go.Proofs.YtdolplcbokioaaaW.PrintMore
attribute [local go_sem] max2_int min2_int max_two min_two max_three min_three max_four min_four
set_option linter.unusedVariables false
set_option linter.unusedSimpArgs false
def laws_markArena.f (k : Nat) (l0_0 : List (S133)) (a1 : Int) : Option (Int × (List (S133))):=((laws_markKnotS.f k l0_0 a1).bind fun b0=>(some (b0.1,b0.2)))
theorem laws_markArena.mono : ∀ a0 a1 k,LeO (laws_markArena.f k a0 a1) (laws_markArena.f (k + 1) a0 a1):=by
 intro a0 a1 k;unfold laws_markArena.f
 repeat' first
   | (with_reducible exact laws_markKnotS.mono _ _ _)
   | (with_reducible exact LeO.refl _)
   | (with_reducible exact LeO.none _)
   | (with_reducible refine LeO.ite ?_ ?_)
   | (with_reducible refine LeO.bind ?_ (fun _=>?_))
   | exact laws_markKnotS.mono _ _ _
   | exact LeO.none _
   | refine LeO.ite ?_ ?_
   | refine LeO.bind ?_ (fun _=>?_)
set_option maxHeartbeats 8000000 in
set_option maxRecDepth 100000 in
theorem laws_markArena.calls (k : Nat) (P0_0_ : Nat → Prop) (u0_0_ : Value) (l0_0 : List (S133)) (a1 : Int) (r1 : Int) (r2 : List (S133)) (w0 w : World) (hB : Below w0.heap.size w0 w) (ho0_0 : Kd.S k133 133 w w0.heap.size P0_0_ u0_0_ l0_0) (h : laws_markArena.f k l0_0 a1 = some (r1,r2)) :
  Calls Try.prog 34 #[.agg #[u0_0_],.int .i64 a1] w fun e w'=>e = .returned (.int .i64 r1) ∧ Kd.S k133 133 w' w0.heap.size (fun k_=>(P0_0_ k_ ∨ w.heap.size ≤ k_)) u0_0_ r2 ∧ Below w0.heap.size w0 w' ∧ Kept w w' (fun k_=>P0_0_ k_):=by
 have HZ0_0:=Aside0.mk (Kd.S_mono (ok':=fun k_=>(P0_0_ k_ ∧ k_ < w.heap.size)) (Kd.S_bound ho0_0) (fun k_ hk_=>⟨hk_.1,hk_.2.2.1⟩));clear ho0_0;have HB:=Aside0.mk hB;clear hB;have HK:=Aside0.mk (Kept.refl w (fun k_=>P0_0_ k_));have HL:=Aside0.mk (Nat.le_refl w.heap.size);have H : ((laws_markKnotS.f k l0_0 a1).bind fun b0=>(some (b0.1,b0.2))) = some (r1,r2):=h;clear h;replace H:=Option.bind_eq_some_iff.mp H;obtain ⟨⟨t3,t4⟩,Fa00,H⟩:=H;replace H : (some (t3,t4)) = some (r1,r2):=H;have Fa0:=Aside0.mk Fa00;clear Fa00;have H2:=Option.some.inj H;simp only [Prod.mk.injEq] at H2;obtain ⟨rfl,rfl⟩:=H2
 go_enter Try.func34,Try.ntmps34
 go_wp2_with (first | ((with_reducible refine gate_dst (N:=2) rfl ?_);refine box_event ?hg (N:=2) ?hd (cs:=#[u0_0_]) (t:=44) ?hr ?_;(case hd=>rfl);(case hg=>rfl);(case hr=>first | (go_simp;done) | (go_simp;rfl));intro gb1 hg w1 hbox hb;replace HZ0_0:=Aside0.mk (Kd.S_below HZ0_0.out hb);have GBK1:=Aside0.mk (show gb1 = w.heap.size ∧ gb1 < w1.heap.size from ⟨hg,blk_lt hbox⟩);have GW1:=Aside0.mk (show w0.heap.size ≤ gb1 by have q_:=below_size HB.out;rw [hg];exact q_);have BK1:=Aside0.mk hbox;replace HK:=Aside0.mk (Kept.below HK.out hb);replace HB:=Aside0.mk (below_then HB.out HB.out.size hb);replace HL:=Aside0.mk (And.intro HL.out (below_size hb));clear hb hbox hg;have hcz2 : w1.cell? ⟨gb1,0,none⟩ = some (u0_0_):=(blk_cell BK1.out 0).trans rfl;have hfz3:=blk_frozen BK1.out 0) | ((with_reducible refine gate_callee (f:=103) rfl ?_);refine goesL_ (some 8) rfl rfl Try.func103 (by kernel_rfl) rfl #[u0_0_,.int .i64 a1] rfl (by (try simp only [List.map_toArray,List.map_cons,List.map_nil]);first | done | rfl | (simp only [List.length_drop,List.length_take];rfl)) ?_;(with_reducible refine (laws_markKnotS.calls k (fun k_=>(P0_0_ k_ ∧ k_ < w.heap.size)) _ l0_0 a1 t3 t4 w0 _ HB.out HZ0_0.out Fa0.out).mono ?_);rintro e w4 ⟨rfl,hy0,hb0,hk⟩;refine ⟨_,rfl,?_⟩;have ny0_:=Aside0.mk (Kd.S_mono (ok':=fun k_=>((P0_0_ k_ ∧ k_ < w.heap.size) ∨ (w1.heap.size ≤ k_ ∧ k_ < w4.heap.size))) (Kd.S_bound hy0) (fun k_ hk_=>hk_.1.imp id (fun h_=>⟨h_,hk_.2.2.1⟩)));replace BK1:=Aside0.mk (blk_kept BK1.out hk (fun hs_=>by have q_:=HL.out;have g_:=GBK1.out;have hs2_ : (P0_0_ gb1 ∧ gb1 < w.heap.size):=hs_;omega));replace HZ0_0:=ny0_;clear ny0_;replace HK:=Aside0.mk (Kept.then_ HK.out hk (fun k_ hs_=>by have q_:=HL.out;have h_ : (P0_0_ k_ ∧ k_ < w.heap.size):=hs_;first | (first | exact .inl h_.1 | exact .inl (.inl h_.1) | exact .inl (.inr h_.1) | exact .inr (by omega)) | (rcases h_ with h_ | h_ <;> first | exact .inl h_.1 | exact .inl (.inl h_.1) | exact .inl (.inr h_.1) | exact .inr (by omega))));replace HB:=Aside0.mk hb0;replace HL:=Aside0.mk (And.intro HL.out hk.1);clear hb0 hk hy0;clear hcz2 hfz3;have hcz5 : w4.cell? ⟨gb1,0,none⟩ = some (u0_0_):=(blk_cell BK1.out 0).trans rfl;have hfz6:=blk_frozen BK1.out 0))
 go_ret
 exact ⟨rfl,Kd.S_mono (ok':=fun k_=>(P0_0_ k_ ∨ w.heap.size ≤ k_)) HZ0_0.out (fun k_ hk_=>by have q_:=HL.out;have h_ : ((P0_0_ k_ ∧ k_ < w.heap.size) ∨ (w1.heap.size ≤ k_ ∧ k_ < w4.heap.size)):=hk_;first | (first | exact .inl h_.1 | exact .inl (.inl h_.1) | exact .inl (.inr h_.1) | exact .inr (by omega)) | (rcases h_ with h_ | h_ <;> first | exact .inl h_.1 | exact .inl (.inl h_.1) | exact .inl (.inr h_.1) | exact .inr (by omega))),HB.out,HK.out⟩
end Go.Proofs.Ytdolplcbokioaaa.PB

namespace Go.Proofs.Ytdolplcbokioaaa.PB
open Go.RowKit Go.Proofs.YtdolplcbokioaaaW.PrintWords Go.Proofs.YtdolplcbokioaaaW.PrintLast Go.Proofs.YtdolplcbokioaaaW.PrintMore
attribute [local go_sem] max2_int min2_int max_two min_two max_three min_three max_four min_four   -- for this text's walks alone
set_option linter.unusedVariables false
set_option linter.unusedSimpArgs false
def spec_l11Copy.l0 : Nat → Int → List (S133) → List (S133) → Option ((List (S133)))
 | 0,_,_,_=>none
 | k + 1,x4,x489000,x491000=>if x4 < (x489000.length : Int) then (if 0 ≤ x4 then ((some (([] : List Int) : List Int)).bind fun y492=>(if y492.length + ((rd_T133 x489000 x4).f1).length < 17592186044416 then (if x491000.length < 4398046511104 then (spec_l11Copy.l0 k (wrap64 (x4 + 1)) x489000 (x491000 ++ [(⟨(rd_T133 x489000 x4).f0,(y492 ++ ((rd_T133 x489000 x4).f1))⟩ : S133)])) else (none)) else (none))) else (none)) else (some x491000)
def spec_l11Copy.f (k : Nat) (l0_0 : List (S133)) : Option ((List (S133))):=spec_l11Copy.l0 k 0 l0_0 ([] : List (S133))
theorem spec_l11Copy.mono_l : ∀ k,(∀ y0 y1 y2,LeO (spec_l11Copy.l0 k y0 y1 y2) (spec_l11Copy.l0 (k + 1) y0 y1 y2))
 | 0=>fun _ _ _ r h=>by simp [spec_l11Copy.l0] at h
 | k + 1=>by
  have ih0:=spec_l11Copy.mono_l k;intro y0 y1 y2;unfold spec_l11Copy.l0
  repeat' first
  | (with_reducible exact ih0 _ _ _)
  | (with_reducible exact LeO.refl _)
  | (with_reducible exact LeO.none _)
  | (with_reducible refine LeO.ite ?_ ?_)
  | (with_reducible refine LeO.bind ?_ (fun _=>?_))
  | exact ih0 _ _ _
  | exact LeO.none _
  | refine LeO.ite ?_ ?_
  | refine LeO.bind ?_ (fun _=>?_)
theorem spec_l11Copy.mono : ∀ a0 k,LeO (spec_l11Copy.f k a0) (spec_l11Copy.f (k + 1) a0):=by
 intro a0 k;have ih0:=spec_l11Copy.mono_l k;unfold spec_l11Copy.f
 repeat' first
   | (with_reducible exact ih0 _ _ _)
   | (with_reducible exact LeO.refl _)
   | (with_reducible exact LeO.none _)
   | (with_reducible refine LeO.ite ?_ ?_)
   | (with_reducible refine LeO.bind ?_ (fun _=>?_))
   | exact ih0 _ _ _
   | exact LeO.none _
   | refine LeO.ite ?_ ?_
   | refine LeO.bind ?_ (fun _=>?_)
def spec_l11Copy.T5 : Bool × List (List Nat × List Nat):=(true,[([],[]),([0],[0]),([],[]),([2],[2]),([],[]),([3,4],[3,4]),([5],[5]),([6],[6]),([],[]),([],[]),([9],[9]),([],[]),([10,11],[10,11]),([12],[12]),([13],[13]),([8,14],[8,14]),([7,15],[7,15]),([16],[16]),([1,17,15],[1,17]),([0,1,2,3,4,5,6,7,8,9,10,11,12,13,14,15,16,17,18],[]),([19,18,18,0,1,2,3,4,5,6,7,8,9,10,11,12,13,14,15,16,17,18],[18,19])])
def spec_l11Copy.B5 : List Nat:=[0,1,0,4,0,28,60,124,0,0,512,0,3584,7680,15872,32512,65532,131068,262143,524287,1048575]
theorem spec_l11Copy.tab5 : rtab .any (opsOf Try.f98 5) = spec_l11Copy.T5:=by kernel_rfl
theorem spec_l11Copy.bits5 : waitsOk spec_l11Copy.T5.2 spec_l11Copy.B5 = true:=by kernel_rfl
set_option maxHeartbeats 8000000 in
set_option maxRecDepth 100000 in
theorem spec_l11Copy.calls (k : Nat) (A0_0 : Option Addr) (c0_0 : Nat) (l0_0 : List (S133)) (r : List (S133)) (w : World) (hr0_0 : Kd.C k133 w A0_0 l0_0.length l0_0) (hc0_0 : l0_0.length ≤ c0_0) (h : spec_l11Copy.f k l0_0 = some r) :
  Calls Try.prog 98 #[.agg #[.slice A0_0 l0_0.length c0_0]] w fun e w'=>∃ v0_ : Value,e = .returned (.agg #[v0_]) ∧ Kd.S k133 133 w' w.heap.size (fun _=>True) v0_ r ∧ Below w.heap.size w w':=by
 have hu44:=Try.underlying44;have hu133:=Try.underlying133;have HR0_0:=Aside0.mk hr0_0;have HC0_0:=Aside0.mk hc0_0;clear hr0_0 hc0_0;have HB:=Aside0.mk (Below.refl w.heap.size w);have H : (spec_l11Copy.l0 k 0 l0_0 ([] : List (S133))) = some r:=h;clear h;have H':=Aside0.mk H;clear H
 go_enter Try.func98,Try.ntmps98
 go_wp2_with (first | ((with_reducible refine gate_dst (N:=1) rfl ?_);refine box_event ?hg (N:=1) ?hd (cs:=#[.slice A0_0 l0_0.length c0_0]) (t:=44) ?hr ?_;(case hd=>rfl);(case hg=>rfl);(case hr=>first | (go_simp;done) | (go_simp;rfl));intro gb488 hg w2 hbox hb;have n0_:=Aside0.mk (below_step (hs HB) hb);have n1_:=Aside0.mk (hbox);have n2_:=Aside0.mk ((by rw [hg];exact (below_size (hs HB)) : w.heap.size ≤ gb488));have n3_:=Aside0.mk ((by rw [hg];exact (below_size (hs HB)) : w.heap.size ≤ gb488));clear HB;have HB:=n0_;have BK488:=n1_;have GW488:=n2_;have GE488:=n3_;clear n0_ n1_ n2_ n3_;clear hb hbox hg) | ((with_reducible refine gate_dst (N:=2) rfl ?_);refine box_event ?hg (N:=2) ?hd (cs:=#[.slice none 0 0]) (t:=44) ?hr ?_;(case hd=>rfl);(case hg=>rfl);(case hr=>first | (go_simp;done) | (go_simp;rfl));intro gb489 hg w3 hbox hb;have n0_:=Aside0.mk (blk_below (g:=gb488) (o:=.cells #[.slice A0_0 l0_0.length c0_0] 44 (0,0)) (bs BK488) hb);have n1_:=Aside0.mk (below_step (hs1 HB GE488) hb);have n2_:=Aside0.mk (hbox);have n3_:=Aside0.mk ((by rw [hg];exact (below_size (hs1 HB GE488)) : w.heap.size ≤ gb489));have n4_:=Aside0.mk ((by rw [hg];exact (below_size (hs1 HB GE488)) : w.heap.size ≤ gb489));have n5_:=Aside0.mk ((by rw [hg];exact Nat.ne_of_lt (blk_lt (g:=gb488) (o:=.cells #[.slice A0_0 l0_0.length c0_0] 44 (0,0)) (bs BK488)) : gb488 ≠ gb489));have n6_:=Aside0.mk ((by rw [hg];exact Nat.ne_of_gt (blk_lt (g:=gb488) (o:=.cells #[.slice A0_0 l0_0.length c0_0] 44 (0,0)) (bs BK488)) : gb489 ≠ gb488));clear BK488;clear HB;have BK488:=n0_;have HB:=n1_;have BK489:=n2_;have GW489:=n3_;have GE489:=n4_;have NB488_489:=n5_;have NB489_488:=n6_;clear n0_ n1_ n2_ n3_ n4_ n5_ n6_;clear hb hbox hg) | ((with_reducible refine gate_dst (N:=3) rfl ?_);refine box_event ?hg (N:=3) ?hd (cs:=#[.slice none 0 0]) (t:=44) ?hr ?_;(case hd=>rfl);(case hg=>rfl);(case hr=>first | (go_simp;done) | (go_simp;rfl));intro gb490 hg w4 hbox hb;have n0_:=Aside0.mk (blk_below (g:=gb488) (o:=.cells #[.slice A0_0 l0_0.length c0_0] 44 (0,0)) (bs BK488) hb);have n1_:=Aside0.mk (blk_below (g:=gb489) (o:=.cells #[.slice none 0 0] 44 (0,0)) (bs BK489) hb);have n2_:=Aside0.mk (below_step (hs2 HB GE488 GE489) hb);have n3_:=Aside0.mk (hbox);have n4_:=Aside0.mk ((by rw [hg];exact (below_size (hs2 HB GE488 GE489)) : w.heap.size ≤ gb490));have n5_:=Aside0.mk ((by rw [hg];exact (below_size (hs2 HB GE488 GE489)) : w.heap.size ≤ gb490));have n6_:=Aside0.mk ((by rw [hg];exact Nat.ne_of_lt (blk_lt (g:=gb488) (o:=.cells #[.slice A0_0 l0_0.length c0_0] 44 (0,0)) (bs BK488)) : gb488 ≠ gb490));have n7_:=Aside0.mk ((by rw [hg];exact Nat.ne_of_gt (blk_lt (g:=gb488) (o:=.cells #[.slice A0_0 l0_0.length c0_0] 44 (0,0)) (bs BK488)) : gb490 ≠ gb488));have n8_:=Aside0.mk ((by rw [hg];exact Nat.ne_of_lt (blk_lt (g:=gb489) (o:=.cells #[.slice none 0 0] 44 (0,0)) (bs BK489)) : gb489 ≠ gb490));have n9_:=Aside0.mk ((by rw [hg];exact Nat.ne_of_gt (blk_lt (g:=gb489) (o:=.cells #[.slice none 0 0] 44 (0,0)) (bs BK489)) : gb490 ≠ gb489));clear BK488;clear BK489;clear HB;have BK488:=n0_;have BK489:=n1_;have HB:=n2_;have BK490:=n3_;have GW490:=n4_;have GE490:=n5_;have NB488_490:=n6_;have NB490_488:=n7_;have NB489_490:=n8_;have NB490_489:=n9_;clear n0_ n1_ n2_ n3_ n4_ n5_ n6_ n7_ n8_ n9_;clear hb hbox hg;have hnb5:=NB490_488.out;have hnc5:=NB488_490.out;have hnb6:=NB490_489.out;have hnc6:=NB489_490.out;have hcz7_0 : w4.cell? ⟨gb490,0,none⟩ = some (.slice none 0 0):=(blk_cell BK490.out 0).trans rfl;have hfz7_0:=blk_frozen BK490.out 0));go_loopg [4] k (fun kq v4 w'=>∃ (x4_1 : Int) (x491000_1 : List (S133)) (u491000 : Value),v4 = .int .i64 x4_1 ∧ Aside0 (spec_l11Copy.l0 kq x4_1 l0_0 x491000_1 = some r) ∧ Aside0 (kq ≤ k) ∧ Aside0 (Kd.S k133 133 w' w.heap.size (fun _=>True) u491000 x491000_1) ∧ Aside0 (w'.heap[gb488]? = some (.cells #[(.slice A0_0 l0_0.length c0_0)] 44 (0,0))) ∧ Aside0 (w'.heap[gb489]? = some (.cells #[(.slice none 0 0)] 44 (0,0))) ∧ Aside0 (w'.heap[gb490]? = some (.cells #[u491000] 44 (0,0))) ∧ Aside0 (Below w.heap.size w w'));case atStart=>exact ⟨(0),(([] : List (S133))),(.slice none 0 0),(by first | rfl | (simp;done) | (simp [*];done)),H',⟨Nat.le_refl _⟩,⟨by first | exact Kd.S_nil _ _ _ _ _ | exact Kd.N_nil _ _ _ _ _ | exact Kd.V_nil _ _ _ _ _ | exact Kd.Q_nil _ _ _ _ _ | exact Kd.R_nil _ _ _ _ _⟩,⟨by (with_reducible repeat (first | refine blk_drewN ?_ _ | refine blk_drew ?_ | refine blk_alloc ?_ _));refine blk_far ?_ NB488_490.out _;(with_reducible repeat (first | refine blk_drewN ?_ _ | refine blk_drew ?_ | refine blk_alloc ?_ _));exact BK488.out⟩,⟨by (with_reducible repeat (first | refine blk_drewN ?_ _ | refine blk_drew ?_ | refine blk_alloc ?_ _));refine blk_far ?_ NB489_490.out _;(with_reducible repeat (first | refine blk_drewN ?_ _ | refine blk_drew ?_ | refine blk_alloc ?_ _));exact BK489.out⟩,⟨by (with_reducible repeat (first | refine blk_drewN ?_ _ | refine blk_drew ?_ | refine blk_alloc ?_ _));refine blk_put (cs:=#[.slice none 0 0]) ?_ 0 _ rfl;(with_reducible repeat (first | refine blk_drewN ?_ _ | refine blk_drew ?_ | refine blk_alloc ?_ _));exact BK490.out⟩,⟨hs3 HB GE488 GE489 GE490⟩⟩
 case round =>
  clear H'
  try clear p2
  try clear c5
  try clear c6
  try clear hcz7_0
  try clear hfz7_0
  obtain ⟨x4_1,x491000_1,u491000,rfl,HA,HK1,HO_491000,BK488,BK489,BK490,HB⟩:=hrel;cases gk with
  | zero=>exact absurd HA.out (by simp [spec_l11Copy.l0])
  | succ k1 =>
   have H:=HA.out;clear HA;simp only [spec_l11Copy.l0] at H
   by_cases c8 : x4_1 < (l0_0.length : Int)
   ·rw [if_pos c8] at H;have c8b0 : decide (x4_1 < (l0_0.length : Int)) = true:=decide_eq_true c8;clear c8
    by_cases c9 : 0 ≤ x4_1
    ·rw [if_pos c9] at H;have c9b0 : decide (0 ≤ x4_1) = true:=decide_eq_true c9;clear c9;obtain ⟨y492,hy492⟩ : ∃ y_ : List Int,y_ = (([] : List Int)):=⟨_,rfl⟩;replace H : (if y492.length + ((rd_T133 l0_0 x4_1).f1).length < 17592186044416 then (if x491000_1.length < 4398046511104 then (spec_l11Copy.l0 k1 (wrap64 (x4_1 + 1)) l0_0 (x491000_1 ++ [(⟨(rd_T133 l0_0 x4_1).f0,(y492 ++ ((rd_T133 l0_0 x4_1).f1))⟩ : S133)])) else (none)) else (none)) = some r:=by first | (rw [hy492];with_reducible exact H) | (have H2_:=(Option.bind_some _ _).symm.trans H;rw [hy492];with_reducible exact H2_) | (have H2_:=(Option.bind_some _ _).symm.trans H;with_reducible exact H2_) | with_reducible exact H | (rw [hy492];exact H) | exact H
     have Ny492:=Aside0.mk hy492;clear hy492
     by_cases c10 : y492.length + ((rd_T133 l0_0 x4_1).f1).length < 17592186044416
     ·rw [if_pos c10] at H;have LMc10:=Aside0.mk c10;clear c10;obtain ⟨y496,hy496⟩ : ∃ y_ : List Int,y_ = (y492 ++ ((rd_T133 l0_0 x4_1).f1)):=⟨_,rfl⟩;replace H : (if x491000_1.length < 4398046511104 then (spec_l11Copy.l0 k1 (wrap64 (x4_1 + 1)) l0_0 (x491000_1 ++ [(⟨(rd_T133 l0_0 x4_1).f0,y496⟩ : S133)])) else (none)) = some r:=by first | (rw [hy496];with_reducible exact H) | (have H2_:=(Option.bind_some _ _).symm.trans H;rw [hy496];with_reducible exact H2_) | (have H2_:=(Option.bind_some _ _).symm.trans H;with_reducible exact H2_) | with_reducible exact H | (rw [hy496];exact H) | exact H
      have Ny496:=Aside0.mk hy496;clear hy496
      by_cases c11 : x491000_1.length < 4398046511104
      ·rw [if_pos c11] at H;have LMc11:=Aside0.mk c11;clear c11;obtain ⟨y499,hy499⟩ : ∃ y_ : List (S133),y_ = (x491000_1 ++ [(⟨(rd_T133 l0_0 x4_1).f0,y496⟩ : S133)]):=⟨_,rfl⟩;replace H : (spec_l11Copy.l0 k1 (wrap64 (x4_1 + 1)) l0_0 y499) = some r:=by first | (rw [hy499];with_reducible exact H) | (have H2_:=(Option.bind_some _ _).symm.trans H;rw [hy499];with_reducible exact H2_) | (have H2_:=(Option.bind_some _ _).symm.trans H;with_reducible exact H2_) | with_reducible exact H | (rw [hy499];exact H) | exact H
       have Ny499:=Aside0.mk hy499;clear hy499;have H':=Aside0.mk H;clear H;have hnb12:=NB488_489.out;have hnc12:=NB489_488.out;have hnb13:=NB488_490.out;have hnc13:=NB490_488.out;have hcz14_0 : wr.cell? ⟨gb488,0,none⟩ = some (.slice A0_0 l0_0.length c0_0):=(blk_cell BK488.out 0).trans rfl;have hfz14_0:=blk_frozen BK488.out 0
       try go_wp2
       have n0_:=Aside0.mk (Kd.S_drew HO_491000.out);have n1_:=Aside0.mk (blk_drew BK488.out);have n2_:=Aside0.mk (blk_drew BK489.out);have n3_:=Aside0.mk (blk_drew BK490.out);have n4_:=Aside0.mk (below_drew1 HB.out);clear HO_491000;clear BK488;clear BK489;clear BK490;clear HB;have HO_491000:=n0_;have BK488:=n1_;have BK489:=n2_;have BK490:=n3_;have HB:=n4_;clear n0_ n1_ n2_ n3_ n4_;have p491 : 0 ≤ (x4_1 : Int):=of_decide_eq_true (by first | (with_reducible assumption) | assumption);have q491 : x4_1 < (l0_0.length : Int):=of_decide_eq_true (by first | (with_reducible assumption) | assumption);obtain ⟨ad491,A491_1,c491_1,e491,hx491_0,hx491_1,hl491_1,hi491_1⟩:=at_T133 HR0_0.out x4_1 p491 q491;have hw491_1:=hx491_1;have hw491_0:=hx491_0;cases e491;replace hx491_0:=(HB.out.cell (World.block_lt_of_cell? w _ hx491_0)).trans hx491_0;replace hx491_1:=(HB.out.cell (World.block_lt_of_cell? w _ hx491_1)).trans hx491_1;have HR491_1:=Aside0.mk hi491_1;have HC491_1:=Aside0.mk hl491_1;clear hi491_1 hl491_1;replace p491:=eq_true p491;replace q491:=eq_true q491;have p495 : 0 ≤ (x4_1 : Int):=of_decide_eq_true (by first | (with_reducible assumption) | assumption);have q495 : x4_1 < (l0_0.length : Int):=of_decide_eq_true (by first | (with_reducible assumption) | assumption);obtain ⟨ad495,A495_1,c495_1,e495,hx495_0,hx495_1,hl495_1,hi495_1⟩:=at_T133 HR0_0.out x4_1 p495 q495;have hw495_1:=hx495_1;have hw495_0:=hx495_0;obtain rfl : ad491 = ad495:=(by injection e495);replace hx495_0:=(HB.out.cell (World.block_lt_of_cell? w _ hx495_0)).trans hx495_0;replace hx495_1:=(HB.out.cell (World.block_lt_of_cell? w _ hx495_1)).trans hx495_1;have HR495_1:=Aside0.mk hi495_1;have HC495_1:=Aside0.mk hl495_1;clear hi495_1 hl495_1;replace p495:=eq_true p495;replace q495:=eq_true q495;have ea_:=Option.some.inj (hx491_1.symm.trans hx495_1);injection ea_ with ea_ en_ ec_;subst ea_;subst ec_;clear en_;refine start_ (n:=21) (S:=fun w'=>w'.cell? ⟨gb490,0,none⟩ = some (u491000) ∧ w'.cell? ⟨gb488,0,none⟩ = some (.slice (some ad491) l0_0.length c0_0) ∧ w'.cell? (ad491.add ((x4_1).toNat * 2)) = some (.bool ((rd_T133 l0_0 x4_1).f0)) ∧ w'.cell? ⟨(ad491.add ((x4_1).toNat * 2)).block,(ad491.add ((x4_1).toNat * 2)).off + 1,none⟩ = some (.slice A491_1 ((rd_T133 l0_0 x4_1).f1).length c491_1) ∧ w'.cell? (ad491.add ((x4_1).toNat * 2)) = some (.bool ((rd_T133 l0_0 x4_1).f0)) ∧ w'.cell? ⟨(ad491.add ((x4_1).toNat * 2)).block,(ad491.add ((x4_1).toNat * 2)).off + 1,none⟩ = some (.slice A491_1 ((rd_T133 l0_0 x4_1).f1).length c491_1)) (ds:=[20]) #[false,false,false,false,false,false,false,false,false,false,false,false,false,false,false,false,false,false,false,false,false] (by kernel_rfl) rfl rfl ⟨(blk_cell BK490.out 0).trans rfl,(blk_cell BK488.out 0).trans rfl,((HB.out.cell (World.block_lt_of_cell? w _ hw491_0)).trans hw491_0),((HB.out.cell (World.block_lt_of_cell? w _ hw491_1)).trans hw491_1),((HB.out.cell (World.block_lt_of_cell? w _ hw495_0)).trans hw495_0),((HB.out.cell (World.block_lt_of_cell? w _ hw495_1)).trans hw495_1)⟩ (fun hHeld=>?_);refine with_tabW spec_l11Copy.tab5 spec_l11Copy.bits5 (fun HT_ HW_=>?_);generalize wr.drew = w15 at HO_491000 BK488 BK489 BK490 HB HR491_1 HR495_1 hx491_0 hx491_1 hx495_0 hx495_1 hHeld ⊢;refine pure_ (i:=0) (N:=some 13) (v:=?_) (a':=?_) #[true,false,false,false,false,false,false,false,false,false,false,false,false,false,false,false,false,false,false,false,false] rfl rfl (any_of HT_.out (by kernel_rfl)) (fun _ _ _ h=>h) (Or.inl ⟨by rfl,?_⟩) ?_ ?_;rotate_left
       ·intro w';go_simp;with_reducible rfl
       rotate_left
       ·simp only [Act.put,List.setIfInBounds_toArray,List.set_cons_zero,List.set_cons_succ,i64_w,i32_w];rfl
       refine pure_ (i:=2) (N:=some 15) (v:=?_) (a':=?_) #[true,false,true,false,false,false,false,false,false,false,false,false,false,false,false,false,false,false,false,false,false] rfl rfl (any_of HT_.out (by kernel_rfl)) (fun _ _ _ h=>h) (Or.inl ⟨by rfl,?_⟩) ?_ ?_;rotate_left
       ·intro w';go_simp;with_reducible rfl
       rotate_left
       ·simp only [Act.put,List.setIfInBounds_toArray,List.set_cons_zero,List.set_cons_succ,i64_w,i32_w];rfl
       refine pure_ (i:=4) (N:=some 17) (v:=?_) (a':=?_) #[true,false,true,false,true,false,false,false,false,false,false,false,false,false,false,false,false,false,false,false,false] rfl rfl (any_of HT_.out (by kernel_rfl)) (fun _ _ _ h=>h) (Or.inl ⟨by rfl,?_⟩) ?_ ?_;rotate_left
       ·intro w';go_simp;with_reducible rfl
       rotate_left
       ·simp only [Act.put,List.setIfInBounds_toArray,List.set_cons_zero,List.set_cons_succ,i64_w,i32_w];rfl
       refine pure_ (i:=9) (N:=some 22) (v:=?_) (a':=?_) #[true,false,true,false,true,false,false,false,false,true,false,false,false,false,false,false,false,false,false,false,false] rfl rfl (any_of HT_.out (by kernel_rfl)) (fun _ _ _ h=>h) (Or.inl ⟨by rfl,?_⟩) ?_ ?_;rotate_left
       ·intro w';go_simp;with_reducible rfl
       rotate_left
       ·simp only [Act.put,List.setIfInBounds_toArray,List.set_cons_zero,List.set_cons_succ,i64_w,i32_w];rfl
       refine pure_ (i:=11) (N:=some 24) (v:=?_) (a':=?_) #[true,false,true,false,true,false,false,false,false,true,false,true,false,false,false,false,false,false,false,false,false] rfl rfl (any_of HT_.out (by kernel_rfl)) (fun _ _ _ h=>h) (Or.inl ⟨by rfl,?_⟩) ?_ ?_;rotate_left
       ·intro w';go_simp;with_reducible rfl
       rotate_left
       ·simp only [Act.put,List.setIfInBounds_toArray,List.set_cons_zero,List.set_cons_succ,i64_w,i32_w];rfl
       refine take_ (i:=1) (N:=some 14) (v:=?_) (a':=?_) #[true,true,true,false,true,false,false,false,false,true,false,true,false,false,false,false,false,false,false,false,false] rfl rfl (take_ofW HT_.out HW_.out (by kernel_rfl)) (fun _ _ _ h=>h) (Or.inl ⟨by rfl,?_⟩) hHeld ?_ ?_;rotate_left
       ·rintro w' ⟨s0,s1,s2,s3,s4,s5⟩;go_simp;with_reducible rfl
       rotate_left
       ·simp only [Act.put,List.setIfInBounds_toArray,List.set_cons_zero,List.set_cons_succ,i64_w,i32_w];rfl
       refine take_ (i:=3) (N:=some 16) (v:=?_) (a':=?_) #[true,true,true,true,true,false,false,false,false,true,false,true,false,false,false,false,false,false,false,false,false] rfl rfl (take_ofW HT_.out HW_.out (by kernel_rfl)) (fun _ _ _ h=>h) (Or.inl ⟨by rfl,?_⟩) hHeld ?_ ?_;rotate_left
       ·rintro w' ⟨s0,s1,s2,s3,s4,s5⟩;go_simp;with_reducible rfl
       rotate_left
       ·simp only [Act.put,List.setIfInBounds_toArray,List.set_cons_zero,List.set_cons_succ,i64_w,i32_w];rfl
       refine pure_ (i:=5) (N:=some 18) (v:=?_) (a':=?_) #[true,true,true,true,true,true,false,false,false,true,false,true,false,false,false,false,false,false,false,false,false] rfl rfl (any_of HT_.out (by kernel_rfl)) (fun _ _ _ h=>h) (Or.inl ⟨by rfl,?_⟩) ?_ ?_;rotate_left
       ·intro w';go_simp;with_reducible rfl
       rotate_left
       ·simp only [Act.put,List.setIfInBounds_toArray,List.set_cons_zero,List.set_cons_succ,i64_w,i32_w];rfl
       refine pure_ (i:=6) (N:=some 19) (v:=?_) (a':=?_) #[true,true,true,true,true,true,true,false,false,true,false,true,false,false,false,false,false,false,false,false,false] rfl rfl (any_of HT_.out (by kernel_rfl)) (fun _ _ _ h=>h) (Or.inl ⟨by rfl,?_⟩) ?_ ?_;rotate_left
       ·intro w';go_simp;with_reducible rfl
       rotate_left
       ·simp only [Act.put,List.setIfInBounds_toArray,List.set_cons_zero,List.set_cons_succ,i64_w,i32_w];rfl
       refine take_ (i:=7) (N:=some 20) (v:=?_) (a':=?_) #[true,true,true,true,true,true,true,true,false,true,false,true,false,false,false,false,false,false,false,false,false] rfl rfl (take_ofW HT_.out HW_.out (by kernel_rfl)) (fun _ _ _ h=>h) (Or.inl ⟨by rfl,?_⟩) hHeld ?_ ?_;rotate_left
       ·rintro w' ⟨s0,s1,s2,s3,s4,s5⟩;go_simp;with_reducible rfl
       rotate_left
       ·simp only [Act.put,List.setIfInBounds_toArray,List.set_cons_zero,List.set_cons_succ,i64_w,i32_w];rfl
       refine take_ (i:=10) (N:=some 23) (v:=?_) (a':=?_) #[true,true,true,true,true,true,true,true,false,true,true,true,false,false,false,false,false,false,false,false,false] rfl rfl (take_ofW HT_.out HW_.out (by kernel_rfl)) (fun _ _ _ h=>h) (Or.inl ⟨by rfl,?_⟩) hHeld ?_ ?_;rotate_left
       ·rintro w' ⟨s0,s1,s2,s3,s4,s5⟩;go_simp;with_reducible rfl
       rotate_left
       ·simp only [Act.put,List.setIfInBounds_toArray,List.set_cons_zero,List.set_cons_succ,i64_w,i32_w];rfl
       refine pure_ (i:=12) (N:=some 25) (v:=?_) (a':=?_) #[true,true,true,true,true,true,true,true,false,true,true,true,true,false,false,false,false,false,false,false,false] rfl rfl (any_of HT_.out (by kernel_rfl)) (fun _ _ _ h=>h) (Or.inl ⟨by rfl,?_⟩) ?_ ?_;rotate_left
       ·intro w';go_simp;with_reducible rfl
       rotate_left
       ·simp only [Act.put,List.setIfInBounds_toArray,List.set_cons_zero,List.set_cons_succ,i64_w,i32_w];rfl
       refine pure_ (i:=13) (N:=some 26) (v:=?_) (a':=?_) #[true,true,true,true,true,true,true,true,false,true,true,true,true,true,false,false,false,false,false,false,false] rfl rfl (any_of HT_.out (by kernel_rfl)) (fun _ _ _ h=>h) (Or.inl ⟨by rfl,?_⟩) ?_ ?_;rotate_left
       ·intro w';go_simp;with_reducible rfl
       rotate_left
       ·simp only [Act.put,List.setIfInBounds_toArray,List.set_cons_zero,List.set_cons_succ,i64_w,i32_w];rfl
       refine take_ (i:=14) (N:=some 27) (v:=?_) (a':=?_) #[true,true,true,true,true,true,true,true,false,true,true,true,true,true,true,false,false,false,false,false,false] rfl rfl (take_ofW HT_.out HW_.out (by kernel_rfl)) (fun _ _ _ h=>h) (Or.inl ⟨by rfl,?_⟩) hHeld ?_ ?_;rotate_left
       ·rintro w' ⟨s0,s1,s2,s3,s4,s5⟩;go_simp;with_reducible rfl
       rotate_left
       ·simp only [Act.put,List.setIfInBounds_toArray,List.set_cons_zero,List.set_cons_succ,i64_w,i32_w];rfl
       refine one_ (i:=8) (N:=some 21) #[true,true,true,true,true,true,true,true,true,true,true,true,true,true,true,false,false,false,false,false,false] rfl rfl (one_of HT_.out (by kernel_rfl)) (by decide) (fun K hK=>?_);refine Kd.R_lit_step (Kd.int .i64) _ 3 ?hg (N:=21) ?hd (xs:=([] : List Int)) (inner:=[]) (ok:=fun _=>True) (okp:=fun _=>True) ?hr ?hp (fun _ hk=>hk) trivial (Below.refl _ _) (Nat.le_refl _) (by simp) ?_;(case hd=>rfl);(case hg=>rfl);(case hr=>first | (go_simp;done) | (go_simp;rfl));(case hp=>exact (Reps.none _ _));intro v493 w16 ho17 hb hg_ hnew_;clear hg_ hnew_
       (first | rw [← Ny492.out] at ho17 | (simp only [Int.reduceToNat] at ho17;rw [← Ny492.out] at ho17))
       have n0_:=Aside0.mk (Kd.S_elder' (ss HO_491000) (Kd.R_base ho17) hb);have n1_:=Aside0.mk (Kd.R_lower ho17 (below_size (hs3 HB GE488 GE489 GE490)));have n2_:=Aside0.mk (blk_below (g:=gb488) (o:=.cells #[.slice (some ad491) l0_0.length c0_0] 44 (0,0)) (bs BK488) hb);have n3_:=Aside0.mk (blk_below (g:=gb489) (o:=.cells #[.slice none 0 0] 44 (0,0)) (bs BK489) hb);have n4_:=Aside0.mk (blk_below (g:=gb490) (o:=.cells #[u491000] 44 (0,0)) (bs BK490) hb);have n5_:=Aside0.mk (below_step (hs3 HB GE488 GE489 GE490) hb);clear HO_491000;clear BK488;clear BK489;clear BK490;clear HB;have HO_491000:=n0_;have HO494:=n1_;have BK488:=n2_;have BK489:=n3_;have BK490:=n4_;have HB:=n5_;clear n0_ n1_ n2_ n3_ n4_ n5_;clear hb ho17;refine hK.out _ _ ⟨(blk_cell BK490.out 0).trans rfl,(blk_cell BK488.out 0).trans rfl,((HB.out.cell (World.block_lt_of_cell? w _ hw491_0)).trans hw491_0),((HB.out.cell (World.block_lt_of_cell? w _ hw491_1)).trans hw491_1),((HB.out.cell (World.block_lt_of_cell? w _ hw495_0)).trans hw495_0),((HB.out.cell (World.block_lt_of_cell? w _ hw495_1)).trans hw495_1)⟩ (fun hHeld=>?_);clear hK K;refine norm_ (a':=?_) ?_ ?_;rotate_left
       ·show Act.put _ (some 21) _ = _;simp only [Act.put,List.setIfInBounds_toArray,List.set_cons_zero,List.set_cons_succ,i64_w,i32_w];rfl
       refine one_ (i:=15) (N:=some 28) #[true,true,true,true,true,true,true,true,true,true,true,true,true,true,true,true,false,false,false,false,false] rfl rfl (one_of HT_.out (by kernel_rfl)) (by decide) (fun K hK=>?_);refine Kd.R_append_rows_step (Kd.int .i64) (w0:=w) w.heap.size (by rfl) (.tmp 21) (.tmp 27) 26 3 (.int .i64 0) 8 rfl Try.underlying26 info3 rfl (by decide) (by omega) v493 y492 ((rd_T133 l0_0 x4_1).f1) _ _ _ (fun _=>True) (fun _=>False) rfl rfl ?aO ?aR (fun _ _ h=>h) (fun _ h=>h.elim) ?aF ?aB ?aS ?aL ?_
       (case aR=>repeat (first | exact (Kd.C_below HR495_1.out HB.out) | (with_reducible refine Kd.C_alloc ?_ _) | (with_reducible refine Kd.C_drewN ?_ _) | (with_reducible refine Kd.C_drew ?_)))
       (case aB=>exact (hs3 HB GE488 GE489 GE490))
       (case aF=>exact (fun _ _=>trivial))
       (case aO=>exact (rs HO494))
       (case aS=>exact (below_size (hs3 HB GE488 GE489 GE490)))
       (case aL=>have:=LMc10.out;omega)
       intro v497 w18 ho hb hg hat;rw [← Ny496.out] at ho;have n0_:=Aside0.mk (Kd.S_after (ok:=(fun _=>True)) (ss HO_491000) hg hat);have n1_:=Aside0.mk (blk_grown (g:=gb488) (o:=.cells #[.slice (some ad491) l0_0.length c0_0] 44 (0,0)) (bs BK488) hg (Kd.R_ne HO494.out BK488.out (by decide)));have n2_:=Aside0.mk (blk_grown (g:=gb489) (o:=.cells #[.slice none 0 0] 44 (0,0)) (bs BK489) hg (Kd.R_ne HO494.out BK489.out (by decide)));have n3_:=Aside0.mk (blk_grown (g:=gb490) (o:=.cells #[u491000] 44 (0,0)) (bs BK490) hg (Kd.R_ne HO494.out BK490.out (by decide)));have n4_:=Aside0.mk (hb);have n5_:=Aside0.mk (ho);clear HO_491000;clear BK488;clear BK489;clear BK490;clear HB;clear HO494;have HO_491000:=n0_;have BK488:=n1_;have BK489:=n2_;have BK490:=n3_;have HB:=n4_;have HO498:=n5_;clear n0_ n1_ n2_ n3_ n4_ n5_;clear ho hb hg hat;obtain ⟨Ao19,co19,eo19⟩:=Kd.R_slice HO498.out
       (first | subst eo19 | (injection eo19 with f1_ f2_ f3_;have f4_:=f1_.symm;have f5_:=f3_.symm;clear f1_ f2_ f3_;subst f4_;subst f5_))
       refine hK.out _ _ ⟨(blk_cell BK490.out 0).trans rfl,(blk_cell BK488.out 0).trans rfl,((HB.out.cell (World.block_lt_of_cell? w _ hw491_0)).trans hw491_0),((HB.out.cell (World.block_lt_of_cell? w _ hw491_1)).trans hw491_1),((HB.out.cell (World.block_lt_of_cell? w _ hw495_0)).trans hw495_0),((HB.out.cell (World.block_lt_of_cell? w _ hw495_1)).trans hw495_1)⟩ (fun hHeld=>?_);clear hK K;refine norm_ (a':=?_) ?_ ?_;rotate_left
       ·show Act.put _ (some 28) _ = _;simp only [Act.put,List.setIfInBounds_toArray,List.set_cons_zero,List.set_cons_succ,i64_w,i32_w];rfl
       refine pure_ (i:=16) (N:=some 29) (v:=?_) (a':=?_) #[true,true,true,true,true,true,true,true,true,true,true,true,true,true,true,true,true,false,false,false,false] rfl rfl (any_of HT_.out (by kernel_rfl)) (fun _ _ _ h=>h) (Or.inl ⟨by rfl,?_⟩) ?_ ?_;rotate_left
       ·intro w';go_simp;with_reducible rfl
       rotate_left
       ·simp only [Act.put,List.setIfInBounds_toArray,List.set_cons_zero,List.set_cons_succ,i64_w,i32_w];rfl
       refine one_ (i:=17) (N:=some 30) #[true,true,true,true,true,true,true,true,true,true,true,true,true,true,true,true,true,true,false,false,false] rfl rfl (one_of HT_.out (by kernel_rfl)) (by decide) (fun K hK=>?_);refine value_ (w1:=?_) (v:=?_) (by rfl) rfl ?_ ?_;rotate_left 2
       ·go_simp;constructor
        ·rfl
        rfl
       refine hK.out _ _ ⟨(blk_cell (blk_alloc BK490.out _) 0).trans rfl,(blk_cell (blk_alloc BK488.out _) 0).trans rfl,(World.cell?_alloc_lt _ _ _ (World.block_lt_of_cell? _ _ (((HB.out.cell (World.block_lt_of_cell? w _ hw491_0)).trans hw491_0)))).trans (((HB.out.cell (World.block_lt_of_cell? w _ hw491_0)).trans hw491_0)),(World.cell?_alloc_lt _ _ _ (World.block_lt_of_cell? _ _ (((HB.out.cell (World.block_lt_of_cell? w _ hw491_1)).trans hw491_1)))).trans (((HB.out.cell (World.block_lt_of_cell? w _ hw491_1)).trans hw491_1)),(World.cell?_alloc_lt _ _ _ (World.block_lt_of_cell? _ _ (((HB.out.cell (World.block_lt_of_cell? w _ hw495_0)).trans hw495_0)))).trans (((HB.out.cell (World.block_lt_of_cell? w _ hw495_0)).trans hw495_0)),(World.cell?_alloc_lt _ _ _ (World.block_lt_of_cell? _ _ (((HB.out.cell (World.block_lt_of_cell? w _ hw495_1)).trans hw495_1)))).trans (((HB.out.cell (World.block_lt_of_cell? w _ hw495_1)).trans hw495_1))⟩ (fun hHeld=>?_);clear hK K;refine norm_ (a':=?_) ?_ ?_;rotate_left
       ·show Act.put _ (some 30) _ = _;simp only [Act.put,List.setIfInBounds_toArray,List.set_cons_zero,List.set_cons_succ,i64_w,i32_w];rfl
       refine one_ (i:=18) (N:=some 31) #[true,true,true,true,true,true,true,true,true,true,true,true,true,true,true,true,true,true,true,false,false] rfl rfl (one_of HT_.out (by kernel_rfl)) (by decide) (fun K hK=>?_);refine Kd.S_append_step k133 (w0:=w) w.heap.size (by rfl) (.tmp 14) (.tmp 30) 42 133 (.agg #[(.bool false),(.slice none 0 0)]) 32 rfl Try.underlying42 info133 rfl (by decide) (by omega) u491000 x491000_1 (⟨(rd_T133 l0_0 x4_1).f0,y496⟩ : S133) [.bool ((rd_T133 l0_0 x4_1).f0),.slice Ao19 y496.length co19] (fun _=>True) (fun k_=>some k_ = (.slice Ao19 y496.length co19 : Value).ownBlock) rfl rfl ?aP (fun k_ hk_=>((Kd.R_mono (ok':=fun k_=>((fun _=>True)) k_ ∧ some k_ ≠ (u491000 : Value).ownBlock) (Kd.R_apart' (HO498.out) (Kd.S_typed HO_491000.out) (by decide)) (fun k_ hk=>⟨trivial,hk.2⟩))).1 k_ hk_.symm) ?aF ?aO ?aB ?aS ?aL ?_
       (case aP=>exact k133_mkM _ _ _ (⟨(rd_T133 l0_0 x4_1).f0,y496⟩ : S133) (Kd.R_mono (Kd.R_tight rfl (Kd.R_mono (ok':=fun k_=>((fun _=>True)) k_ ∧ some k_ ≠ (u491000 : Value).ownBlock) (Kd.R_apart' (HO498.out) (Kd.S_typed HO_491000.out) (by decide)) (fun k_ hk=>⟨trivial,hk.2⟩))) (fun _ h_=>h_)))
       (case aB=>exact (hs3 HB GE488 GE489 GE490))
       (case aF=>exact (fun _ _=>trivial))
       (case aO=>exact (by (with_reducible repeat (first | apply Kd.S_alloc | apply Kd.S_drewN | apply Kd.S_drew));exact Kd.S_mono HO_491000.out (fun k_ hk=>⟨trivial,fun e_=>hk.2 e_⟩)))
       (case aS=>exact (below_size (hs3 HB GE488 GE489 GE490)))
       (case aL=>have:=LMc11.out;omega)
       intro v500 w20 ho hb hg hat;rw [← Ny499.out] at ho;have n0_:=Aside0.mk (blk_grown (g:=gb488) (o:=.cells #[.slice (some ad491) l0_0.length c0_0] 44 (0,0)) (bs BK488) hg (Kd.S_ne HO_491000.out BK488.out (by decide)));have n1_:=Aside0.mk (blk_grown (g:=gb489) (o:=.cells #[.slice none 0 0] 44 (0,0)) (bs BK489) hg (Kd.S_ne HO_491000.out BK489.out (by decide)));have n2_:=Aside0.mk (blk_grown (g:=gb490) (o:=.cells #[u491000] 44 (0,0)) (bs BK490) hg (Kd.S_ne HO_491000.out BK490.out (by decide)));have n3_:=Aside0.mk (hb);have n4_:=Aside0.mk (ho);clear BK488;clear BK489;clear BK490;clear HB;clear HO_491000;clear HO498;have BK488:=n0_;have BK489:=n1_;have BK490:=n2_;have HB:=n3_;have HO501:=n4_;clear n0_ n1_ n2_ n3_ n4_;clear ho hb hg hat;obtain ⟨Ao21,co21,eo21⟩:=Kd.S_slice HO501.out
       (first | subst eo21 | (injection eo21 with f1_ f2_ f3_;have f4_:=f1_.symm;have f5_:=f3_.symm;clear f1_ f2_ f3_;subst f4_;subst f5_))
       refine hK.out _ _ ⟨(blk_cell BK490.out 0).trans rfl,(blk_cell BK488.out 0).trans rfl,((HB.out.cell (World.block_lt_of_cell? w _ hw491_0)).trans hw491_0),((HB.out.cell (World.block_lt_of_cell? w _ hw491_1)).trans hw491_1),((HB.out.cell (World.block_lt_of_cell? w _ hw495_0)).trans hw495_0),((HB.out.cell (World.block_lt_of_cell? w _ hw495_1)).trans hw495_1)⟩ (fun hHeld=>?_);clear hK K;refine norm_ (a':=?_) ?_ ?_;rotate_left
       ·show Act.put _ (some 31) _ = _;simp only [Act.put,List.setIfInBounds_toArray,List.set_cons_zero,List.set_cons_succ,i64_w,i32_w];rfl
       refine pure_ (i:=19) (N:=some 32) (v:=?_) (a':=?_) #[true,true,true,true,true,true,true,true,true,true,true,true,true,true,true,true,true,true,true,true,false] rfl rfl (any_of HT_.out (by kernel_rfl)) (fun _ _ _ h=>h) (Or.inl ⟨by rfl,?_⟩) ?_ ?_;rotate_left
       ·intro w';go_simp;with_reducible rfl
       rotate_left
       ·simp only [Act.put,List.setIfInBounds_toArray,List.set_cons_zero,List.set_cons_succ,i64_w,i32_w];rfl
       refine last_ (i:=20) (N:=none) #[true,true,true,true,true,true,true,true,true,true,true,true,true,true,true,true,true,true,true,true,true] rfl rfl (one_of HT_.out (by kernel_rfl)) (by decide) (fun K hK=>?_);have hs22 : w20.cell? ⟨gb490,0,none⟩ = some (u491000):=(blk_cell BK490.out 0).trans rfl;have hfs22:=blk_frozen BK490.out 0;have hns22_0:=NB488_490.out;have hns22_1:=NB489_490.out;have hms22_0:=NB490_488.out;have hms22_1:=NB490_489.out;refine skip_ (w1:=?_) (by rfl) rfl ?_ ?_;rotate_left
       ·go_simp;rfl
       refine hK.out _ _ ?_;clear hK K;refine done_ (done_of HT_.out (by kernel_rfl)) ?_
       try go_wp2
       go_roundg k1;case measure=>have:=HK1.out;omega
       case rel=>exact ⟨(wrap64 (x4_1 + 1)),(y499),(.slice Ao21 y499.length co21),(by first | rfl | (simp;done) | (simp [*];done)),H',⟨by have:=HK1.out;omega⟩,⟨by (with_reducible repeat (first | apply Kd.S_alloc | apply Kd.S_drewN | apply Kd.S_drew));exact Kd.S_mono (Kd.S_far (p:=⟨gb490,0,none⟩) (Kd.S_types HO501.out BK490.out (by decide)) (fun _ hk=>hk.2) (.slice Ao21 y499.length co21)) (fun _ hk=>trivial)⟩,⟨by (with_reducible repeat (first | refine blk_drewN ?_ _ | refine blk_drew ?_ | refine blk_alloc ?_ _));refine blk_far ?_ NB488_490.out _;(with_reducible repeat (first | refine blk_drewN ?_ _ | refine blk_drew ?_ | refine blk_alloc ?_ _));exact BK488.out⟩,⟨by (with_reducible repeat (first | refine blk_drewN ?_ _ | refine blk_drew ?_ | refine blk_alloc ?_ _));refine blk_far ?_ NB489_490.out _;(with_reducible repeat (first | refine blk_drewN ?_ _ | refine blk_drew ?_ | refine blk_alloc ?_ _));exact BK489.out⟩,⟨by (with_reducible repeat (first | refine blk_drewN ?_ _ | refine blk_drew ?_ | refine blk_alloc ?_ _));refine blk_put (cs:=#[u491000]) ?_ 0 _ rfl;(with_reducible repeat (first | refine blk_drewN ?_ _ | refine blk_drew ?_ | refine blk_alloc ?_ _));exact BK490.out⟩,⟨hs3 HB GE488 GE489 GE490⟩⟩
      rw [if_neg c11] at H;exact absurd H (by simp)
     rw [if_neg c10] at H;exact absurd H (by simp)
    rw [if_neg c9] at H;exact absurd H (by simp)
   rw [if_neg c8] at H;have c8b0 : decide (x4_1 < (l0_0.length : Int)) = false:=decide_eq_false c8;clear c8;obtain rfl:=Option.some.inj H;have hnb23:=NB488_489.out;have hnc23:=NB489_488.out;have hnb24:=NB488_490.out;have hnc24:=NB490_488.out;have hcz25_0 : wr.cell? ⟨gb488,0,none⟩ = some (.slice A0_0 l0_0.length c0_0):=(blk_cell BK488.out 0).trans rfl;have hfz25_0:=blk_frozen BK488.out 0;have hnb26:=NB490_489.out;have hnc26:=NB489_490.out;have hcz27_0 : wr.cell? ⟨gb490,0,none⟩ = some (u491000):=(blk_cell BK490.out 0).trans rfl;have hfz27_0:=blk_frozen BK490.out 0;obtain ⟨Ao28,co28,eo28⟩:=Kd.S_slice HO_491000.out;subst eo28;have hcz29_0 : wr.cell? ⟨gb489,0,none⟩ = some (.slice none 0 0):=(blk_cell BK489.out 0).trans rfl;have hfz29_0:=blk_frozen BK489.out 0
   go_wp2
   refine bodyPost_ret (results_cell_row rfl _ _ gb489 44 #[.slice Ao28 x491000_1.length co28] (0,0) _ rfl (by (with_reducible repeat (first | refine blk_drewN ?_ _ | refine blk_drew ?_ | refine blk_alloc ?_ _));refine blk_put (cs:=#[.slice none 0 0]) ?_ 0 _ rfl;(with_reducible repeat (first | refine blk_drewN ?_ _ | refine blk_drew ?_ | refine blk_alloc ?_ _));exact BK489.out) Try.underlying44 rfl (by kernel_rfl)) rfl ?_;exact ⟨_,by first | rfl | (simp [errW_none,errW_some] <;> rfl) | (simp [*,errW_none,errW_some] <;> rfl),by (with_reducible repeat (first | apply Kd.S_alloc | apply Kd.S_drewN | apply Kd.S_drew));exact Kd.S_mono (Kd.S_far (p:=⟨gb489,0,none⟩) (Kd.S_types HO_491000.out BK489.out (by decide)) (fun _ hk=>hk.2) (.slice Ao28 x491000_1.length co28)) (fun _ hk=>trivial),hs3 HB GE488 GE489 GE490⟩
end Go.Proofs.Ytdolplcbokioaaa.PB

namespace Go.Proofs.Ytdolplcbokioaaa.PB
open Go.RowKit Go.Proofs.YtdolplcbokioaaaW.PrintWords Go.Proofs.YtdolplcbokioaaaW.PrintLast Go.Proofs.YtdolplcbokioaaaW.PrintMore
attribute [local go_sem] max2_int min2_int max_two min_two max_three min_three max_four min_four   -- for this text's walks alone
set_option linter.unusedVariables false
set_option linter.unusedSimpArgs false
def spec_l01In.f (a0 : Int) (a1 : Int) (a2 : Int) : Option (Bool):=if a0 ≥ a1 then (some (decide (a0 ≤ a2))) else (some false)
set_option maxHeartbeats 8000000 in
set_option maxRecDepth 100000 in
theorem spec_l01In.calls (a0 : Int) (a1 : Int) (a2 : Int) (r : Bool) (w : World) (h : spec_l01In.f a0 a1 a2 = some r) :
  Calls Try.prog 86 #[.int .i64 a0,.int .i64 a1,.int .i64 a2] w fun e w'=>e = .returned (.bool r) ∧ Drawn0 w w':=by
 have H : (if a0 ≥ a1 then (some (decide (a0 ≤ a2))) else (some false)) = some r:=h;clear h
 by_cases c4 : a0 ≥ a1
 ·rw [if_pos c4] at H;have c4b0 : decide (a1 ≤ a0) = true:=decide_eq_true c4;clear c4;obtain rfl:=Option.some.inj H
  go_enter Try.func86,Try.ntmps86
  go_wp2
  go_ret
  exact ⟨by first | rfl | (simp;done) | (simp [*];done),by repeat (first | exact Drawn0.refl _ | apply Drawn0.step)⟩
 rw [if_neg c4] at H;have c4b0 : decide (a1 ≤ a0) = false:=decide_eq_false c4;clear c4;obtain rfl:=Option.some.inj H
 go_enter Try.func86,Try.ntmps86
 go_wp2
 go_ret
 exact ⟨by first | rfl | (simp;done) | (simp [*];done),by repeat (first | exact Drawn0.refl _ | apply Drawn0.step)⟩
end Go.Proofs.Ytdolplcbokioaaa.PB

namespace Go.Proofs.Ytdolplcbokioaaa.PB
open Go.RowKit Go.Proofs.YtdolplcbokioaaaW.PrintWords Go.Proofs.YtdolplcbokioaaaW.PrintLast Go.Proofs.YtdolplcbokioaaaW.PrintMore
attribute [local go_sem] max2_int min2_int max_two min_two max_three min_three max_four min_four   -- for this text's walks alone
set_option linter.unusedVariables false
set_option linter.unusedSimpArgs false
mutual
def spec_ArenaOk.l0 : Nat → Int → List (S133) → Option (Bool)
 | 0,_,_=>none
 | k + 1,x3,x503000=>if x3 < (x503000.length : Int) then (if 0 ≤ x3 then (if (((rd_T133 x503000 x3).f1).length : Int) = 4 then (spec_ArenaOk.l1 k x3 0 x503000 ((rd_T133 x503000 x3).f0) ((rd_T133 x503000 x3).f1)) else (some false)) else (none)) else (some true)
def spec_ArenaOk.l1 : Nat → Int → Int → List (S133) → Bool → List Int → Option (Bool)
 | 0,_,_,_,_,_=>none
 | k + 1,x3,x5,x503000,x505000,x505001=>if x5 < 4 then (if 0 ≤ x5 then (if x5 < (x505001.length : Int) then (if x505000 = true then (if (rd x505001 x5) < 0 then (some false) else (spec_ArenaOk.l1 k x3 (wrap64 (x5 + 1)) x503000 x505000 x505001)) else (if (rd x505001 x5) = (-1) then (spec_ArenaOk.l1 k x3 (wrap64 (x5 + 1)) x503000 x505000 x505001) else ((spec_l01In.f (rd x505001 x5) 0 (wrap64 (x3 - 1))).bind fun t506=>(if t506 = true then (if 0 ≤ (rd x505001 x5) then (if (rd x505001 x5) < (x503000.length : Int) then (if ((rd_T133 x503000 (rd x505001 x5)).f0 = true) then (spec_ArenaOk.l1 k x3 (wrap64 (x5 + 1)) x503000 x505000 x505001) else (some false)) else (none)) else (none)) else (some false))))) else (none)) else (none)) else (spec_ArenaOk.l0 k (wrap64 (x3 + 1)) x503000)
end
def spec_ArenaOk.f (k : Nat) (l0_0 : List (S133)) : Option (Bool):=spec_ArenaOk.l0 k 0 l0_0
theorem spec_ArenaOk.mono_l : ∀ k,(∀ y0 y1,LeO (spec_ArenaOk.l0 k y0 y1) (spec_ArenaOk.l0 (k + 1) y0 y1)) ∧ (∀ y0 y1 y2 y3 y4,LeO (spec_ArenaOk.l1 k y0 y1 y2 y3 y4) (spec_ArenaOk.l1 (k + 1) y0 y1 y2 y3 y4))
 | 0=>⟨fun _ _ r h=>by simp [spec_ArenaOk.l0] at h,fun _ _ _ _ _ r h=>by simp [spec_ArenaOk.l1] at h⟩
 | k + 1=>by
  obtain ⟨ih0,ih1⟩:=spec_ArenaOk.mono_l k;refine ⟨?_,?_⟩
  ·intro y0 y1;unfold spec_ArenaOk.l0
   repeat' first
   | (with_reducible exact ih0 _ _)
   | (with_reducible exact ih1 _ _ _ _ _)
   | (with_reducible exact LeO.refl _)
   | (with_reducible exact LeO.none _)
   | (with_reducible refine LeO.ite ?_ ?_)
   | (with_reducible refine LeO.bind ?_ (fun _=>?_))
   | exact ih0 _ _
   | exact ih1 _ _ _ _ _
   | exact LeO.none _
   | refine LeO.ite ?_ ?_
   | refine LeO.bind ?_ (fun _=>?_)
  intro y0 y1 y2 y3 y4;unfold spec_ArenaOk.l1
  repeat' first
  | (with_reducible exact ih0 _ _)
  | (with_reducible exact ih1 _ _ _ _ _)
  | (with_reducible exact LeO.refl _)
  | (with_reducible exact LeO.none _)
  | (with_reducible refine LeO.ite ?_ ?_)
  | (with_reducible refine LeO.bind ?_ (fun _=>?_))
  | exact ih0 _ _
  | exact ih1 _ _ _ _ _
  | exact LeO.none _
  | refine LeO.ite ?_ ?_
  | refine LeO.bind ?_ (fun _=>?_)
theorem spec_ArenaOk.mono : ∀ a0 k,LeO (spec_ArenaOk.f k a0) (spec_ArenaOk.f (k + 1) a0):=by
 intro a0 k;obtain ⟨ih0,ih1⟩:=spec_ArenaOk.mono_l k;unfold spec_ArenaOk.f
 repeat' first
   | (with_reducible exact ih0 _ _)
   | (with_reducible exact ih1 _ _ _ _ _)
   | (with_reducible exact LeO.refl _)
   | (with_reducible exact LeO.none _)
   | (with_reducible refine LeO.ite ?_ ?_)
   | (with_reducible refine LeO.bind ?_ (fun _=>?_))
   | exact ih0 _ _
   | exact ih1 _ _ _ _ _
   | exact LeO.none _
   | refine LeO.ite ?_ ?_
   | refine LeO.bind ?_ (fun _=>?_)
set_option maxHeartbeats 8000000 in
set_option maxRecDepth 100000 in
theorem spec_ArenaOk.calls (k : Nat) (A0_0 : Option Addr) (c0_0 : Nat) (l0_0 : List (S133)) (r : Bool) (w : World) (hr0_0 : Kd.C k133 w A0_0 l0_0.length l0_0) (hc0_0 : l0_0.length ≤ c0_0) (h : spec_ArenaOk.f k l0_0 = some r) :
  Calls Try.prog 99 #[.agg #[.slice A0_0 l0_0.length c0_0]] w fun e w'=>e = .returned (.bool r) ∧ Below w.heap.size w w':=by
 have hu44:=Try.underlying44;have hu133:=Try.underlying133;have HR0_0:=Aside0.mk hr0_0;have HC0_0:=Aside0.mk hc0_0;clear hr0_0 hc0_0;have HB:=Aside0.mk (Below.refl w.heap.size w);have H : (spec_ArenaOk.l0 k 0 l0_0) = some r:=h;clear h;have H':=Aside0.mk H;clear H
 go_enter Try.func99,Try.ntmps99
 go_wp2_with (first | ((with_reducible refine gate_dst (N:=1) rfl ?_);refine box_event ?hg (N:=1) ?hd (cs:=#[.slice A0_0 l0_0.length c0_0]) (t:=44) ?hr ?_;(case hd=>rfl);(case hg=>rfl);(case hr=>first | (go_simp;done) | (go_simp;rfl));intro gb502 hg w2 hbox hb;have n0_:=Aside0.mk (below_step (hs HB) hb);have n1_:=Aside0.mk (hbox);have n2_:=Aside0.mk ((by rw [hg];exact (below_size (hs HB)) : w.heap.size ≤ gb502));have n3_:=Aside0.mk ((by rw [hg];exact (below_size (hs HB)) : w.heap.size ≤ gb502));clear HB;have HB:=n0_;have BK502:=n1_;have GW502:=n2_;have GE502:=n3_;clear n0_ n1_ n2_ n3_;clear hb hbox hg));go_loopg [3] k (fun kq v3 w'=>∃ (x3_1 : Int),v3 = .int .i64 x3_1 ∧ Aside0 (spec_ArenaOk.l0 kq x3_1 l0_0 = some r) ∧ Aside0 (kq ≤ k) ∧ Aside0 (w'.heap[gb502]? = some (.cells #[(.slice A0_0 l0_0.length c0_0)] 44 (0,0))) ∧ Aside0 (Below w.heap.size w w'));case atStart=>exact ⟨(0),(by first | rfl | (simp;done) | (simp [*];done)),H',⟨Nat.le_refl _⟩,⟨bs BK502⟩,⟨hs1 HB GE502⟩⟩
 case round =>
  clear H'
  try clear p2
  obtain ⟨x3_1,rfl,HA,HK1,BK502,HB⟩:=hrel;cases gk with
  | zero=>exact absurd HA.out (by simp [spec_ArenaOk.l0])
  | succ k1 =>
   have H:=HA.out;clear HA;simp only [spec_ArenaOk.l0] at H
   by_cases c3 : x3_1 < (l0_0.length : Int)
   ·rw [if_pos c3] at H;have c3b0 : decide (x3_1 < (l0_0.length : Int)) = true:=decide_eq_true c3;clear c3
    by_cases c4 : 0 ≤ x3_1
    ·rw [if_pos c4] at H;have c4b0 : decide (0 ≤ x3_1) = true:=decide_eq_true c4;clear c4
     by_cases c5 : (((rd_T133 l0_0 x3_1).f1).length : Int) = 4
     ·rw [if_pos c5] at H;have c5b0 : ((((rd_T133 l0_0 x3_1).f1).length : Int) == 4) = true:=beq_iff_eq.mpr c5;have c5b1 : ((((rd_T133 l0_0 x3_1).f1).length : Int) != 4) = false:=bne_eq_false_iff_eq.mpr c5;clear c5;have H':=Aside0.mk H;clear H;have hcz6_0 : wr.cell? ⟨gb502,0,none⟩ = some (.slice A0_0 l0_0.length c0_0):=(blk_cell BK502.out 0).trans rfl;have hfz6_0:=blk_frozen BK502.out 0;have p503 : 0 ≤ (x3_1 : Int):=of_decide_eq_true (by first | (with_reducible assumption) | assumption);have q503 : x3_1 < (l0_0.length : Int):=of_decide_eq_true (by first | (with_reducible assumption) | assumption);obtain ⟨ad503,A503_1,c503_1,e503,hx503_0,hx503_1,hl503_1,hi503_1⟩:=at_T133 HR0_0.out x3_1 p503 q503;cases e503;replace hx503_0:=(HB.out.cell (World.block_lt_of_cell? w _ hx503_0)).trans hx503_0;replace hx503_1:=(HB.out.cell (World.block_lt_of_cell? w _ hx503_1)).trans hx503_1;have HR503_1:=Aside0.mk hi503_1;have HC503_1:=Aside0.mk hl503_1;clear hi503_1 hl503_1;replace p503:=eq_true p503;replace q503:=eq_true q503;go_wp2_with (first | ((with_reducible refine gate_dst (N:=4) rfl ?_);refine box_event ?hg (N:=4) ?hd (cs:=#[.bool false,.slice none 0 0]) (t:=133) ?hr ?_;(case hd=>rfl);(case hg=>rfl);(case hr=>first | (go_simp;done) | (go_simp;rfl));intro gb504 hg w7 hbox hb;have n0_:=Aside0.mk (blk_below (g:=gb502) (o:=.cells #[.slice (some ad503) l0_0.length c0_0] 44 (0,0)) (bs BK502) hb);have n1_:=Aside0.mk (below_step (hs1 HB GE502) hb);have n2_:=Aside0.mk (hbox);have n3_:=Aside0.mk ((by rw [hg];exact (below_size (hs1 HB GE502)) : w.heap.size ≤ gb504));have n4_:=Aside0.mk ((by rw [hg];exact (below_size (hs1 HB GE502)) : w.heap.size ≤ gb504));have n5_:=Aside0.mk ((by rw [hg];exact Nat.ne_of_lt (blk_lt (g:=gb502) (o:=.cells #[.slice (some ad503) l0_0.length c0_0] 44 (0,0)) (bs BK502)) : gb502 ≠ gb504));have n6_:=Aside0.mk ((by rw [hg];exact Nat.ne_of_gt (blk_lt (g:=gb502) (o:=.cells #[.slice (some ad503) l0_0.length c0_0] 44 (0,0)) (bs BK502)) : gb504 ≠ gb502));clear BK502;clear HB;have BK502:=n0_;have HB:=n1_;have BK504:=n2_;have GW504:=n3_;have GE504:=n4_;have NB502_504:=n5_;have NB504_502:=n6_;clear n0_ n1_ n2_ n3_ n4_ n5_ n6_;clear hb hbox hg;have hnb8:=NB504_502.out;have hnc8:=NB502_504.out;have hcz9_0 : w7.cell? ⟨gb504,0,none⟩ = some (.bool false):=(blk_cell BK504.out 0).trans rfl;have hcz9_1 : w7.cell? ⟨gb504,1,none⟩ = some (.slice none 0 0):=(blk_cell BK504.out 1).trans rfl;have hfz9_0:=blk_frozen BK504.out 0;have hfz9_1:=blk_frozen BK504.out 1))
      (try generalize (Value.agg #[.bool ((rd_T133 l0_0 x3_1).f0),.slice A503_1 ((rd_T133 l0_0 x3_1).f1).length c503_1]) = gd18)
      go_loopg [5] k1 (fun kq v5 w'=>∃ (x5_2 : Int),v5 = .int .i64 x5_2 ∧ Aside0 (spec_ArenaOk.l1 kq x3_1 x5_2 l0_0 ((rd_T133 l0_0 x3_1).f0) ((rd_T133 l0_0 x3_1).f1) = some r) ∧ Aside0 (kq ≤ k1) ∧ Aside0 (w'.heap[gb502]? = some (.cells #[(.slice (some ad503) l0_0.length c0_0)] 44 (0,0))) ∧ Aside0 (w'.heap[gb504]? = some (.cells #[.bool ((rd_T133 l0_0 x3_1).f0),(.slice A503_1 ((rd_T133 l0_0 x3_1).f1).length c503_1)] 133 (0,0))) ∧ Aside0 (Below w.heap.size w w'));case atStart=>exact ⟨(0),(by first | rfl | (simp;done) | (simp [*];done)),H',⟨Nat.le_refl _⟩,⟨by (with_reducible repeat (first | refine blk_drewN ?_ _ | refine blk_drew ?_ | refine blk_alloc ?_ _));refine blk_far ?_ NB502_504.out _;(with_reducible repeat (first | refine blk_drewN ?_ _ | refine blk_drew ?_ | refine blk_alloc ?_ _));refine blk_far ?_ NB502_504.out _;(with_reducible repeat (first | refine blk_drewN ?_ _ | refine blk_drew ?_ | refine blk_alloc ?_ _));exact BK502.out⟩,⟨by (with_reducible repeat (first | refine blk_drewN ?_ _ | refine blk_drew ?_ | refine blk_alloc ?_ _));refine blk_put (cs:=#[.bool ((rd_T133 l0_0 x3_1).f0),.slice none 0 0]) ?_ 1 _ rfl;(with_reducible repeat (first | refine blk_drewN ?_ _ | refine blk_drew ?_ | refine blk_alloc ?_ _));refine blk_put (cs:=#[.bool false,.slice none 0 0]) ?_ 0 _ rfl;(with_reducible repeat (first | refine blk_drewN ?_ _ | refine blk_drew ?_ | refine blk_alloc ?_ _));exact BK504.out⟩,⟨hs2 HB GE502 GE504⟩⟩
      case round =>
       clear H'
       try clear p2
       try clear c3
       try clear c3b0
       try clear c4
       try clear c4b0
       try clear c5
       try clear c5b0
       try clear c5b1
       try clear p5
       try clear q5
       try clear hx5
       try clear c8
       try clear c9
       try clear hcz6_0
       try clear hcz9_0
       try clear hcz9_1
       try clear hfz6_0
       try clear hfz9_0
       try clear hfz9_1
       try clear hx503_0
       try clear hx503_1
       try clear p2
       try clear p503
       try clear q503
       obtain ⟨x5_2,rfl,HA,HK2,BK502,BK504,HB⟩:=hrel;cases gk with
       | zero=>exact absurd HA.out (by simp [spec_ArenaOk.l1])
       | succ k2 =>
        have H:=HA.out;clear HA;simp only [spec_ArenaOk.l1] at H
        by_cases c10 : x5_2 < 4
        ·rw [if_pos c10] at H;have c10b0 : decide (x5_2 < 4) = true:=decide_eq_true c10;clear c10
         by_cases c11 : 0 ≤ x5_2
         ·rw [if_pos c11] at H;have c11b0 : decide (0 ≤ x5_2) = true:=decide_eq_true c11;clear c11
          by_cases c12 : x5_2 < (((rd_T133 l0_0 x3_1).f1).length : Int)
          ·rw [if_pos c12] at H;have c12b0 : decide (x5_2 < (((rd_T133 l0_0 x3_1).f1).length : Int)) = true:=decide_eq_true c12;clear c12
           by_cases c13 : ((rd_T133 l0_0 x3_1).f0) = true
           ·rw [if_pos c13] at H;have c13b0 : ((rd_T133 l0_0 x3_1).f0) = true:=c13;clear c13
            by_cases c14 : (rd ((rd_T133 l0_0 x3_1).f1) x5_2) < 0
            ·rw [if_pos c14] at H;have c14b0 : decide ((rd ((rd_T133 l0_0 x3_1).f1) x5_2) < 0) = true:=decide_eq_true c14;clear c14;obtain rfl:=Option.some.inj H;have hnb15:=NB504_502.out;have hnc15:=NB502_504.out;have hcz16_0 : wr.cell? ⟨gb504,0,none⟩ = some (.bool ((rd_T133 l0_0 x3_1).f0)):=(blk_cell BK504.out 0).trans rfl;have hcz16_1 : wr.cell? ⟨gb504,1,none⟩ = some (.slice A503_1 ((rd_T133 l0_0 x3_1).f1).length c503_1):=(blk_cell BK504.out 1).trans rfl;have hfz16_0:=blk_frozen BK504.out 0;have hfz16_1:=blk_frozen BK504.out 1;have p505 : 0 ≤ (x5_2 : Int):=of_decide_eq_true (by first | (with_reducible assumption) | assumption);have q505 : x5_2 < (((rd_T133 l0_0 x3_1).f1).length : Int):=of_decide_eq_true (by first | (with_reducible assumption) | assumption);obtain ⟨ad505,e505,hx505_0⟩:=Kd.at_int HR503_1.out x5_2 p505 q505;cases e505;replace hx505_0:=(HB.out.cell (World.block_lt_of_cell? w _ hx505_0)).trans hx505_0;replace p505:=eq_true p505;replace q505:=eq_true q505
             go_wp2
             go_ret
             exact ⟨by first | rfl | (simp [errW_none,errW_some] <;> rfl) | (simp [*,errW_none,errW_some] <;> rfl),hs2 HB GE502 GE504⟩
            rw [if_neg c14] at H;have c14b0 : decide ((rd ((rd_T133 l0_0 x3_1).f1) x5_2) < 0) = false:=decide_eq_false c14;clear c14;have H':=Aside0.mk H;clear H;have hnb17:=NB504_502.out;have hnc17:=NB502_504.out;have hcz18_0 : wr.cell? ⟨gb504,0,none⟩ = some (.bool ((rd_T133 l0_0 x3_1).f0)):=(blk_cell BK504.out 0).trans rfl;have hcz18_1 : wr.cell? ⟨gb504,1,none⟩ = some (.slice A503_1 ((rd_T133 l0_0 x3_1).f1).length c503_1):=(blk_cell BK504.out 1).trans rfl;have hfz18_0:=blk_frozen BK504.out 0;have hfz18_1:=blk_frozen BK504.out 1;have p505 : 0 ≤ (x5_2 : Int):=of_decide_eq_true (by first | (with_reducible assumption) | assumption);have q505 : x5_2 < (((rd_T133 l0_0 x3_1).f1).length : Int):=of_decide_eq_true (by first | (with_reducible assumption) | assumption);obtain ⟨ad505,e505,hx505_0⟩:=Kd.at_int HR503_1.out x5_2 p505 q505;cases e505;replace hx505_0:=(HB.out.cell (World.block_lt_of_cell? w _ hx505_0)).trans hx505_0;replace p505:=eq_true p505;replace q505:=eq_true q505
            go_wp2
            go_roundg k2;case measure=>have:=HK1.out;have:=HK2.out;omega
            case rel=>exact ⟨(wrap64 (x5_2 + 1)),(by first | rfl | (simp;done) | (simp [*];done)),H',⟨by have:=HK1.out;have:=HK2.out;omega⟩,⟨bs BK502⟩,⟨bs BK504⟩,⟨hs2 HB GE502 GE504⟩⟩
           rw [if_neg c13] at H;have c13b0 : ((rd_T133 l0_0 x3_1).f0) = false:=by simpa using c13
           clear c13
           by_cases c19 : (rd ((rd_T133 l0_0 x3_1).f1) x5_2) = (-1)
           ·rw [if_pos c19] at H;have c19b0 : ((rd ((rd_T133 l0_0 x3_1).f1) x5_2) == (-1)) = true:=beq_iff_eq.mpr c19;have c19b1 : ((rd ((rd_T133 l0_0 x3_1).f1) x5_2) != (-1)) = false:=bne_eq_false_iff_eq.mpr c19;clear c19;have H':=Aside0.mk H;clear H;have hnb20:=NB504_502.out;have hnc20:=NB502_504.out;have hcz21_0 : wr.cell? ⟨gb504,0,none⟩ = some (.bool ((rd_T133 l0_0 x3_1).f0)):=(blk_cell BK504.out 0).trans rfl;have hcz21_1 : wr.cell? ⟨gb504,1,none⟩ = some (.slice A503_1 ((rd_T133 l0_0 x3_1).f1).length c503_1):=(blk_cell BK504.out 1).trans rfl;have hfz21_0:=blk_frozen BK504.out 0;have hfz21_1:=blk_frozen BK504.out 1;have p505 : 0 ≤ (x5_2 : Int):=of_decide_eq_true (by first | (with_reducible assumption) | assumption);have q505 : x5_2 < (((rd_T133 l0_0 x3_1).f1).length : Int):=of_decide_eq_true (by first | (with_reducible assumption) | assumption);obtain ⟨ad505,e505,hx505_0⟩:=Kd.at_int HR503_1.out x5_2 p505 q505;cases e505;replace hx505_0:=(HB.out.cell (World.block_lt_of_cell? w _ hx505_0)).trans hx505_0;replace p505:=eq_true p505;replace q505:=eq_true q505
            go_wp2
            go_roundg k2;case measure=>have:=HK1.out;have:=HK2.out;omega
            case rel=>exact ⟨(wrap64 (x5_2 + 1)),(by first | rfl | (simp;done) | (simp [*];done)),H',⟨by have:=HK1.out;have:=HK2.out;omega⟩,⟨bs BK502⟩,⟨bs BK504⟩,⟨hs2 HB GE502 GE504⟩⟩
           rw [if_neg c19] at H;have c19b0 : ((rd ((rd_T133 l0_0 x3_1).f1) x5_2) == (-1)) = false:=beq_eq_false_iff_ne.mpr c19;have c19b1 : ((rd ((rd_T133 l0_0 x3_1).f1) x5_2) != (-1)) = true:=bne_iff_ne.mpr c19;replace H:=Option.bind_eq_some_iff.mp H;obtain ⟨t506,A220,H⟩:=H;replace H : (if t506 = true then (if 0 ≤ (rd ((rd_T133 l0_0 x3_1).f1) x5_2) then (if (rd ((rd_T133 l0_0 x3_1).f1) x5_2) < (l0_0.length : Int) then (if ((rd_T133 l0_0 (rd ((rd_T133 l0_0 x3_1).f1) x5_2)).f0 = true) then (spec_ArenaOk.l1 k2 x3_1 (wrap64 (x5_2 + 1)) l0_0 ((rd_T133 l0_0 x3_1).f0) ((rd_T133 l0_0 x3_1).f1)) else (some false)) else (none)) else (none)) else (some false)) = some r:=H;have A22:=Aside0.mk A220;clear A220
           by_cases c23 : t506 = true
           ·subst c23;have H1 : (if 0 ≤ (rd ((rd_T133 l0_0 x3_1).f1) x5_2) then (if (rd ((rd_T133 l0_0 x3_1).f1) x5_2) < (l0_0.length : Int) then (if ((rd_T133 l0_0 (rd ((rd_T133 l0_0 x3_1).f1) x5_2)).f0 = true) then (spec_ArenaOk.l1 k2 x3_1 (wrap64 (x5_2 + 1)) l0_0 ((rd_T133 l0_0 x3_1).f0) ((rd_T133 l0_0 x3_1).f1)) else (some false)) else (none)) else (none)) = some r:=by rw [if_pos rfl] at H;exact H
            clear H;have H:=H1;clear H1
            by_cases c24 : 0 ≤ (rd ((rd_T133 l0_0 x3_1).f1) x5_2)
            ·rw [if_pos c24] at H;have c24b0 : decide (0 ≤ (rd ((rd_T133 l0_0 x3_1).f1) x5_2)) = true:=decide_eq_true c24;clear c24
             by_cases c25 : (rd ((rd_T133 l0_0 x3_1).f1) x5_2) < (l0_0.length : Int)
             ·rw [if_pos c25] at H;have c25b0 : decide ((rd ((rd_T133 l0_0 x3_1).f1) x5_2) < (l0_0.length : Int)) = true:=decide_eq_true c25;clear c25;obtain ⟨bq26,hbq26⟩ : ∃ b_ : Bool,b_ = ((rd_T133 l0_0 (rd ((rd_T133 l0_0 x3_1).f1) x5_2)).f0):=⟨_,rfl⟩;replace H : (if (bq26 = true) then (spec_ArenaOk.l1 k2 x3_1 (wrap64 (x5_2 + 1)) l0_0 ((rd_T133 l0_0 x3_1).f0) ((rd_T133 l0_0 x3_1).f1)) else (some false)) = some r:=by rw [← hbq26] at H;exact H
              have Nbq26:=Aside0.mk hbq26;clear hbq26
              (try rw [← Nbq26.out] at A22)
              by_cases c27 : (bq26 = true)
              ·subst c27;have H1 : (spec_ArenaOk.l1 k2 x3_1 (wrap64 (x5_2 + 1)) l0_0 ((rd_T133 l0_0 x3_1).f0) ((rd_T133 l0_0 x3_1).f1)) = some r:=by rw [if_pos rfl] at H;exact H
               clear H;have H:=H1;clear H1;have H':=Aside0.mk H;clear H;have hnb28:=NB504_502.out;have hnc28:=NB502_504.out;have hcz29_0 : wr.cell? ⟨gb504,0,none⟩ = some (.bool ((rd_T133 l0_0 x3_1).f0)):=(blk_cell BK504.out 0).trans rfl;have hcz29_1 : wr.cell? ⟨gb504,1,none⟩ = some (.slice A503_1 ((rd_T133 l0_0 x3_1).f1).length c503_1):=(blk_cell BK504.out 1).trans rfl;have hfz29_0:=blk_frozen BK504.out 0;have hfz29_1:=blk_frozen BK504.out 1;have p505 : 0 ≤ (x5_2 : Int):=of_decide_eq_true (by first | (with_reducible assumption) | assumption);have q505 : x5_2 < (((rd_T133 l0_0 x3_1).f1).length : Int):=of_decide_eq_true (by first | (with_reducible assumption) | assumption);obtain ⟨ad505,e505,hx505_0⟩:=Kd.at_int HR503_1.out x5_2 p505 q505;cases e505;replace hx505_0:=(HB.out.cell (World.block_lt_of_cell? w _ hx505_0)).trans hx505_0;replace p505:=eq_true p505;replace q505:=eq_true q505;go_wp2_with (first | (go_at_call 86;(with_reducible refine (spec_l01In.calls (rd ((rd_T133 l0_0 x3_1).f1) x5_2) 0 (wrap64 (x3_1 - 1)) true _ A22.out).mono ?_);rintro e w' ⟨rfl,⟨nd,rfl⟩⟩;have hcz30_0 : wr.cell? ⟨gb502,0,none⟩ = some (.slice (some ad503) l0_0.length c0_0):=(blk_cell BK502.out 0).trans rfl;have hfz30_0:=blk_frozen BK502.out 0;have p507 : 0 ≤ ((rd ((rd_T133 l0_0 x3_1).f1) x5_2) : Int):=of_decide_eq_true (by first | (with_reducible assumption) | assumption);have q507 : (rd ((rd_T133 l0_0 x3_1).f1) x5_2) < (l0_0.length : Int):=of_decide_eq_true (by first | (with_reducible assumption) | assumption);obtain ⟨ad507,A507_1,c507_1,e507,hx507_0,hx507_1,hl507_1,hi507_1⟩:=at_T133 HR0_0.out (rd ((rd_T133 l0_0 x3_1).f1) x5_2) p507 q507;(try rw [← Nbq26.out] at hx507_0);obtain rfl : ad503 = ad507:=(by injection e507);replace hx507_0:=(HB.out.cell (World.block_lt_of_cell? w _ hx507_0)).trans hx507_0;replace hx507_1:=(HB.out.cell (World.block_lt_of_cell? w _ hx507_1)).trans hx507_1;have HR507_1:=Aside0.mk hi507_1;have HC507_1:=Aside0.mk hl507_1;clear hi507_1 hl507_1;replace p507:=eq_true p507;replace q507:=eq_true q507));go_roundg k2;case measure=>have:=HK1.out;have:=HK2.out;omega
               case rel=>exact ⟨(wrap64 (x5_2 + 1)),(by first | rfl | (simp;done) | (simp [*];done)),H',⟨by have:=HK1.out;have:=HK2.out;omega⟩,⟨bs BK502⟩,⟨bs BK504⟩,⟨hs2 HB GE502 GE504⟩⟩
              replace c27:=Bool.eq_false_iff.mpr c27;subst c27;have H1 : (some false) = some r:=by rw [if_neg (show ¬ (false = true) by decide)] at H;exact H
              clear H;have H:=H1;clear H1;obtain rfl:=Option.some.inj H;have hnb31:=NB504_502.out;have hnc31:=NB502_504.out;have hcz32_0 : wr.cell? ⟨gb504,0,none⟩ = some (.bool ((rd_T133 l0_0 x3_1).f0)):=(blk_cell BK504.out 0).trans rfl;have hcz32_1 : wr.cell? ⟨gb504,1,none⟩ = some (.slice A503_1 ((rd_T133 l0_0 x3_1).f1).length c503_1):=(blk_cell BK504.out 1).trans rfl;have hfz32_0:=blk_frozen BK504.out 0;have hfz32_1:=blk_frozen BK504.out 1;have p505 : 0 ≤ (x5_2 : Int):=of_decide_eq_true (by first | (with_reducible assumption) | assumption);have q505 : x5_2 < (((rd_T133 l0_0 x3_1).f1).length : Int):=of_decide_eq_true (by first | (with_reducible assumption) | assumption);obtain ⟨ad505,e505,hx505_0⟩:=Kd.at_int HR503_1.out x5_2 p505 q505;cases e505;replace hx505_0:=(HB.out.cell (World.block_lt_of_cell? w _ hx505_0)).trans hx505_0;replace p505:=eq_true p505;replace q505:=eq_true q505;go_wp2_with (first | (go_at_call 86;(with_reducible refine (spec_l01In.calls (rd ((rd_T133 l0_0 x3_1).f1) x5_2) 0 (wrap64 (x3_1 - 1)) true _ A22.out).mono ?_);rintro e w' ⟨rfl,⟨nd,rfl⟩⟩;have hcz33_0 : wr.cell? ⟨gb502,0,none⟩ = some (.slice (some ad503) l0_0.length c0_0):=(blk_cell BK502.out 0).trans rfl;have hfz33_0:=blk_frozen BK502.out 0;have p507 : 0 ≤ ((rd ((rd_T133 l0_0 x3_1).f1) x5_2) : Int):=of_decide_eq_true (by first | (with_reducible assumption) | assumption);have q507 : (rd ((rd_T133 l0_0 x3_1).f1) x5_2) < (l0_0.length : Int):=of_decide_eq_true (by first | (with_reducible assumption) | assumption);obtain ⟨ad507,A507_1,c507_1,e507,hx507_0,hx507_1,hl507_1,hi507_1⟩:=at_T133 HR0_0.out (rd ((rd_T133 l0_0 x3_1).f1) x5_2) p507 q507;(try rw [← Nbq26.out] at hx507_0);obtain rfl : ad503 = ad507:=(by injection e507);replace hx507_0:=(HB.out.cell (World.block_lt_of_cell? w _ hx507_0)).trans hx507_0;replace hx507_1:=(HB.out.cell (World.block_lt_of_cell? w _ hx507_1)).trans hx507_1;have HR507_1:=Aside0.mk hi507_1;have HC507_1:=Aside0.mk hl507_1;clear hi507_1 hl507_1;replace p507:=eq_true p507;replace q507:=eq_true q507))
              go_ret
              exact ⟨by first | rfl | (simp [errW_none,errW_some] <;> rfl) | (simp [*,errW_none,errW_some] <;> rfl),hs2 HB GE502 GE504⟩
             rw [if_neg c25] at H;exact absurd H (by simp)
            rw [if_neg c24] at H;exact absurd H (by simp)
           replace c23:=Bool.eq_false_iff.mpr c23;subst c23;have H1 : (some false) = some r:=by rw [if_neg (show ¬ (false = true) by decide)] at H;exact H
           clear H;have H:=H1;clear H1;obtain rfl:=Option.some.inj H;have hnb34:=NB504_502.out;have hnc34:=NB502_504.out;have hcz35_0 : wr.cell? ⟨gb504,0,none⟩ = some (.bool ((rd_T133 l0_0 x3_1).f0)):=(blk_cell BK504.out 0).trans rfl;have hcz35_1 : wr.cell? ⟨gb504,1,none⟩ = some (.slice A503_1 ((rd_T133 l0_0 x3_1).f1).length c503_1):=(blk_cell BK504.out 1).trans rfl;have hfz35_0:=blk_frozen BK504.out 0;have hfz35_1:=blk_frozen BK504.out 1;have p505 : 0 ≤ (x5_2 : Int):=of_decide_eq_true (by first | (with_reducible assumption) | assumption);have q505 : x5_2 < (((rd_T133 l0_0 x3_1).f1).length : Int):=of_decide_eq_true (by first | (with_reducible assumption) | assumption);obtain ⟨ad505,e505,hx505_0⟩:=Kd.at_int HR503_1.out x5_2 p505 q505;cases e505;replace hx505_0:=(HB.out.cell (World.block_lt_of_cell? w _ hx505_0)).trans hx505_0;replace p505:=eq_true p505;replace q505:=eq_true q505;go_wp2_with (first | (go_at_call 86;(with_reducible refine (spec_l01In.calls (rd ((rd_T133 l0_0 x3_1).f1) x5_2) 0 (wrap64 (x3_1 - 1)) false _ A22.out).mono ?_);rintro e w' ⟨rfl,⟨nd,rfl⟩⟩))
           go_ret
           exact ⟨by first | rfl | (simp [errW_none,errW_some] <;> rfl) | (simp [*,errW_none,errW_some] <;> rfl),hs2 HB GE502 GE504⟩
          rw [if_neg c12] at H;exact absurd H (by simp)
         rw [if_neg c11] at H;exact absurd H (by simp)
        rw [if_neg c10] at H;have c10b0 : decide (x5_2 < 4) = false:=decide_eq_false c10;clear c10;have H':=Aside0.mk H;clear H
        go_wp2
        go_roundg k2;case measure=>have:=HK1.out;have:=HK2.out;omega
        case rel=>exact ⟨(wrap64 (x3_1 + 1)),(by first | rfl | (simp;done) | (simp [*];done)),H',⟨by have:=HK1.out;have:=HK2.out;omega⟩,⟨bs BK502⟩,⟨hs2 HB GE502 GE504⟩⟩
     rw [if_neg c5] at H;have c5b0 : ((((rd_T133 l0_0 x3_1).f1).length : Int) == 4) = false:=beq_eq_false_iff_ne.mpr c5;have c5b1 : ((((rd_T133 l0_0 x3_1).f1).length : Int) != 4) = true:=bne_iff_ne.mpr c5;obtain rfl:=Option.some.inj H;have hcz36_0 : wr.cell? ⟨gb502,0,none⟩ = some (.slice A0_0 l0_0.length c0_0):=(blk_cell BK502.out 0).trans rfl;have hfz36_0:=blk_frozen BK502.out 0;have p503 : 0 ≤ (x3_1 : Int):=of_decide_eq_true (by first | (with_reducible assumption) | assumption);have q503 : x3_1 < (l0_0.length : Int):=of_decide_eq_true (by first | (with_reducible assumption) | assumption);obtain ⟨ad503,A503_1,c503_1,e503,hx503_0,hx503_1,hl503_1,hi503_1⟩:=at_T133 HR0_0.out x3_1 p503 q503;cases e503;replace hx503_0:=(HB.out.cell (World.block_lt_of_cell? w _ hx503_0)).trans hx503_0;replace hx503_1:=(HB.out.cell (World.block_lt_of_cell? w _ hx503_1)).trans hx503_1;have HR503_1:=Aside0.mk hi503_1;have HC503_1:=Aside0.mk hl503_1;clear hi503_1 hl503_1;replace p503:=eq_true p503;replace q503:=eq_true q503;go_wp2_with (first | ((with_reducible refine gate_dst (N:=4) rfl ?_);refine box_event ?hg (N:=4) ?hd (cs:=#[.bool false,.slice none 0 0]) (t:=133) ?hr ?_;(case hd=>rfl);(case hg=>rfl);(case hr=>first | (go_simp;done) | (go_simp;rfl));intro gb504 hg w37 hbox hb;have n0_:=Aside0.mk (blk_below (g:=gb502) (o:=.cells #[.slice (some ad503) l0_0.length c0_0] 44 (0,0)) (bs BK502) hb);have n1_:=Aside0.mk (below_step (hs1 HB GE502) hb);have n2_:=Aside0.mk (hbox);have n3_:=Aside0.mk ((by rw [hg];exact (below_size (hs1 HB GE502)) : w.heap.size ≤ gb504));have n4_:=Aside0.mk ((by rw [hg];exact (below_size (hs1 HB GE502)) : w.heap.size ≤ gb504));have n5_:=Aside0.mk ((by rw [hg];exact Nat.ne_of_lt (blk_lt (g:=gb502) (o:=.cells #[.slice (some ad503) l0_0.length c0_0] 44 (0,0)) (bs BK502)) : gb502 ≠ gb504));have n6_:=Aside0.mk ((by rw [hg];exact Nat.ne_of_gt (blk_lt (g:=gb502) (o:=.cells #[.slice (some ad503) l0_0.length c0_0] 44 (0,0)) (bs BK502)) : gb504 ≠ gb502));clear BK502;clear HB;have BK502:=n0_;have HB:=n1_;have BK504:=n2_;have GW504:=n3_;have GE504:=n4_;have NB502_504:=n5_;have NB504_502:=n6_;clear n0_ n1_ n2_ n3_ n4_ n5_ n6_;clear hb hbox hg;have hnb38:=NB504_502.out;have hnc38:=NB502_504.out;have hcz39_0 : w37.cell? ⟨gb504,0,none⟩ = some (.bool false):=(blk_cell BK504.out 0).trans rfl;have hcz39_1 : w37.cell? ⟨gb504,1,none⟩ = some (.slice none 0 0):=(blk_cell BK504.out 1).trans rfl;have hfz39_0:=blk_frozen BK504.out 0;have hfz39_1:=blk_frozen BK504.out 1))
     go_ret
     exact ⟨by first | rfl | (simp [errW_none,errW_some] <;> rfl) | (simp [*,errW_none,errW_some] <;> rfl),hs2 HB GE502 GE504⟩
    rw [if_neg c4] at H;exact absurd H (by simp)
   rw [if_neg c3] at H;have c3b0 : decide (x3_1 < (l0_0.length : Int)) = false:=decide_eq_false c3;clear c3;obtain rfl:=Option.some.inj H;have hcz40_0 : wr.cell? ⟨gb502,0,none⟩ = some (.slice A0_0 l0_0.length c0_0):=(blk_cell BK502.out 0).trans rfl;have hfz40_0:=blk_frozen BK502.out 0
   go_wp2
   go_ret
   exact ⟨by first | rfl | (simp [errW_none,errW_some] <;> rfl) | (simp [*,errW_none,errW_some] <;> rfl),hs1 HB GE502⟩
end Go.Proofs.Ytdolplcbokioaaa.PB

namespace Go.Proofs.Ytdolplcbokioaaa.PB
open Go.RowKit Go.Proofs.YtdolplcbokioaaaW.PrintWords Go.Proofs.YtdolplcbokioaaaW.PrintLast Go.Proofs.YtdolplcbokioaaaW.PrintMore
attribute [local go_sem] max2_int min2_int max_two min_two max_three min_three max_four min_four   -- for this text's walks alone
set_option linter.unusedVariables false
set_option linter.unusedSimpArgs false
def spec_l11Root.f (l0_0 : List (S133)) (a1 : Int) : Option (Bool):=if a1 = (-1) then (some true) else ((spec_l01In.f a1 0 (wrap64 ((l0_0.length : Int) - 1))).bind fun t509=>(if t509 = true then (if 0 ≤ a1 then (if a1 < (l0_0.length : Int) then (some (!((rd_T133 l0_0 a1).f0))) else (none)) else (none)) else (some false)))
set_option maxHeartbeats 8000000 in
set_option maxRecDepth 100000 in
theorem spec_l11Root.calls (A0_0 : Option Addr) (c0_0 : Nat) (l0_0 : List (S133)) (a1 : Int) (r : Bool) (w : World) (hr0_0 : Kd.C k133 w A0_0 l0_0.length l0_0) (hc0_0 : l0_0.length ≤ c0_0) (h : spec_l11Root.f l0_0 a1 = some r) :
  Calls Try.prog 100 #[.agg #[.slice A0_0 l0_0.length c0_0],.int .i64 a1] w fun e w'=>e = .returned (.bool r) ∧ Below w.heap.size w w':=by
 have hu44:=Try.underlying44;have HR0_0:=Aside0.mk hr0_0;have HC0_0:=Aside0.mk hc0_0;clear hr0_0 hc0_0;have HB:=Aside0.mk (Below.refl w.heap.size w);have H : (if a1 = (-1) then (some true) else ((spec_l01In.f a1 0 (wrap64 ((l0_0.length : Int) - 1))).bind fun t509=>(if t509 = true then (if 0 ≤ a1 then (if a1 < (l0_0.length : Int) then (some (!((rd_T133 l0_0 a1).f0))) else (none)) else (none)) else (some false)))) = some r:=h;clear h
 by_cases c3 : a1 = (-1)
 ·rw [if_pos c3] at H;have c3b0 : (a1 == (-1)) = true:=beq_iff_eq.mpr c3;have c3b1 : (a1 != (-1)) = false:=bne_eq_false_iff_eq.mpr c3;clear c3;obtain rfl:=Option.some.inj H
  go_enter Try.func100,Try.ntmps100
  go_wp2_with (first | ((with_reducible refine gate_dst (N:=2) rfl ?_);(try (refine gate_guard (by rfl) ?_;dsimp only));refine box_event ?hg (N:=2) ?hd (cs:=#[.slice A0_0 l0_0.length c0_0]) (t:=44) ?hr ?_;(case hd=>rfl);(case hg=>rfl);(case hr=>first | (go_simp;done) | (go_simp;rfl));intro gb508 hg w4 hbox hb;have n0_:=Aside0.mk (below_step (hs HB) hb);have n1_:=Aside0.mk (hbox);have n2_:=Aside0.mk ((by rw [hg];exact (below_size (hs HB)) : w.heap.size ≤ gb508));have n3_:=Aside0.mk ((by rw [hg];exact (below_size (hs HB)) : w.heap.size ≤ gb508));clear HB;have HB:=n0_;have BK508:=n1_;have GW508:=n2_;have GE508:=n3_;clear n0_ n1_ n2_ n3_;clear hb hbox hg))
  go_ret
  exact ⟨by first | rfl | (simp [errW_none,errW_some] <;> rfl) | (simp [*,errW_none,errW_some] <;> rfl),hs1 HB GE508⟩
 rw [if_neg c3] at H;have c3b0 : (a1 == (-1)) = false:=beq_eq_false_iff_ne.mpr c3;have c3b1 : (a1 != (-1)) = true:=bne_iff_ne.mpr c3;replace H:=Option.bind_eq_some_iff.mp H;obtain ⟨t509,A50,H⟩:=H;replace H : (if t509 = true then (if 0 ≤ a1 then (if a1 < (l0_0.length : Int) then (some (!((rd_T133 l0_0 a1).f0))) else (none)) else (none)) else (some false)) = some r:=H;have A5:=Aside0.mk A50;clear A50
 by_cases c6 : t509 = true
 ·subst c6;have H1 : (if 0 ≤ a1 then (if a1 < (l0_0.length : Int) then (some (!((rd_T133 l0_0 a1).f0))) else (none)) else (none)) = some r:=by rw [if_pos rfl] at H;exact H
  clear H;have H:=H1;clear H1
  by_cases c7 : 0 ≤ a1
  ·rw [if_pos c7] at H;have c7b0 : decide (0 ≤ a1) = true:=decide_eq_true c7;clear c7
   by_cases c8 : a1 < (l0_0.length : Int)
   ·rw [if_pos c8] at H;have c8b0 : decide (a1 < (l0_0.length : Int)) = true:=decide_eq_true c8;clear c8;obtain rfl:=Option.some.inj H
    go_enter Try.func100,Try.ntmps100
    go_wp2_with (first | ((with_reducible refine gate_dst (N:=2) rfl ?_);(try (refine gate_guard (by rfl) ?_;dsimp only));refine box_event ?hg (N:=2) ?hd (cs:=#[.slice A0_0 l0_0.length c0_0]) (t:=44) ?hr ?_;(case hd=>rfl);(case hg=>rfl);(case hr=>first | (go_simp;done) | (go_simp;rfl));intro gb508 hg w9 hbox hb;have n0_:=Aside0.mk (below_step (hs HB) hb);have n1_:=Aside0.mk (hbox);have n2_:=Aside0.mk ((by rw [hg];exact (below_size (hs HB)) : w.heap.size ≤ gb508));have n3_:=Aside0.mk ((by rw [hg];exact (below_size (hs HB)) : w.heap.size ≤ gb508));clear HB;have HB:=n0_;have BK508:=n1_;have GW508:=n2_;have GE508:=n3_;clear n0_ n1_ n2_ n3_;clear hb hbox hg;have hcz10_0 : w9.cell? ⟨gb508,0,none⟩ = some (.slice A0_0 l0_0.length c0_0):=(blk_cell BK508.out 0).trans rfl;have hfz10_0:=blk_frozen BK508.out 0) | (go_at_call 86;(with_reducible refine (spec_l01In.calls a1 0 (wrap64 ((l0_0.length : Int) - 1)) true _ A5.out).mono ?_);rintro e w' ⟨rfl,⟨nd,rfl⟩⟩;have p510 : 0 ≤ (a1 : Int):=of_decide_eq_true (by first | (with_reducible assumption) | assumption);have q510 : a1 < (l0_0.length : Int):=of_decide_eq_true (by first | (with_reducible assumption) | assumption);obtain ⟨ad510,A510_1,c510_1,e510,hx510_0,hx510_1,hl510_1,hi510_1⟩:=at_T133 HR0_0.out a1 p510 q510;cases e510;replace hx510_0:=(HB.out.cell (World.block_lt_of_cell? w _ hx510_0)).trans hx510_0;replace hx510_1:=(HB.out.cell (World.block_lt_of_cell? w _ hx510_1)).trans hx510_1;have HR510_1:=Aside0.mk hi510_1;have HC510_1:=Aside0.mk hl510_1;clear hi510_1 hl510_1;replace p510:=eq_true p510;replace q510:=eq_true q510))
    go_ret
    exact ⟨by first | rfl | (simp [errW_none,errW_some] <;> rfl) | (simp [*,errW_none,errW_some] <;> rfl),hs1 HB GE508⟩
   rw [if_neg c8] at H;exact absurd H (by simp)
  rw [if_neg c7] at H;exact absurd H (by simp)
 replace c6:=Bool.eq_false_iff.mpr c6;subst c6;have H1 : (some false) = some r:=by rw [if_neg (show ¬ (false = true) by decide)] at H;exact H
 clear H;have H:=H1;clear H1;obtain rfl:=Option.some.inj H
 go_enter Try.func100,Try.ntmps100
 go_wp2_with (first | ((with_reducible refine gate_dst (N:=2) rfl ?_);(try (refine gate_guard (by rfl) ?_;dsimp only));refine box_event ?hg (N:=2) ?hd (cs:=#[.slice A0_0 l0_0.length c0_0]) (t:=44) ?hr ?_;(case hd=>rfl);(case hg=>rfl);(case hr=>first | (go_simp;done) | (go_simp;rfl));intro gb508 hg w11 hbox hb;have n0_:=Aside0.mk (below_step (hs HB) hb);have n1_:=Aside0.mk (hbox);have n2_:=Aside0.mk ((by rw [hg];exact (below_size (hs HB)) : w.heap.size ≤ gb508));have n3_:=Aside0.mk ((by rw [hg];exact (below_size (hs HB)) : w.heap.size ≤ gb508));clear HB;have HB:=n0_;have BK508:=n1_;have GW508:=n2_;have GE508:=n3_;clear n0_ n1_ n2_ n3_;clear hb hbox hg;have hcz12_0 : w11.cell? ⟨gb508,0,none⟩ = some (.slice A0_0 l0_0.length c0_0):=(blk_cell BK508.out 0).trans rfl;have hfz12_0:=blk_frozen BK508.out 0) | (go_at_call 86;(with_reducible refine (spec_l01In.calls a1 0 (wrap64 ((l0_0.length : Int) - 1)) false _ A5.out).mono ?_);rintro e w' ⟨rfl,⟨nd,rfl⟩⟩))
 go_ret
 exact ⟨by first | rfl | (simp [errW_none,errW_some] <;> rfl) | (simp [*,errW_none,errW_some] <;> rfl),hs1 HB GE508⟩
end Go.Proofs.Ytdolplcbokioaaa.PB

namespace Go.Proofs.Ytdolplcbokioaaa.PB
open Go.RowKit Go.Proofs.YtdolplcbokioaaaW.PrintWords Go.Proofs.YtdolplcbokioaaaW.PrintLast Go.Proofs.YtdolplcbokioaaaW.PrintMore
attribute [local go_sem] max2_int min2_int max_two min_two max_three min_three max_four min_four   -- for this text's walks alone
set_option linter.unusedVariables false
set_option linter.unusedSimpArgs false
def spec_l11Has.l0 : Nat → Int → List Bool → Int → List (S133) → Option (List Bool)
 | 0,_,_,_,_=>none
 | k + 1,x1,x5,x6,x1562000=>if x6 < 4 then (if 0 ≤ x1 then (if x1 < (x1562000.length : Int) then (if 0 ≤ x6 then (if x6 < (((rd_T133 x1562000 x1).f1).length : Int) then (if (rd ((rd_T133 x1562000 x1).f1) x6) ≥ 0 then (if 0 ≤ (rd ((rd_T133 x1562000 x1).f1) x6) then (if (rd ((rd_T133 x1562000 x1).f1) x6) < (x5.length : Int) then (spec_l11Has.l0 k x1 (x5.set ((rd ((rd_T133 x1562000 x1).f1) x6) : Int).toNat true) (wrap64 (x6 + 1)) x1562000) else (none)) else (none)) else (spec_l11Has.l0 k x1 x5 (wrap64 (x6 + 1)) x1562000)) else (none)) else (none)) else (none)) else (none)) else (some x5)
def spec_l11Has.f (k : Nat) (l0_0 : List (S133)) (a1 : Int) : Option (List Bool):=if 0 ≤ (l0_0.length : Int) then (if ((l0_0.length : Int) : Int).toNat ≤ 281474976710656 then ((some (List.replicate ((l0_0.length : Int) : Int).toNat false : List Bool)).bind fun y1562=>(if a1 < 0 then (some y1562) else (if 0 ≤ a1 then (if a1 < (y1562.length : Int) then (spec_l11Has.l0 k a1 (y1562.set (a1 : Int).toNat true) 0 l0_0) else (none)) else (none)))) else (none)) else (none)
theorem spec_l11Has.mono_l : ∀ k,(∀ y0 y1 y2 y3,LeO (spec_l11Has.l0 k y0 y1 y2 y3) (spec_l11Has.l0 (k + 1) y0 y1 y2 y3))
 | 0=>fun _ _ _ _ r h=>by simp [spec_l11Has.l0] at h
 | k + 1=>by
  have ih0:=spec_l11Has.mono_l k;intro y0 y1 y2 y3;unfold spec_l11Has.l0
  repeat' first
  | (with_reducible exact ih0 _ _ _ _)
  | (with_reducible exact LeO.refl _)
  | (with_reducible exact LeO.none _)
  | (with_reducible refine LeO.ite ?_ ?_)
  | (with_reducible refine LeO.bind ?_ (fun _=>?_))
  | exact ih0 _ _ _ _
  | exact LeO.none _
  | refine LeO.ite ?_ ?_
  | refine LeO.bind ?_ (fun _=>?_)
theorem spec_l11Has.mono : ∀ a0 a1 k,LeO (spec_l11Has.f k a0 a1) (spec_l11Has.f (k + 1) a0 a1):=by
 intro a0 a1 k;have ih0:=spec_l11Has.mono_l k;unfold spec_l11Has.f
 repeat' first
   | (with_reducible exact ih0 _ _ _ _)
   | (with_reducible exact LeO.refl _)
   | (with_reducible exact LeO.none _)
   | (with_reducible refine LeO.ite ?_ ?_)
   | (with_reducible refine LeO.bind ?_ (fun _=>?_))
   | exact ih0 _ _ _ _
   | exact LeO.none _
   | refine LeO.ite ?_ ?_
   | refine LeO.bind ?_ (fun _=>?_)
set_option maxHeartbeats 8000000 in
set_option maxRecDepth 100000 in
theorem spec_l11Has.calls (k : Nat) (A0_0 : Option Addr) (c0_0 : Nat) (l0_0 : List (S133)) (a1 : Int) (r : List Bool) (w : World) (hr0_0 : Kd.C k133 w A0_0 l0_0.length l0_0) (hc0_0 : l0_0.length ≤ c0_0) (h : spec_l11Has.f k l0_0 a1 = some r) :
  Calls Try.prog 134 #[.agg #[.slice A0_0 l0_0.length c0_0],.int .i64 a1] w fun e w'=>∃ v0_ : Value,e = .returned (v0_) ∧ Kd.R Kd.bool 4 w' w.heap.size (fun _=>True) v0_ r ∧ Below w.heap.size w w':=by
 have hu44:=Try.underlying44;have HR0_0:=Aside0.mk hr0_0;have HC0_0:=Aside0.mk hc0_0;clear hr0_0 hc0_0;have HB:=Aside0.mk (Below.refl w.heap.size w);have H : (if 0 ≤ (l0_0.length : Int) then (if ((l0_0.length : Int) : Int).toNat ≤ 281474976710656 then ((some (List.replicate ((l0_0.length : Int) : Int).toNat false : List Bool)).bind fun y1562=>(if a1 < 0 then (some y1562) else (if 0 ≤ a1 then (if a1 < (y1562.length : Int) then (spec_l11Has.l0 k a1 (y1562.set (a1 : Int).toNat true) 0 l0_0) else (none)) else (none)))) else (none)) else (none)) = some r:=h;clear h
 by_cases c3 : 0 ≤ (l0_0.length : Int)
 ·rw [if_pos c3] at H;have c3b0:=eq_true c3;have c3b1 : decide (0 ≤ (l0_0.length : Int)) = true:=decide_eq_true c3;clear c3
  by_cases c4 : ((l0_0.length : Int) : Int).toNat ≤ 281474976710656
  ·rw [if_pos c4] at H;have c4b0:=eq_true c4;have c4b1 : decide (((l0_0.length : Int) : Int).toNat ≤ 281474976710656) = true:=decide_eq_true c4;clear c4;obtain ⟨y1562,hy1562⟩ : ∃ y_ : List Bool,y_ = (List.replicate ((l0_0.length : Int) : Int).toNat false):=⟨_,rfl⟩;replace H : (if a1 < 0 then (some y1562) else (if 0 ≤ a1 then (if a1 < (y1562.length : Int) then (spec_l11Has.l0 k a1 (y1562.set (a1 : Int).toNat true) 0 l0_0) else (none)) else (none))) = some r:=by first | (rw [hy1562];with_reducible exact H) | (have H2_:=(Option.bind_some _ _).symm.trans H;rw [hy1562];with_reducible exact H2_) | (have H2_:=(Option.bind_some _ _).symm.trans H;with_reducible exact H2_) | with_reducible exact H | (rw [hy1562];exact H) | exact H
   have Ny1562:=Aside0.mk hy1562;clear hy1562
   by_cases c5 : a1 < 0
   ·rw [if_pos c5] at H;have c5b0 : decide (a1 < 0) = true:=decide_eq_true c5;clear c5;obtain rfl:=Option.some.inj H
    go_enter Try.func134,Try.ntmps134
    go_wp2_with (first | ((with_reducible refine gate_dst (N:=2) rfl ?_);refine box_event ?hg (N:=2) ?hd (cs:=#[.slice A0_0 l0_0.length c0_0]) (t:=44) ?hr ?_;(case hd=>rfl);(case hg=>rfl);(case hr=>first | (go_simp;done) | (go_simp;rfl));intro gb1561 hg w6 hbox hb;have n0_:=Aside0.mk (below_step (hs HB) hb);have n1_:=Aside0.mk (hbox);have n2_:=Aside0.mk ((by rw [hg];exact (below_size (hs HB)) : w.heap.size ≤ gb1561));have n3_:=Aside0.mk ((by rw [hg];exact (below_size (hs HB)) : w.heap.size ≤ gb1561));clear HB;have HB:=n0_;have BK1561:=n1_;have GW1561:=n2_;have GE1561:=n3_;clear n0_ n1_ n2_ n3_;clear hb hbox hg;have hcz7_0 : w6.cell? ⟨gb1561,0,none⟩ = some (.slice A0_0 l0_0.length c0_0):=(blk_cell BK1561.out 0).trans rfl;have hfz7_0:=blk_frozen BK1561.out 0) | ((with_reducible refine gate_dst (N:=10) rfl ?_);refine Kd.R_make Kd.bool _ 4 rfl (N:=10) rfl 167 _ _ rfl (l0_0.length : Int) rfl rfl Try.underlying167 (.bool false) 1 info4 rfl (by decide) (by omega) false (ok:=fun _=>True) (okp:=fun _=>True) rfl (fun _ hk=>hk) trivial (of_decide_eq_true (by first | (with_reducible assumption) | assumption)) (Nat.le_trans (Nat.mul_le_mul_right _ (of_decide_eq_true (by first | (with_reducible assumption) | assumption) : (l0_0.length : Int).toNat ≤ 281474976710656)) (by omega)) (Below.refl _ _) (Nat.le_refl _) ?_;intro v1563 w8 ho9 hb hg_ hnew_;clear hg_ hnew_;(first | rw [← Ny1562.out] at ho9 | (simp only [Int.reduceToNat] at ho9;rw [← Ny1562.out] at ho9));have n0_:=Aside0.mk (Kd.R_lower ho9 (below_size (hs1 HB GE1561)));have n1_:=Aside0.mk (blk_below (g:=gb1561) (o:=.cells #[.slice A0_0 l0_0.length c0_0] 44 (0,0)) (bs BK1561) hb);have n2_:=Aside0.mk (below_step (hs1 HB GE1561) hb);clear BK1561;clear HB;have HO1564:=n0_;have BK1561:=n1_;have HB:=n2_;clear n0_ n1_ n2_;clear hb ho9))
    go_ret
    exact ⟨_,by first | rfl | (simp [errW_none,errW_some] <;> rfl) | (simp [*,errW_none,errW_some] <;> rfl),rs HO1564,hs1 HB GE1561⟩
   rw [if_neg c5] at H;have c5b0 : decide (a1 < 0) = false:=decide_eq_false c5;clear c5
   by_cases c10 : 0 ≤ a1
   ·rw [if_pos c10] at H;have c10b0 : decide (0 ≤ a1) = true:=decide_eq_true c10;clear c10
    by_cases c11 : a1 < (y1562.length : Int)
    ·rw [if_pos c11] at H;have c11b0 : decide (a1 < (y1562.length : Int)) = true:=decide_eq_true c11;clear c11;obtain ⟨y1565,hy1565⟩ : ∃ y_ : List Bool,y_ = (y1562.set (a1 : Int).toNat true):=⟨_,rfl⟩;replace H : (spec_l11Has.l0 k a1 y1565 0 l0_0) = some r:=by first | (rw [hy1565];with_reducible exact H) | (have H2_:=(Option.bind_some _ _).symm.trans H;rw [hy1565];with_reducible exact H2_) | (have H2_:=(Option.bind_some _ _).symm.trans H;with_reducible exact H2_) | with_reducible exact H | (rw [hy1565];exact H) | exact H
     have Ny1565:=Aside0.mk hy1565;clear hy1565;have H':=Aside0.mk H;clear H
     go_enter Try.func134,Try.ntmps134
     go_wp2_with (first | ((with_reducible refine gate_dst (N:=2) rfl ?_);refine box_event ?hg (N:=2) ?hd (cs:=#[.slice A0_0 l0_0.length c0_0]) (t:=44) ?hr ?_;(case hd=>rfl);(case hg=>rfl);(case hr=>first | (go_simp;done) | (go_simp;rfl));intro gb1561 hg w13 hbox hb;have n0_:=Aside0.mk (below_step (hs HB) hb);have n1_:=Aside0.mk (hbox);have n2_:=Aside0.mk ((by rw [hg];exact (below_size (hs HB)) : w.heap.size ≤ gb1561));have n3_:=Aside0.mk ((by rw [hg];exact (below_size (hs HB)) : w.heap.size ≤ gb1561));clear HB;have HB:=n0_;have BK1561:=n1_;have GW1561:=n2_;have GE1561:=n3_;clear n0_ n1_ n2_ n3_;clear hb hbox hg;have hcz14_0 : w13.cell? ⟨gb1561,0,none⟩ = some (.slice A0_0 l0_0.length c0_0):=(blk_cell BK1561.out 0).trans rfl;have hfz14_0:=blk_frozen BK1561.out 0) | ((with_reducible refine gate_dst (N:=10) rfl ?_);refine Kd.R_make Kd.bool _ 4 rfl (N:=10) rfl 167 _ _ rfl (l0_0.length : Int) rfl rfl Try.underlying167 (.bool false) 1 info4 rfl (by decide) (by omega) false (ok:=fun _=>True) (okp:=fun _=>True) rfl (fun _ hk=>hk) trivial (of_decide_eq_true (by first | (with_reducible assumption) | assumption)) (Nat.le_trans (Nat.mul_le_mul_right _ (of_decide_eq_true (by first | (with_reducible assumption) | assumption) : (l0_0.length : Int).toNat ≤ 281474976710656)) (by omega)) (Below.refl _ _) (Nat.le_refl _) ?_;intro v1563 w15 ho16 hb hg_ hnew_;clear hg_ hnew_;(first | rw [← Ny1562.out] at ho16 | (simp only [Int.reduceToNat] at ho16;rw [← Ny1562.out] at ho16));have n0_:=Aside0.mk (Kd.R_lower ho16 (below_size (hs1 HB GE1561)));have n1_:=Aside0.mk (blk_below (g:=gb1561) (o:=.cells #[.slice A0_0 l0_0.length c0_0] 44 (0,0)) (bs BK1561) hb);have n2_:=Aside0.mk (below_step (hs1 HB GE1561) hb);clear BK1561;clear HB;have HO1564:=n0_;have BK1561:=n1_;have HB:=n2_;clear n0_ n1_ n2_;clear hb ho16;have p12 : 0 ≤ (a1 : Int):=of_decide_eq_true (by first | (with_reducible assumption) | assumption);have q12 : (a1 : Int) < ((y1562.length : Int) : Int):=of_decide_eq_true (by first | (with_reducible assumption) | assumption);obtain ⟨go12,co12,eo12,gb12,gl12,cl12,HG12⟩:=Kd.R_form HO1564.out (by omega);(first | cases eo12 | (injection eo12 with ea_ en_ ec_;(first | subst ea_ | (injection ea_ with ea_;subst ea_));subst ec_;clear en_));have GB12:=Aside0.mk gb12;have GG12:=Aside0.mk HG12;clear gb12 gl12 HG12;obtain ⟨hx12_0,hf12_0⟩:=Kd.R_celln false HO1564.out (a1 : Int) p12 q12;replace p12:=eq_true p12;replace q12:=eq_true q12;obtain ⟨hy17_,hz17_⟩:=Kd.R_celln false HO1564.out (a1 : Int) (of_decide_eq_true (by first | (with_reducible assumption) | assumption)) (of_decide_eq_true (by first | (with_reducible assumption) | assumption));have HP17:=Kd.R_putg HO1564.out (a1 : Int) true) | ((with_reducible refine gate_store (t:=4) (p:=16) rfl ?_);refine store_event (t:=4) (p:=16) (v:=?vo_w18) (w1:=(w15.setCell ⟨go12,(a1 : Int).toNat,none⟩ (.bool true))) ?hg ?ho ?hn ?hr ?_;(case ho=>rfl);(case hg=>rfl);(case hn=>rfl);(case hr=>first | (go_simp;done) | (go_simp;rfl));intro w18 hw;have hg : w15.grownBy w18 (some go12):=(by rw [hw];exact HP17.2);have hp_ : Kd.R Kd.bool 4 w18 w.heap.size (fun _=>True) (.slice (some ⟨go12,0,none⟩) y1562.length co12) y1565:=(by rw [hw,Ny1565.out];exact HP17.1);clear HP17;have n0_:=Aside0.mk (blk_grown (g:=gb1561) (o:=.cells #[.slice A0_0 l0_0.length c0_0] 44 (0,0)) (bs BK1561) hg (Kd.R_ne HO1564.out BK1561.out (by decide)));have n1_:=Aside0.mk (hp_);have n2_:=Aside0.mk ((by rw [hw];exact below_set (HB.out) GB12.out : Below w.heap.size w w18));clear BK1561;clear HO1564;clear HB;have BK1561:=n0_;have HO1564:=n1_;have HB:=n2_;clear n0_ n1_ n2_;clear hg hw hp_));go_loopg [6] k (fun kq v6 w'=>∃ (x5_1 : List Bool) (x6_1 : Int),v6 = .int .i64 x6_1 ∧ Aside0 (spec_l11Has.l0 kq a1 x5_1 x6_1 l0_0 = some r) ∧ Aside0 (kq ≤ k) ∧ Aside0 (Kd.R Kd.bool 4 w' w.heap.size (fun _=>True) (.slice (some ⟨go12,0,none⟩) y1562.length co12) x5_1) ∧ Aside0 (w'.heap[gb1561]? = some (.cells #[(.slice A0_0 l0_0.length c0_0)] 44 (0,0))) ∧ Aside0 (Below w.heap.size w w'));case atStart=>exact ⟨(y1565),(0),(by first | rfl | (simp;done) | (simp [*];done)),H',⟨Nat.le_refl _⟩,⟨rs HO1564⟩,⟨bs BK1561⟩,⟨hs1 HB GE1561⟩⟩
     case round =>
      clear H'
      try clear c1
      try clear p1
      try clear q1
      try clear hx1
      try clear p2
      try clear c3
      try clear c3b0
      try clear c3b1
      try clear c4
      try clear c4b0
      try clear c4b1
      try clear c5
      try clear c5b0
      try clear c10
      try clear c10b0
      try clear c11
      try clear c11b0
      try clear p12
      try clear q12
      try clear hx12
      try clear hf12
      try clear c13
      try clear hcz14_0
      try clear hcz7_0
      try clear hfz14_0
      try clear hfz7_0
      try clear hx12_0
      try clear p12
      try clear q12
      obtain ⟨x5_1,x6_1,rfl,HA,HK1,HO_5,BK1561,HB⟩:=hrel;have hl5_1:=(Kd.R_reads' HO_5.out).1;rw [hl5_1] at HO_5
      (try simp only [hl5_1])
      (try simp only [hl5_1] at BK1561)
      cases gk with
      | zero=>exact absurd HA.out (by simp [spec_l11Has.l0])
      | succ k1 =>
       have H:=HA.out;clear HA;simp only [spec_l11Has.l0] at H
       by_cases c19 : x6_1 < 4
       ·rw [if_pos c19] at H;have c19b0 : decide (x6_1 < 4) = true:=decide_eq_true c19;clear c19
        by_cases c20 : 0 ≤ a1
        ·rw [if_pos c20] at H;have c20b0 : decide (0 ≤ a1) = true:=decide_eq_true c20;clear c20
         by_cases c21 : a1 < (l0_0.length : Int)
         ·rw [if_pos c21] at H;have c21b0 : decide (a1 < (l0_0.length : Int)) = true:=decide_eq_true c21;clear c21
          by_cases c22 : 0 ≤ x6_1
          ·rw [if_pos c22] at H;have c22b0 : decide (0 ≤ x6_1) = true:=decide_eq_true c22;clear c22
           by_cases c23 : x6_1 < (((rd_T133 l0_0 a1).f1).length : Int)
           ·rw [if_pos c23] at H;have c23b0 : decide (x6_1 < (((rd_T133 l0_0 a1).f1).length : Int)) = true:=decide_eq_true c23;clear c23
            by_cases c24 : (rd ((rd_T133 l0_0 a1).f1) x6_1) ≥ 0
            ·rw [if_pos c24] at H;have c24b0 : decide (0 ≤ (rd ((rd_T133 l0_0 a1).f1) x6_1)) = true:=decide_eq_true c24;clear c24
             by_cases c25 : 0 ≤ (rd ((rd_T133 l0_0 a1).f1) x6_1)
             ·rw [if_pos c25] at H;have c25b0 : decide (0 ≤ (rd ((rd_T133 l0_0 a1).f1) x6_1)) = true:=decide_eq_true c25;clear c25
              by_cases c26 : (rd ((rd_T133 l0_0 a1).f1) x6_1) < (x5_1.length : Int)
              ·rw [if_pos c26] at H;have c26b0 : decide ((rd ((rd_T133 l0_0 a1).f1) x6_1) < (x5_1.length : Int)) = true:=decide_eq_true c26;clear c26;obtain ⟨y1570,hy1570⟩ : ∃ y_ : List Bool,y_ = (x5_1.set ((rd ((rd_T133 l0_0 a1).f1) x6_1) : Int).toNat true):=⟨_,rfl⟩;replace H : (spec_l11Has.l0 k1 a1 y1570 (wrap64 (x6_1 + 1)) l0_0) = some r:=by first | (rw [hy1570];with_reducible exact H) | (have H2_:=(Option.bind_some _ _).symm.trans H;rw [hy1570];with_reducible exact H2_) | (have H2_:=(Option.bind_some _ _).symm.trans H;with_reducible exact H2_) | with_reducible exact H | (rw [hy1570];exact H) | exact H
               have Ny1570:=Aside0.mk hy1570;clear hy1570;have H':=Aside0.mk H;clear H;have hcz28_0 : wr.cell? ⟨gb1561,0,none⟩ = some (.slice A0_0 l0_0.length c0_0):=(blk_cell BK1561.out 0).trans rfl;have hfz28_0:=blk_frozen BK1561.out 0;have p1566 : 0 ≤ (a1 : Int):=of_decide_eq_true (by first | (with_reducible assumption) | assumption);have q1566 : a1 < (l0_0.length : Int):=of_decide_eq_true (by first | (with_reducible assumption) | assumption);obtain ⟨ad1566,A1566_1,c1566_1,e1566,hx1566_0,hx1566_1,hl1566_1,hi1566_1⟩:=at_T133 HR0_0.out a1 p1566 q1566;cases e1566;replace hx1566_0:=(HB.out.cell (World.block_lt_of_cell? w _ hx1566_0)).trans hx1566_0;replace hx1566_1:=(HB.out.cell (World.block_lt_of_cell? w _ hx1566_1)).trans hx1566_1;have HR1566_1:=Aside0.mk hi1566_1;have HC1566_1:=Aside0.mk hl1566_1;clear hi1566_1 hl1566_1;replace p1566:=eq_true p1566;replace q1566:=eq_true q1566;have p1567 : 0 ≤ (x6_1 : Int):=of_decide_eq_true (by first | (with_reducible assumption) | assumption);have q1567 : x6_1 < (((rd_T133 l0_0 a1).f1).length : Int):=of_decide_eq_true (by first | (with_reducible assumption) | assumption);obtain ⟨ad1567,e1567,hx1567_0⟩:=Kd.at_int HR1566_1.out x6_1 p1567 q1567;cases e1567;replace hx1567_0:=(HB.out.cell (World.block_lt_of_cell? w _ hx1567_0)).trans hx1567_0;replace p1567:=eq_true p1567;replace q1567:=eq_true q1567;have p1568 : 0 ≤ (a1 : Int):=of_decide_eq_true (by first | (with_reducible assumption) | assumption);have q1568 : a1 < (l0_0.length : Int):=of_decide_eq_true (by first | (with_reducible assumption) | assumption);obtain ⟨ad1568,A1568_1,c1568_1,e1568,hx1568_0,hx1568_1,hl1568_1,hi1568_1⟩:=at_T133 HR0_0.out a1 p1568 q1568;obtain rfl : ad1566 = ad1568:=(by injection e1568);replace hx1568_0:=(HB.out.cell (World.block_lt_of_cell? w _ hx1568_0)).trans hx1568_0;replace hx1568_1:=(HB.out.cell (World.block_lt_of_cell? w _ hx1568_1)).trans hx1568_1;have HR1568_1:=Aside0.mk hi1568_1;have HC1568_1:=Aside0.mk hl1568_1;clear hi1568_1 hl1568_1;replace p1568:=eq_true p1568;replace q1568:=eq_true q1568;have ea_:=Option.some.inj (hx1566_1.symm.trans hx1568_1);injection ea_ with ea_ en_ ec_;subst ea_;subst ec_;clear en_;have p1569 : 0 ≤ (x6_1 : Int):=of_decide_eq_true (by first | (with_reducible assumption) | assumption);have q1569 : x6_1 < (((rd_T133 l0_0 a1).f1).length : Int):=of_decide_eq_true (by first | (with_reducible assumption) | assumption);obtain ⟨ad1569,e1569,hx1569_0⟩:=Kd.at_int HR1568_1.out x6_1 p1569 q1569;cases e1569;replace hx1569_0:=(HB.out.cell (World.block_lt_of_cell? w _ hx1569_0)).trans hx1569_0;replace p1569:=eq_true p1569;replace q1569:=eq_true q1569;have p27 : 0 ≤ ((rd ((rd_T133 l0_0 a1).f1) x6_1) : Int):=of_decide_eq_true (by first | (with_reducible assumption) | assumption);have q27 : ((rd ((rd_T133 l0_0 a1).f1) x6_1) : Int) < ((x5_1.length : Int) : Int):=of_decide_eq_true (by first | (with_reducible assumption) | assumption);obtain ⟨hx27_0,hf27_0⟩:=Kd.R_celln false HO_5.out ((rd ((rd_T133 l0_0 a1).f1) x6_1) : Int) p27 q27;replace p27:=eq_true p27;replace q27:=eq_true q27;have HP29:=Kd.R_putg HO_5.out ((rd ((rd_T133 l0_0 a1).f1) x6_1) : Int) true;go_wp2_with (first | ((with_reducible refine gate_store (t:=4) (p:=41) rfl ?_);refine store_event (t:=4) (p:=41) (v:=?vo_w30) (w1:=(wr.setCell ⟨go12,((rd ((rd_T133 l0_0 a1).f1) x6_1) : Int).toNat,none⟩ (.bool true))) ?hg ?ho ?hn ?hr ?_;(case ho=>rfl);(case hg=>rfl);(case hn=>rfl);(case hr=>first | (go_simp;done) | (go_simp;rfl));intro w30 hw;have hg : wr.grownBy w30 (some go12):=(by rw [hw];exact HP29.2);have hp_ : Kd.R Kd.bool 4 w30 w.heap.size (fun _=>True) (.slice (some ⟨go12,0,none⟩) x5_1.length co12) y1570:=(by rw [hw,Ny1570.out];exact HP29.1);clear HP29;have n0_:=Aside0.mk (hp_);have n1_:=Aside0.mk (blk_grown (g:=gb1561) (o:=.cells #[.slice (some ad1566) l0_0.length c0_0] 44 (0,0)) (bs BK1561) hg (Kd.R_ne HO_5.out BK1561.out (by decide)));have n2_:=Aside0.mk ((by rw [hw];exact below_set (HB.out) GB12.out : Below w.heap.size w w30));clear HO_5;clear BK1561;clear HB;have HO_5:=n0_;have BK1561:=n1_;have HB:=n2_;clear n0_ n1_ n2_;clear hg hw hp_))
               (try simp only [← hl5_1])
               go_roundg k1;case measure=>have:=HK1.out;omega
               case rel=>exact ⟨(y1570),(wrap64 (x6_1 + 1)),(by first | rfl | (simp;done) | (simp [*];done)),H',⟨by have:=HK1.out;omega⟩,⟨by (try simp only [hl5_1]);(with_reducible repeat (first | apply Kd.R_alloc | apply Kd.R_drewN | apply Kd.R_drew));exact HO_5.out⟩,⟨by (try simp only [hl5_1]);(with_reducible repeat (first | refine blk_drewN ?_ _ | refine blk_drew ?_ | refine blk_alloc ?_ _));exact BK1561.out⟩,⟨hs1 HB GE1561⟩⟩
              rw [if_neg c26] at H;exact absurd H (by simp)
             rw [if_neg c25] at H;exact absurd H (by simp)
            rw [if_neg c24] at H;have c24b0 : decide (0 ≤ (rd ((rd_T133 l0_0 a1).f1) x6_1)) = false:=decide_eq_false c24;clear c24;have H':=Aside0.mk H;clear H;have hcz31_0 : wr.cell? ⟨gb1561,0,none⟩ = some (.slice A0_0 l0_0.length c0_0):=(blk_cell BK1561.out 0).trans rfl;have hfz31_0:=blk_frozen BK1561.out 0;have p1566 : 0 ≤ (a1 : Int):=of_decide_eq_true (by first | (with_reducible assumption) | assumption);have q1566 : a1 < (l0_0.length : Int):=of_decide_eq_true (by first | (with_reducible assumption) | assumption);obtain ⟨ad1566,A1566_1,c1566_1,e1566,hx1566_0,hx1566_1,hl1566_1,hi1566_1⟩:=at_T133 HR0_0.out a1 p1566 q1566;cases e1566;replace hx1566_0:=(HB.out.cell (World.block_lt_of_cell? w _ hx1566_0)).trans hx1566_0;replace hx1566_1:=(HB.out.cell (World.block_lt_of_cell? w _ hx1566_1)).trans hx1566_1;have HR1566_1:=Aside0.mk hi1566_1;have HC1566_1:=Aside0.mk hl1566_1;clear hi1566_1 hl1566_1;replace p1566:=eq_true p1566;replace q1566:=eq_true q1566;have p1567 : 0 ≤ (x6_1 : Int):=of_decide_eq_true (by first | (with_reducible assumption) | assumption);have q1567 : x6_1 < (((rd_T133 l0_0 a1).f1).length : Int):=of_decide_eq_true (by first | (with_reducible assumption) | assumption);obtain ⟨ad1567,e1567,hx1567_0⟩:=Kd.at_int HR1566_1.out x6_1 p1567 q1567;cases e1567;replace hx1567_0:=(HB.out.cell (World.block_lt_of_cell? w _ hx1567_0)).trans hx1567_0;replace p1567:=eq_true p1567;replace q1567:=eq_true q1567
            go_wp2
            (try simp only [← hl5_1])
            go_roundg k1;case measure=>have:=HK1.out;omega
            case rel=>exact ⟨(x5_1),(wrap64 (x6_1 + 1)),(by first | rfl | (simp;done) | (simp [*];done)),H',⟨by have:=HK1.out;omega⟩,⟨by (try simp only [hl5_1]);(with_reducible repeat (first | apply Kd.R_alloc | apply Kd.R_drewN | apply Kd.R_drew));exact HO_5.out⟩,⟨by (try simp only [hl5_1]);(with_reducible repeat (first | refine blk_drewN ?_ _ | refine blk_drew ?_ | refine blk_alloc ?_ _));exact BK1561.out⟩,⟨hs1 HB GE1561⟩⟩
           rw [if_neg c23] at H;exact absurd H (by simp)
          rw [if_neg c22] at H;exact absurd H (by simp)
         rw [if_neg c21] at H;exact absurd H (by simp)
        rw [if_neg c20] at H;exact absurd H (by simp)
       rw [if_neg c19] at H;have c19b0 : decide (x6_1 < 4) = false:=decide_eq_false c19;clear c19;obtain rfl:=Option.some.inj H
       go_wp2
       go_ret
       exact ⟨_,by first | rfl | (simp [errW_none,errW_some] <;> rfl) | (simp [*,errW_none,errW_some] <;> rfl),rs HO_5,hs1 HB GE1561⟩
    rw [if_neg c11] at H;exact absurd H (by simp)
   rw [if_neg c10] at H;exact absurd H (by simp)
  rw [if_neg c4] at H;exact absurd H (by simp)
 rw [if_neg c3] at H;exact absurd H (by simp)
end Go.Proofs.Ytdolplcbokioaaa.PB
