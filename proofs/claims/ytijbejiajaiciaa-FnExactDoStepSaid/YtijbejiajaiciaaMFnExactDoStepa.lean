/- FnExactDoStep: functions of the translation as Lean functions with what their calls come to, plain lemmas on them, and, at the end, the row. Parts of one proof, merged by a program of this session; each part's own sentence stands at its head. -/
import Derived.Test.YtijbejiajaiciaaProg
import Derived.Below
import Derived.Deep.Draws
import Derived.Deep.AppendLies
import Derived.Maps.AppendAt
import Derived.OwnWalk
import Derived.Laws.BytesArg
import Derived.Laws.MakeOwn
import Derived.Laws.OwnMore
import Derived.Deep.OwnRows
import Derived.Tactics
import Derived.Lib.ConvBytes
import Derived.Laws.Slices
import Derived.WalkKit
import Derived.KernelRfl
import Derived.RowKit3
import Derived.Deep.LoopGhost
import Derived.Deep.QuietTactic
import Derived.BigQuiet
import Derived.WideLaws
import Derived.Deep.DeepCutAuto
import Derived.Deep.CutBlock
import Derived.Deep.RegionHeld3
import Derived.Laws.Rows
import Derived.Lib.AppendStr
import Derived.ArgAppend
import Derived.Laws.IdiomCopy
import Derived.OrdersHeld
import Derived.Laws.BitsLemmas
import Derived.RowKit
import Derived.Test.YtijbejiajaiciaaMFnExactDoStepwa
/- Rows whose elements' inner rows lie apart: a field of an element stored, and an element's own row written by a call. -/
namespace Go.Proofs.YtijbejiajaiciaaW.PrintWords
set_option linter.unusedVariables false
set_option linter.unusedSimpArgs false
open Go.RowKit
namespace Kd
section
variable {α : Type} {d : Kd α} {e g n cap : Nat} {w W w' : World} {base : Nat} {ok oki : Nat → Prop} {v : Value} {xs : List α} {i : Int} {c : List Value}
/-- One field of element i is stored. -/
theorem S_field (h : S d e W base ok (.slice (some ⟨g, 0, none⟩) n cap) xs) (z : α) (i : Int) (h0 : 0 ≤ i) (h1 : i < n) (j : Nat) (u : Value) (hj : j + [u].length ≤ d.sz) {x' : α}
    (hM : ∀ (okp : Nat → Prop) (c : List Value), d.M W base okp (xs.getD i.toNat z) c → d.M W base okp x' (c.take j ++ [u] ++ c.drop (j + [u].length))) :
    S d e (W.setCell ⟨g, i.toNat * d.sz + j, none⟩ u) base ok (.slice (some ⟨g, 0, none⟩) n cap) (xs.set i.toNat x') ∧ W.grownBy (W.setCell ⟨g, i.toNat * d.sz + j, none⟩ u) (some g) := by
  have hS : S d e W base (fun k => ok k ∧ ¬ (fun _ => False) k) (.slice (some ⟨g, 0, none⟩) n cap) xs := S_mono h (fun k hk => ⟨hk, fun h => h⟩)
  obtain ⟨oki, c, _, hMc, _, _, _, hH⟩ := S_elem hS z i h0 h1
  have r := S_seg (seg := [u]) (j := j) hH h0 h1 hj (hM oki c hMc) (fun _ hk => .inl hk) (fun _ hk => hk.elim)
  exact r
/-- What element i leads to was written by a call that keeps all else. -/
theorem S_called (hH : H d e W base ok v xs i oki c) (hk : Kept W w' oki) {x' : α} (hM : d.M w' base (fun k => oki k ∨ W.heap.size ≤ k) x' c) (hok : ∀ k, W.heap.size ≤ k → ok k) : S d e w' base ok v (xs.set i.toNat x') :=
  H_back (H_kept (H_widen hH) hk (fun _ _ hn hS => hn (.inl hS))) hM (fun k hk => hk.imp id (fun h => ⟨hok k h, h⟩))
/-- Cells of element i are stored; what they lead to is new to the row. -/
theorem S_put (h : S d e W base ok (.slice (some ⟨g, 0, none⟩) n cap) xs) (z : α) (i : Int) (h0 : 0 ≤ i) (h1 : i < n) (j : Nat) (seg : List Value) (hj : j + seg.length ≤ d.sz) {okv : Nat → Prop} (hap : ∀ k, ok k → okv k → False) (hg : ∀ k, okv k → k ≠ g) {x' : α}
    (hM : ∀ (okp : Nat → Prop) (c : List Value), d.M W base okp (xs.getD i.toNat z) c → d.M W base (fun k => okp k ∨ okv k) x' (c.take j ++ seg ++ c.drop (j + seg.length))) :
    S d e (W.setCells g (i.toNat * d.sz + j) seg) base (fun k => ok k ∨ okv k) (.slice (some ⟨g, 0, none⟩) n cap) (xs.set i.toNat x') ∧ W.grownBy (W.setCells g (i.toNat * d.sz + j) seg) (some g) := by
  have hS : S d e W base (fun k => (ok k ∨ okv k) ∧ ¬ okv k) (.slice (some ⟨g, 0, none⟩) n cap) xs := S_mono h (fun k hk => ⟨.inl hk, fun h2 => hap k hk h2⟩)
  obtain ⟨oki, c, _, hMc, _, _, _, hH⟩ := S_elem hS z i h0 h1
  exact S_seg (okg := okv) hH h0 h1 hj (hM oki c hMc) (fun _ hk => hk) (fun k hk => ⟨.inr hk, hg k hk⟩)
/-- Two rows that came at once, of types apart: their blocks are apart. -/
theorem two_apart {β : Type} {d' : Kd β} {e' : Nat} {base' : Nat} {ok' : Nat → Prop} {v' : Value} {ys : List β} (h : d.R e w base ok v xs) (h' : S d' e' w base' ok' v' ys) (ht : ∀ q, q ∈ e :: d.E → ∀ q', q' ∈ e' :: d'.E → q ≠ q') :
    ∃ TA TB : Nat → Prop, (∀ k, TA k → TB k → False) ∧ d.R e w base (fun k => (base ≤ k ∧ k < w.heap.size) ∧ TA k) v xs ∧ S d' e' w base' (fun k => (base' ≤ k ∧ k < w.heap.size) ∧ TB k) v' ys := by
  refine ⟨fun k => ∃ q, q ∈ e :: d.E ∧ ∃ cells, w.heap[k]? = some (.cells cells q (0, 0)), fun k => ∃ q, q ∈ e' :: d'.E ∧ ∃ cells, w.heap[k]? = some (.cells cells q (0, 0)), ?_, R_mono (R_bound h) (fun k hk => ⟨⟨hk.2.1, hk.2.2.1⟩, hk.2.2.2⟩), S_mono (S_bound h') (fun k hk => ⟨⟨hk.2.1, hk.2.2.1⟩, hk.2.2.2⟩)⟩
  rintro k ⟨q, hq, c, hc⟩ ⟨q', hq', c', hc'⟩
  rw [hc] at hc'
  injection hc' with hc'
  injection hc' with h1 h2 h3
  exact ht q hq q' hq' h2
/-- Two rows that came at once, the second one's block none of the first one's. -/
theorem two_told {β : Type} {d' : Kd β} {e' : Nat} {base' : Nat} {ok' : Nat → Prop} {v' : Value} {ys : List β} (h : S d e w base (fun k => some k ≠ v'.ownBlock) v xs) (h' : d'.R e' w base' ok' v' ys) (hE : d'.E = []) :
    ∃ TA TB : Nat → Prop, (∀ k, TA k → TB k → False) ∧ S d e w base (fun k => (base ≤ k ∧ k < w.heap.size) ∧ TA k) v xs ∧ d'.R e' w base' (fun k => (base' ≤ k ∧ k < w.heap.size) ∧ TB k) v' ys :=
  ⟨fun k => some k ≠ v'.ownBlock, fun k => some k = v'.ownBlock, fun k h1 h2 => h1 h2, S_mono (S_bound h) (fun k hk => ⟨⟨hk.2.1, hk.2.2.1⟩, hk.1⟩), R_mono (R_bound (R_tight hE h')) (fun k hk => ⟨⟨hk.2.1, hk.2.2.1⟩, hk.1⟩)⟩
end
end Kd
end Go.Proofs.YtijbejiajaiciaaW.PrintWords

/- Short words for facts that are carried over worlds that only drew or made an object. -/
namespace Go.Proofs.YtijbejiajaiciaaW.PrintWords
open Go.RowKit

inductive Strip (w0 : World) : World → Prop
  | refl : Strip w0 w0
  | alloc {w : World} (h : Strip w0 w) (o : Obj) : Strip w0 (w.alloc o)
  | drew {w : World} (h : Strip w0 w) : Strip w0 w.drew
  | drewN {w : World} (h : Strip w0 w) (m : Nat) : Strip w0 (w.drewN m)
theorem rs {α : Type} {d : Kd α} {e : TypeId} {w0 w : World} {base : Nat} {ok : Nat → Prop} {v : Value} {xs : List α} (a : Aside0 (d.R e w0 base ok v xs))
    (s : Strip w0 w := by (with_reducible repeat (first | refine Strip.alloc ?_ _ | refine Strip.drewN ?_ _ | refine Strip.drew ?_)); with_reducible exact Strip.refl) : d.R e w base ok v xs := by
  induction s with
  | refl => exact a.out
  | alloc _ o ih => exact Kd.R_alloc ih o
  | drew _ ih => exact Kd.R_drew ih
  | drewN _ m ih => exact Kd.R_drewN ih m
theorem bs {w0 w : World} {g : Nat} {o : Obj} (a : Aside0 (w0.heap[g]? = some o))
    (s : Strip w0 w := by (with_reducible repeat (first | refine Strip.alloc ?_ _ | refine Strip.drewN ?_ _ | refine Strip.drew ?_)); with_reducible exact Strip.refl) : w.heap[g]? = some o := by
  induction s with
  | refl => exact a.out
  | alloc _ o ih => exact blk_alloc ih o
  | drew _ ih => exact blk_drew ih
  | drewN _ m ih => exact blk_drewN ih m
theorem hs {u w0 w : World} (a : Aside0 (Below u.heap.size u w0))
    (s : Strip w0 w := by (with_reducible repeat (first | refine Strip.alloc ?_ _ | refine Strip.drewN ?_ _ | refine Strip.drew ?_)); with_reducible exact Strip.refl) : Below u.heap.size u w := by
  induction s with
  | refl => exact a.out
  | alloc _ o ih => exact below_alloc ih o
  | drew _ ih => exact below_drew1 ih
  | drewN _ m ih => exact pw_below_drewN ih m
theorem ss {α : Type} {d : Kd α} {e : TypeId} {w0 w : World} {base : Nat} {ok : Nat → Prop} {v : Value} {xs : List α} (a : Aside0 (d.S e w0 base ok v xs))
    (s : Strip w0 w := by (with_reducible repeat (first | refine Strip.alloc ?_ _ | refine Strip.drewN ?_ _ | refine Strip.drew ?_)); with_reducible exact Strip.refl) : d.S e w base ok v xs := by
  induction s with
  | refl => exact a.out
  | alloc _ o ih => exact Kd.S_alloc ih o
  | drew _ ih => exact Kd.S_drew ih
  | drewN _ m ih => exact Kd.S_drewN ih m
inductive StripG (G : Nat → Prop) (w0 : World) : World → Prop
  | refl : StripG G w0 w0
  | alloc {w : World} (h : StripG G w0 w) (o : Obj) : StripG G w0 (w.alloc o)
  | drew {w : World} (h : StripG G w0 w) : StripG G w0 w.drew
  | drewN {w : World} (h : StripG G w0 w) (m : Nat) : StripG G w0 (w.drewN m)
  | set {w : World} {g j : Nat} {v : Value} (h : StripG G w0 w) (hg : G g) : StripG G w0 (w.setCell ⟨g, j, none⟩ v)
theorem hsG {G : Nat → Prop} {u w0 w : World} (a : Below u.heap.size u w0) (hG : ∀ g, G g → u.heap.size ≤ g) (s : StripG G w0 w) : Below u.heap.size u w := by
  induction s with
  | refl => exact a
  | alloc _ o ih => exact below_alloc ih o
  | drew _ ih => exact below_drew1 ih
  | drewN _ m ih => exact pw_below_drewN ih m
  | set _ hg ih => exact below_set ih (hG _ hg)
theorem hs1 {u w0 w : World} {g1 : Nat} (a : Aside0 (Below u.heap.size u w0)) (b1 : Aside0 (u.heap.size ≤ g1))
    (s : StripG (fun g => g = g1) w0 w := by repeat (first | (with_reducible exact StripG.refl) | (with_reducible refine StripG.alloc ?_ _) | (with_reducible refine StripG.drewN ?_ _) | (with_reducible refine StripG.drew ?_) | (with_reducible refine StripG.set ?_ (by repeat (first | (with_reducible exact rfl) | (with_reducible exact Or.inl rfl) | (with_reducible apply Or.inr)))))) : Below u.heap.size u w :=
  hsG a.out (fun g h => by subst h; exact b1.out) s
theorem hs2 {u w0 w : World} {g1 g2 : Nat} (a : Aside0 (Below u.heap.size u w0)) (b1 : Aside0 (u.heap.size ≤ g1)) (b2 : Aside0 (u.heap.size ≤ g2))
    (s : StripG (fun g => g = g1 ∨ g = g2) w0 w := by repeat (first | (with_reducible exact StripG.refl) | (with_reducible refine StripG.alloc ?_ _) | (with_reducible refine StripG.drewN ?_ _) | (with_reducible refine StripG.drew ?_) | (with_reducible refine StripG.set ?_ (by repeat (first | (with_reducible exact rfl) | (with_reducible exact Or.inl rfl) | (with_reducible apply Or.inr)))))) : Below u.heap.size u w :=
  hsG a.out (fun g (h : g = g1 ∨ g = g2) => by rcases h with rfl | rfl <;> (first | exact b1.out | exact b2.out)) s
theorem hs3 {u w0 w : World} {g1 g2 g3 : Nat} (a : Aside0 (Below u.heap.size u w0)) (b1 : Aside0 (u.heap.size ≤ g1)) (b2 : Aside0 (u.heap.size ≤ g2)) (b3 : Aside0 (u.heap.size ≤ g3))
    (s : StripG (fun g => g = g1 ∨ g = g2 ∨ g = g3) w0 w := by repeat (first | (with_reducible exact StripG.refl) | (with_reducible refine StripG.alloc ?_ _) | (with_reducible refine StripG.drewN ?_ _) | (with_reducible refine StripG.drew ?_) | (with_reducible refine StripG.set ?_ (by repeat (first | (with_reducible exact rfl) | (with_reducible exact Or.inl rfl) | (with_reducible apply Or.inr)))))) : Below u.heap.size u w :=
  hsG a.out (fun g (h : g = g1 ∨ g = g2 ∨ g = g3) => by rcases h with rfl | rfl | rfl <;> (first | exact b1.out | exact b2.out | exact b3.out)) s
theorem hs4 {u w0 w : World} {g1 g2 g3 g4 : Nat} (a : Aside0 (Below u.heap.size u w0)) (b1 : Aside0 (u.heap.size ≤ g1)) (b2 : Aside0 (u.heap.size ≤ g2)) (b3 : Aside0 (u.heap.size ≤ g3)) (b4 : Aside0 (u.heap.size ≤ g4))
    (s : StripG (fun g => g = g1 ∨ g = g2 ∨ g = g3 ∨ g = g4) w0 w := by repeat (first | (with_reducible exact StripG.refl) | (with_reducible refine StripG.alloc ?_ _) | (with_reducible refine StripG.drewN ?_ _) | (with_reducible refine StripG.drew ?_) | (with_reducible refine StripG.set ?_ (by repeat (first | (with_reducible exact rfl) | (with_reducible exact Or.inl rfl) | (with_reducible apply Or.inr)))))) : Below u.heap.size u w :=
  hsG a.out (fun g (h : g = g1 ∨ g = g2 ∨ g = g3 ∨ g = g4) => by rcases h with rfl | rfl | rfl | rfl <;> (first | exact b1.out | exact b2.out | exact b3.out | exact b4.out)) s
theorem hs5 {u w0 w : World} {g1 g2 g3 g4 g5 : Nat} (a : Aside0 (Below u.heap.size u w0)) (b1 : Aside0 (u.heap.size ≤ g1)) (b2 : Aside0 (u.heap.size ≤ g2)) (b3 : Aside0 (u.heap.size ≤ g3)) (b4 : Aside0 (u.heap.size ≤ g4)) (b5 : Aside0 (u.heap.size ≤ g5))
    (s : StripG (fun g => g = g1 ∨ g = g2 ∨ g = g3 ∨ g = g4 ∨ g = g5) w0 w := by repeat (first | (with_reducible exact StripG.refl) | (with_reducible refine StripG.alloc ?_ _) | (with_reducible refine StripG.drewN ?_ _) | (with_reducible refine StripG.drew ?_) | (with_reducible refine StripG.set ?_ (by repeat (first | (with_reducible exact rfl) | (with_reducible exact Or.inl rfl) | (with_reducible apply Or.inr)))))) : Below u.heap.size u w :=
  hsG a.out (fun g (h : g = g1 ∨ g = g2 ∨ g = g3 ∨ g = g4 ∨ g = g5) => by rcases h with rfl | rfl | rfl | rfl | rfl <;> (first | exact b1.out | exact b2.out | exact b3.out | exact b4.out | exact b5.out)) s
end Go.Proofs.YtijbejiajaiciaaW.PrintWords

namespace Go.Proofs.Ytijbejiajaiciaa.PC
open Go.RowKit Go.Proofs.YtijbejiajaiciaaW.PrintWords Go.Proofs.YtijbejiajaiciaaW.PrintLast Go.Proofs.YtijbejiajaiciaaW.PrintMore
attribute [local go_sem] max2_int min2_int max_two min_two max_three min_three max_four min_four   -- for this text's walks alone
set_option linter.unusedVariables false
set_option linter.unusedSimpArgs false
def errW : Option Int → Value
 | none=>.nilIface
 | some c=>.iface 0 (.int .i64 c)
theorem errW_none : errW none = .nilIface:=rfl
theorem errW_some (c : Int) : errW (some c) = .iface 0 (.int .i64 c):=rfl
theorem info3 : (Try.prog.info? 3).map (fun i=>(i.zero,i.size,i.bytes)) = some (some (.int .i64 0),1,8):=by kernel_rfl
theorem info5 : (Try.prog.info? 5).map (fun i=>(i.zero,i.size,i.bytes)) = some (some (.int .u8 0),1,1):=by kernel_rfl
theorem info69 : (Try.prog.info? 69).map (fun i=>(i.zero,i.size,i.bytes)) = some (some (.agg #[(.int .i64 0),(.int .i64 0),(.int .i64 0),(.string ⟨#[]⟩)]),4,40):=by kernel_rfl
theorem info98 : (Try.prog.info? 98).map (fun i=>(i.zero,i.size,i.bytes)) = some (some (.agg #[(.int .i64 0),(.int .i64 0),(.slice none 0 0)]),3,40):=by kernel_rfl
theorem info100 : (Try.prog.info? 100).map (fun i=>(i.zero,i.size,i.bytes)) = some (some (.agg #[(.int .i64 0),(.int .i64 0),(.int .i64 0),(.int .i64 0)]),4,32):=by kernel_rfl
theorem info112 : (Try.prog.info? 112).map (fun i=>(i.zero,i.size,i.bytes)) = some (some (.agg #[(.bool false),(.int .i64 0),(.slice none 0 0)]),3,40):=by kernel_rfl
theorem info114 : (Try.prog.info? 114).map (fun i=>(i.zero,i.size,i.bytes)) = some (some (.agg #[(.int .i64 0),(.string ⟨#[]⟩)]),2,24):=by kernel_rfl
theorem info124 : (Try.prog.info? 124).map (fun i=>(i.zero,i.size,i.bytes)) = some (some (.agg #[(.int .i64 0),(.int .i64 0)]),2,16):=by kernel_rfl
theorem info138 : (Try.prog.info? 138).map (fun i=>(i.zero,i.size,i.bytes)) = some (some (.agg #[(.bool false),(.slice none 0 0)]),2,32):=by kernel_rfl
-- the values' own types
structure S124 where
 f0 : Int
 f1 : Int
def z124 : S124:=⟨(0 : Int),(0 : Int)⟩
def k124 : Kd S124:=Kd.iso (Kd.pair (Kd.int .i64) (Kd.int .i64)) (fun x : S124=>(x.f0,x.f1))
theorem k124_open {w : World} {x : S124} {cs : List Value} (h : k124.K w x cs) : cs = [.int .i64 x.f0,.int .i64 x.f1]:=by
 obtain ⟨_,_,rfl,rfl,rfl⟩:=h;exact rfl
theorem k124_openM {w : World} {base : Nat} {ok : Nat → Prop} {x : S124} {cs : List Value} (h : k124.M w base ok x cs) : cs = [.int .i64 x.f0,.int .i64 x.f1]:=by
 obtain ⟨_,_,rfl,rfl,rfl⟩:=h;exact rfl
theorem k124_mk (w : World) (x : S124)  : k124.K w x [.int .i64 x.f0,.int .i64 x.f1]:=⟨[.int .i64 x.f0],[.int .i64 x.f1],rfl,rfl,rfl⟩
theorem k124_mkM (w : World) (base : Nat) (ok : Nat → Prop) (x : S124)  : k124.M w base ok x [.int .i64 x.f0,.int .i64 x.f1]:=⟨[.int .i64 x.f0],[.int .i64 x.f1],rfl,rfl,rfl⟩
theorem k124_mkF (W : World) (ok : Nat → Prop) (x : S124) : Kd.FK k124 W ok x [.int .i64 x.f0,.int .i64 x.f1]:=fun W2 _=>k124_mk W2 x
def rd_T124 (xs : List S124) (i : Int) : S124:=xs.getD i.toNat z124
theorem at_T124 {w : World} {A : Option Addr} {n : Nat} {xs : List S124} (h : Kd.C k124 w A n xs) (i : Int) (h0 : 0 ≤ i) (h1 : i < n) : ∃ ad ,A = some ad ∧ w.cell? (ad.add (i.toNat * 2)) = some (.int .i64 (rd_T124 xs i).f0) ∧ w.cell? ⟨(ad.add (i.toNat * 2)).block,(ad.add (i.toNat * 2)).off + 1,none⟩ = some (.int .i64 (rd_T124 xs i).f1):=by
 obtain ⟨ad,c,e,_,hK,hc0⟩:=Kd.C_get h z124 i h0 h1;have hc : ∀ j u,c[j]? = some u → w.cell? (ad.add (i.toNat * 2 + j)) = some u:=hc0;obtain rfl:=k124_open hK;exact ⟨ad,e,hc 0 _ rfl,by rw [← add_field _ _ 1 (by omega)];exact hc 1 _ rfl⟩
def rd_L3 (xs : List (List Int)) (i : Int) : (List Int):=xs.getD i.toNat ([] : List Int)
theorem at_L3 {w : World} {A : Option Addr} {n : Nat} {xs : List (List Int)} (h : Kd.C (Kd.slice 3 (Kd.int .i64)) w A n xs) (i : Int) (h0 : 0 ≤ i) (h1 : i < n) : ∃ ad A0 c0,A = some ad ∧ w.cell? (ad.add i.toNat) = some (.slice A0 (rd_L3 xs i).length c0) ∧ (rd_L3 xs i).length ≤ c0 ∧ (Kd.int .i64).C w A0 (rd_L3 xs i).length (rd_L3 xs i):=by
 obtain ⟨ad,c,e,_,hK,hc0⟩:=Kd.C_get h ([] : List Int) i h0 h1;have hc : ∀ j u,c[j]? = some u → w.cell? (ad.add (i.toNat * 1 + j)) = some u:=hc0;obtain ⟨A0,c0,rfl,l0,g0⟩:=hK;exact ⟨ad,A0,c0,e,by have hq:=hc 0 _ rfl;rwa [Nat.mul_one,Nat.add_zero] at hq,l0,g0⟩
structure S138 where
 f0 : Bool
 f1 : (List Int)
def z138 : S138:=⟨false,([] : List Int)⟩
def k138 : Kd S138:=Kd.iso (Kd.pair Kd.bool (Kd.slice 3 (Kd.int .i64))) (fun x : S138=>(x.f0,x.f1))
theorem k138_open {w : World} {x : S138} {cs : List Value} (h : k138.K w x cs) : ∃ A1 c1,cs = [.bool x.f0,.slice A1 x.f1.length c1] ∧ x.f1.length ≤ c1 ∧ (Kd.int .i64).C w A1 x.f1.length x.f1:=by
 obtain ⟨_,_,rfl,rfl,⟨A1,c1,rfl,l1,g1⟩⟩:=h;exact ⟨A1,c1,rfl,l1,g1⟩
theorem k138_openM {w : World} {base : Nat} {ok : Nat → Prop} {x : S138} {cs : List Value} (h : k138.M w base ok x cs) : ∃ v1,cs = [.bool x.f0,v1] ∧ (Kd.int .i64).R 3 w base ok v1 x.f1:=by
 obtain ⟨_,_,rfl,rfl,⟨v1,rfl,g1⟩⟩:=h;exact ⟨v1,rfl,g1⟩
theorem k138_mk (w : World) (x : S138) {A1 : Option Addr} {c1 : Nat} (l1 : x.f1.length ≤ c1) (g1 : (Kd.int .i64).C w A1 x.f1.length x.f1) : k138.K w x [.bool x.f0,.slice A1 x.f1.length c1]:=⟨[.bool x.f0],[.slice A1 x.f1.length c1],rfl,rfl,⟨A1,c1,rfl,l1,g1⟩⟩
theorem k138_mkM (w : World) (base : Nat) (ok : Nat → Prop) (x : S138) {v1 : Value} (g1 : (Kd.int .i64).R 3 w base ok v1 x.f1) : k138.M w base ok x [.bool x.f0,v1]:=⟨[.bool x.f0],[v1],rfl,rfl,⟨v1,rfl,g1⟩⟩
theorem k138_openF {W : World} {ok : Nat → Prop} {x : S138} {cs : List Value} (h : Kd.FK k138 W ok x cs) : ∃ A1 c1,cs = [.bool x.f0,.slice A1 x.f1.length c1] ∧ x.f1.length ≤ c1 ∧ Kd.F (Kd.int .i64) W ok A1 x.f1.length x.f1:=by
 obtain ⟨A1,c1,rfl,l1,_⟩:=k138_open (Kd.FK_now h);exact ⟨A1,c1,rfl,l1,(fun W' hW=>by obtain ⟨A1_,c1_,he,l1_,g1_⟩:=k138_open (h W' hW);injection (Option.some.inj (show some (Value.slice A1 x.f1.length c1) = some (Value.slice A1_ x.f1.length c1_) from congrArg (fun l=>l[1]?) he)) with ha_ _ _;rw [ha_];exact g1_)⟩
theorem k138_mkF (W : World) (ok : Nat → Prop) (x : S138) {A1 : Option Addr} {c1 : Nat} (l1 : x.f1.length ≤ c1) (g1 : Kd.F (Kd.int .i64) W ok A1 x.f1.length x.f1) : Kd.FK k138 W ok x [.bool x.f0,.slice A1 x.f1.length c1]:=fun W2 hW=>k138_mk W2 x l1 (g1 W2 hW)
def rd_T138 (xs : List S138) (i : Int) : S138:=xs.getD i.toNat z138
theorem at_T138 {w : World} {A : Option Addr} {n : Nat} {xs : List S138} (h : Kd.C k138 w A n xs) (i : Int) (h0 : 0 ≤ i) (h1 : i < n) : ∃ ad A1 c1,A = some ad ∧ w.cell? (ad.add (i.toNat * 2)) = some (.bool (rd_T138 xs i).f0) ∧ w.cell? ⟨(ad.add (i.toNat * 2)).block,(ad.add (i.toNat * 2)).off + 1,none⟩ = some (.slice A1 (rd_T138 xs i).f1.length c1) ∧ (rd_T138 xs i).f1.length ≤ c1 ∧ (Kd.int .i64).C w A1 (rd_T138 xs i).f1.length (rd_T138 xs i).f1:=by
 obtain ⟨ad,c,e,_,hK,hc0⟩:=Kd.C_get h z138 i h0 h1;have hc : ∀ j u,c[j]? = some u → w.cell? (ad.add (i.toNat * 2 + j)) = some u:=hc0;obtain ⟨A1,c1,rfl,l1,g1⟩:=k138_open hK;exact ⟨ad,A1,c1,e,hc 0 _ rfl,by rw [← add_field _ _ 1 (by omega)];exact hc 1 _ rfl,l1,g1⟩
structure S156 where
 f0 : Int
 f1 : Int
 f2 : Int
 f3 : Int
def z156 : S156:=⟨(0 : Int),(0 : Int),(0 : Int),(0 : Int)⟩
def k156 : Kd S156:=Kd.iso (Kd.pair (Kd.int .i64) (Kd.pair (Kd.int .i64) (Kd.pair (Kd.int .i64) (Kd.int .i64)))) (fun x : S156=>(x.f0,x.f1,x.f2,x.f3))
theorem k156_open {w : World} {x : S156} {cs : List Value} (h : k156.K w x cs) : cs = [.int .i64 x.f0,.int .i64 x.f1,.int .i64 x.f2,.int .i64 x.f3]:=by
 obtain ⟨_,_,rfl,rfl,⟨_,_,rfl,rfl,⟨_,_,rfl,rfl,rfl⟩⟩⟩:=h;exact rfl
theorem k156_openM {w : World} {base : Nat} {ok : Nat → Prop} {x : S156} {cs : List Value} (h : k156.M w base ok x cs) : cs = [.int .i64 x.f0,.int .i64 x.f1,.int .i64 x.f2,.int .i64 x.f3]:=by
 obtain ⟨_,_,rfl,rfl,⟨_,_,rfl,rfl,⟨_,_,rfl,rfl,rfl⟩⟩⟩:=h;exact rfl
theorem k156_mk (w : World) (x : S156)  : k156.K w x [.int .i64 x.f0,.int .i64 x.f1,.int .i64 x.f2,.int .i64 x.f3]:=⟨[.int .i64 x.f0],[.int .i64 x.f1,.int .i64 x.f2,.int .i64 x.f3],rfl,rfl,⟨[.int .i64 x.f1],[.int .i64 x.f2,.int .i64 x.f3],rfl,rfl,⟨[.int .i64 x.f2],[.int .i64 x.f3],rfl,rfl,rfl⟩⟩⟩
theorem k156_mkM (w : World) (base : Nat) (ok : Nat → Prop) (x : S156)  : k156.M w base ok x [.int .i64 x.f0,.int .i64 x.f1,.int .i64 x.f2,.int .i64 x.f3]:=⟨[.int .i64 x.f0],[.int .i64 x.f1,.int .i64 x.f2,.int .i64 x.f3],rfl,rfl,⟨[.int .i64 x.f1],[.int .i64 x.f2,.int .i64 x.f3],rfl,rfl,⟨[.int .i64 x.f2],[.int .i64 x.f3],rfl,rfl,rfl⟩⟩⟩
theorem k156_mkF (W : World) (ok : Nat → Prop) (x : S156) : Kd.FK k156 W ok x [.int .i64 x.f0,.int .i64 x.f1,.int .i64 x.f2,.int .i64 x.f3]:=fun W2 _=>k156_mk W2 x
def rd_T156 (xs : List S156) (i : Int) : S156:=xs.getD i.toNat z156
theorem at_T156 {w : World} {A : Option Addr} {n : Nat} {xs : List S156} (h : Kd.C k156 w A n xs) (i : Int) (h0 : 0 ≤ i) (h1 : i < n) : ∃ ad ,A = some ad ∧ w.cell? (ad.add (i.toNat * 4)) = some (.int .i64 (rd_T156 xs i).f0) ∧ w.cell? ⟨(ad.add (i.toNat * 4)).block,(ad.add (i.toNat * 4)).off + 1,none⟩ = some (.int .i64 (rd_T156 xs i).f1) ∧ w.cell? ⟨(ad.add (i.toNat * 4)).block,(ad.add (i.toNat * 4)).off + 2,none⟩ = some (.int .i64 (rd_T156 xs i).f2) ∧ w.cell? ⟨(ad.add (i.toNat * 4)).block,(ad.add (i.toNat * 4)).off + 3,none⟩ = some (.int .i64 (rd_T156 xs i).f3):=by
 obtain ⟨ad,c,e,_,hK,hc0⟩:=Kd.C_get h z156 i h0 h1;have hc : ∀ j u,c[j]? = some u → w.cell? (ad.add (i.toNat * 4 + j)) = some u:=hc0;obtain rfl:=k156_open hK;exact ⟨ad,e,hc 0 _ rfl,by rw [← add_field _ _ 1 (by omega)];exact hc 1 _ rfl,by rw [← add_field _ _ 2 (by omega)];exact hc 2 _ rfl,by rw [← add_field _ _ 3 (by omega)];exact hc 3 _ rfl⟩
def rd_L6 (xs : List (List S156)) (i : Int) : (List S156):=xs.getD i.toNat ([] : List S156)
theorem at_L6 {w : World} {A : Option Addr} {n : Nat} {xs : List (List S156)} (h : Kd.C (Kd.slice 156 k156) w A n xs) (i : Int) (h0 : 0 ≤ i) (h1 : i < n) : ∃ ad A0 c0,A = some ad ∧ w.cell? (ad.add i.toNat) = some (.slice A0 (rd_L6 xs i).length c0) ∧ (rd_L6 xs i).length ≤ c0 ∧ k156.C w A0 (rd_L6 xs i).length (rd_L6 xs i):=by
 obtain ⟨ad,c,e,_,hK,hc0⟩:=Kd.C_get h ([] : List S156) i h0 h1;have hc : ∀ j u,c[j]? = some u → w.cell? (ad.add (i.toNat * 1 + j)) = some u:=hc0;obtain ⟨A0,c0,rfl,l0,g0⟩:=hK;exact ⟨ad,A0,c0,e,by have hq:=hc 0 _ rfl;rwa [Nat.mul_one,Nat.add_zero] at hq,l0,g0⟩
structure S96 where
 f0 : Int
 f1 : Int
 f2 : (List S156)
def z96 : S96:=⟨(0 : Int),(0 : Int),([] : List S156)⟩
def k96 : Kd S96:=Kd.iso (Kd.pair (Kd.int .i64) (Kd.pair (Kd.int .i64) (Kd.slice 156 k156))) (fun x : S96=>(x.f0,x.f1,x.f2))
theorem k96_open {w : World} {x : S96} {cs : List Value} (h : k96.K w x cs) : ∃ A2 c2,cs = [.int .i64 x.f0,.int .i64 x.f1,.slice A2 x.f2.length c2] ∧ x.f2.length ≤ c2 ∧ k156.C w A2 x.f2.length x.f2:=by
 obtain ⟨_,_,rfl,rfl,⟨_,_,rfl,rfl,⟨A2,c2,rfl,l2,g2⟩⟩⟩:=h;exact ⟨A2,c2,rfl,l2,g2⟩
theorem k96_openM {w : World} {base : Nat} {ok : Nat → Prop} {x : S96} {cs : List Value} (h : k96.M w base ok x cs) : ∃ v2,cs = [.int .i64 x.f0,.int .i64 x.f1,v2] ∧ k156.R 156 w base ok v2 x.f2:=by
 obtain ⟨_,_,rfl,rfl,⟨_,_,rfl,rfl,⟨v2,rfl,g2⟩⟩⟩:=h;exact ⟨v2,rfl,g2⟩
theorem k96_mk (w : World) (x : S96) {A2 : Option Addr} {c2 : Nat} (l2 : x.f2.length ≤ c2) (g2 : k156.C w A2 x.f2.length x.f2) : k96.K w x [.int .i64 x.f0,.int .i64 x.f1,.slice A2 x.f2.length c2]:=⟨[.int .i64 x.f0],[.int .i64 x.f1,.slice A2 x.f2.length c2],rfl,rfl,⟨[.int .i64 x.f1],[.slice A2 x.f2.length c2],rfl,rfl,⟨A2,c2,rfl,l2,g2⟩⟩⟩
theorem k96_mkM (w : World) (base : Nat) (ok : Nat → Prop) (x : S96) {v2 : Value} (g2 : k156.R 156 w base ok v2 x.f2) : k96.M w base ok x [.int .i64 x.f0,.int .i64 x.f1,v2]:=⟨[.int .i64 x.f0],[.int .i64 x.f1,v2],rfl,rfl,⟨[.int .i64 x.f1],[v2],rfl,rfl,⟨v2,rfl,g2⟩⟩⟩
theorem k96_openF {W : World} {ok : Nat → Prop} {x : S96} {cs : List Value} (h : Kd.FK k96 W ok x cs) : ∃ A2 c2,cs = [.int .i64 x.f0,.int .i64 x.f1,.slice A2 x.f2.length c2] ∧ x.f2.length ≤ c2 ∧ Kd.F k156 W ok A2 x.f2.length x.f2:=by
 obtain ⟨A2,c2,rfl,l2,_⟩:=k96_open (Kd.FK_now h);exact ⟨A2,c2,rfl,l2,(fun W' hW=>by obtain ⟨A2_,c2_,he,l2_,g2_⟩:=k96_open (h W' hW);injection (Option.some.inj (show some (Value.slice A2 x.f2.length c2) = some (Value.slice A2_ x.f2.length c2_) from congrArg (fun l=>l[2]?) he)) with ha_ _ _;rw [ha_];exact g2_)⟩
theorem k96_mkF (W : World) (ok : Nat → Prop) (x : S96) {A2 : Option Addr} {c2 : Nat} (l2 : x.f2.length ≤ c2) (g2 : Kd.F k156 W ok A2 x.f2.length x.f2) : Kd.FK k96 W ok x [.int .i64 x.f0,.int .i64 x.f1,.slice A2 x.f2.length c2]:=fun W2 hW=>k96_mk W2 x l2 (g2 W2 hW)
def rd_T96 (xs : List S96) (i : Int) : S96:=xs.getD i.toNat z96
theorem at_T96 {w : World} {A : Option Addr} {n : Nat} {xs : List S96} (h : Kd.C k96 w A n xs) (i : Int) (h0 : 0 ≤ i) (h1 : i < n) : ∃ ad A2 c2,A = some ad ∧ w.cell? (ad.add (i.toNat * 3)) = some (.int .i64 (rd_T96 xs i).f0) ∧ w.cell? ⟨(ad.add (i.toNat * 3)).block,(ad.add (i.toNat * 3)).off + 1,none⟩ = some (.int .i64 (rd_T96 xs i).f1) ∧ w.cell? ⟨(ad.add (i.toNat * 3)).block,(ad.add (i.toNat * 3)).off + 2,none⟩ = some (.slice A2 (rd_T96 xs i).f2.length c2) ∧ (rd_T96 xs i).f2.length ≤ c2 ∧ k156.C w A2 (rd_T96 xs i).f2.length (rd_T96 xs i).f2:=by
 obtain ⟨ad,c,e,_,hK,hc0⟩:=Kd.C_get h z96 i h0 h1;have hc : ∀ j u,c[j]? = some u → w.cell? (ad.add (i.toNat * 3 + j)) = some u:=hc0;obtain ⟨A2,c2,rfl,l2,g2⟩:=k96_open hK;exact ⟨ad,A2,c2,e,hc 0 _ rfl,by rw [← add_field _ _ 1 (by omega)];exact hc 1 _ rfl,by rw [← add_field _ _ 2 (by omega)];exact hc 2 _ rfl,l2,g2⟩
structure S100 where
 f0 : Int
 f1 : Int
 f2 : Int
 f3 : Int
def z100 : S100:=⟨(0 : Int),(0 : Int),(0 : Int),(0 : Int)⟩
def k100 : Kd S100:=Kd.iso (Kd.pair (Kd.int .i64) (Kd.pair (Kd.int .i64) (Kd.pair (Kd.int .i64) (Kd.int .i64)))) (fun x : S100=>(x.f0,x.f1,x.f2,x.f3))
theorem k100_open {w : World} {x : S100} {cs : List Value} (h : k100.K w x cs) : cs = [.int .i64 x.f0,.int .i64 x.f1,.int .i64 x.f2,.int .i64 x.f3]:=by
 obtain ⟨_,_,rfl,rfl,⟨_,_,rfl,rfl,⟨_,_,rfl,rfl,rfl⟩⟩⟩:=h;exact rfl
theorem k100_openM {w : World} {base : Nat} {ok : Nat → Prop} {x : S100} {cs : List Value} (h : k100.M w base ok x cs) : cs = [.int .i64 x.f0,.int .i64 x.f1,.int .i64 x.f2,.int .i64 x.f3]:=by
 obtain ⟨_,_,rfl,rfl,⟨_,_,rfl,rfl,⟨_,_,rfl,rfl,rfl⟩⟩⟩:=h;exact rfl
theorem k100_mk (w : World) (x : S100)  : k100.K w x [.int .i64 x.f0,.int .i64 x.f1,.int .i64 x.f2,.int .i64 x.f3]:=⟨[.int .i64 x.f0],[.int .i64 x.f1,.int .i64 x.f2,.int .i64 x.f3],rfl,rfl,⟨[.int .i64 x.f1],[.int .i64 x.f2,.int .i64 x.f3],rfl,rfl,⟨[.int .i64 x.f2],[.int .i64 x.f3],rfl,rfl,rfl⟩⟩⟩
theorem k100_mkM (w : World) (base : Nat) (ok : Nat → Prop) (x : S100)  : k100.M w base ok x [.int .i64 x.f0,.int .i64 x.f1,.int .i64 x.f2,.int .i64 x.f3]:=⟨[.int .i64 x.f0],[.int .i64 x.f1,.int .i64 x.f2,.int .i64 x.f3],rfl,rfl,⟨[.int .i64 x.f1],[.int .i64 x.f2,.int .i64 x.f3],rfl,rfl,⟨[.int .i64 x.f2],[.int .i64 x.f3],rfl,rfl,rfl⟩⟩⟩
theorem k100_mkF (W : World) (ok : Nat → Prop) (x : S100) : Kd.FK k100 W ok x [.int .i64 x.f0,.int .i64 x.f1,.int .i64 x.f2,.int .i64 x.f3]:=fun W2 _=>k100_mk W2 x
def rd_T100 (xs : List S100) (i : Int) : S100:=xs.getD i.toNat z100
theorem at_T100 {w : World} {A : Option Addr} {n : Nat} {xs : List S100} (h : Kd.C k100 w A n xs) (i : Int) (h0 : 0 ≤ i) (h1 : i < n) : ∃ ad ,A = some ad ∧ w.cell? (ad.add (i.toNat * 4)) = some (.int .i64 (rd_T100 xs i).f0) ∧ w.cell? ⟨(ad.add (i.toNat * 4)).block,(ad.add (i.toNat * 4)).off + 1,none⟩ = some (.int .i64 (rd_T100 xs i).f1) ∧ w.cell? ⟨(ad.add (i.toNat * 4)).block,(ad.add (i.toNat * 4)).off + 2,none⟩ = some (.int .i64 (rd_T100 xs i).f2) ∧ w.cell? ⟨(ad.add (i.toNat * 4)).block,(ad.add (i.toNat * 4)).off + 3,none⟩ = some (.int .i64 (rd_T100 xs i).f3):=by
 obtain ⟨ad,c,e,_,hK,hc0⟩:=Kd.C_get h z100 i h0 h1;have hc : ∀ j u,c[j]? = some u → w.cell? (ad.add (i.toNat * 4 + j)) = some u:=hc0;obtain rfl:=k100_open hK;exact ⟨ad,e,hc 0 _ rfl,by rw [← add_field _ _ 1 (by omega)];exact hc 1 _ rfl,by rw [← add_field _ _ 2 (by omega)];exact hc 2 _ rfl,by rw [← add_field _ _ 3 (by omega)];exact hc 3 _ rfl⟩
def rd_L9 (xs : List (List S100)) (i : Int) : (List S100):=xs.getD i.toNat ([] : List S100)
theorem at_L9 {w : World} {A : Option Addr} {n : Nat} {xs : List (List S100)} (h : Kd.C (Kd.slice 100 k100) w A n xs) (i : Int) (h0 : 0 ≤ i) (h1 : i < n) : ∃ ad A0 c0,A = some ad ∧ w.cell? (ad.add i.toNat) = some (.slice A0 (rd_L9 xs i).length c0) ∧ (rd_L9 xs i).length ≤ c0 ∧ k100.C w A0 (rd_L9 xs i).length (rd_L9 xs i):=by
 obtain ⟨ad,c,e,_,hK,hc0⟩:=Kd.C_get h ([] : List S100) i h0 h1;have hc : ∀ j u,c[j]? = some u → w.cell? (ad.add (i.toNat * 1 + j)) = some u:=hc0;obtain ⟨A0,c0,rfl,l0,g0⟩:=hK;exact ⟨ad,A0,c0,e,by have hq:=hc 0 _ rfl;rwa [Nat.mul_one,Nat.add_zero] at hq,l0,g0⟩
structure S98 where
 f0 : Int
 f1 : Int
 f2 : (List S100)
def z98 : S98:=⟨(0 : Int),(0 : Int),([] : List S100)⟩
def k98 : Kd S98:=Kd.iso (Kd.pair (Kd.int .i64) (Kd.pair (Kd.int .i64) (Kd.slice 100 k100))) (fun x : S98=>(x.f0,x.f1,x.f2))
theorem k98_open {w : World} {x : S98} {cs : List Value} (h : k98.K w x cs) : ∃ A2 c2,cs = [.int .i64 x.f0,.int .i64 x.f1,.slice A2 x.f2.length c2] ∧ x.f2.length ≤ c2 ∧ k100.C w A2 x.f2.length x.f2:=by
 obtain ⟨_,_,rfl,rfl,⟨_,_,rfl,rfl,⟨A2,c2,rfl,l2,g2⟩⟩⟩:=h;exact ⟨A2,c2,rfl,l2,g2⟩
theorem k98_openM {w : World} {base : Nat} {ok : Nat → Prop} {x : S98} {cs : List Value} (h : k98.M w base ok x cs) : ∃ v2,cs = [.int .i64 x.f0,.int .i64 x.f1,v2] ∧ k100.R 100 w base ok v2 x.f2:=by
 obtain ⟨_,_,rfl,rfl,⟨_,_,rfl,rfl,⟨v2,rfl,g2⟩⟩⟩:=h;exact ⟨v2,rfl,g2⟩
theorem k98_mk (w : World) (x : S98) {A2 : Option Addr} {c2 : Nat} (l2 : x.f2.length ≤ c2) (g2 : k100.C w A2 x.f2.length x.f2) : k98.K w x [.int .i64 x.f0,.int .i64 x.f1,.slice A2 x.f2.length c2]:=⟨[.int .i64 x.f0],[.int .i64 x.f1,.slice A2 x.f2.length c2],rfl,rfl,⟨[.int .i64 x.f1],[.slice A2 x.f2.length c2],rfl,rfl,⟨A2,c2,rfl,l2,g2⟩⟩⟩
theorem k98_mkM (w : World) (base : Nat) (ok : Nat → Prop) (x : S98) {v2 : Value} (g2 : k100.R 100 w base ok v2 x.f2) : k98.M w base ok x [.int .i64 x.f0,.int .i64 x.f1,v2]:=⟨[.int .i64 x.f0],[.int .i64 x.f1,v2],rfl,rfl,⟨[.int .i64 x.f1],[v2],rfl,rfl,⟨v2,rfl,g2⟩⟩⟩
theorem k98_openF {W : World} {ok : Nat → Prop} {x : S98} {cs : List Value} (h : Kd.FK k98 W ok x cs) : ∃ A2 c2,cs = [.int .i64 x.f0,.int .i64 x.f1,.slice A2 x.f2.length c2] ∧ x.f2.length ≤ c2 ∧ Kd.F k100 W ok A2 x.f2.length x.f2:=by
 obtain ⟨A2,c2,rfl,l2,_⟩:=k98_open (Kd.FK_now h);exact ⟨A2,c2,rfl,l2,(fun W' hW=>by obtain ⟨A2_,c2_,he,l2_,g2_⟩:=k98_open (h W' hW);injection (Option.some.inj (show some (Value.slice A2 x.f2.length c2) = some (Value.slice A2_ x.f2.length c2_) from congrArg (fun l=>l[2]?) he)) with ha_ _ _;rw [ha_];exact g2_)⟩
theorem k98_mkF (W : World) (ok : Nat → Prop) (x : S98) {A2 : Option Addr} {c2 : Nat} (l2 : x.f2.length ≤ c2) (g2 : Kd.F k100 W ok A2 x.f2.length x.f2) : Kd.FK k98 W ok x [.int .i64 x.f0,.int .i64 x.f1,.slice A2 x.f2.length c2]:=fun W2 hW=>k98_mk W2 x l2 (g2 W2 hW)
def rd_T98 (xs : List S98) (i : Int) : S98:=xs.getD i.toNat z98
theorem at_T98 {w : World} {A : Option Addr} {n : Nat} {xs : List S98} (h : Kd.C k98 w A n xs) (i : Int) (h0 : 0 ≤ i) (h1 : i < n) : ∃ ad A2 c2,A = some ad ∧ w.cell? (ad.add (i.toNat * 3)) = some (.int .i64 (rd_T98 xs i).f0) ∧ w.cell? ⟨(ad.add (i.toNat * 3)).block,(ad.add (i.toNat * 3)).off + 1,none⟩ = some (.int .i64 (rd_T98 xs i).f1) ∧ w.cell? ⟨(ad.add (i.toNat * 3)).block,(ad.add (i.toNat * 3)).off + 2,none⟩ = some (.slice A2 (rd_T98 xs i).f2.length c2) ∧ (rd_T98 xs i).f2.length ≤ c2 ∧ k100.C w A2 (rd_T98 xs i).f2.length (rd_T98 xs i).f2:=by
 obtain ⟨ad,c,e,_,hK,hc0⟩:=Kd.C_get h z98 i h0 h1;have hc : ∀ j u,c[j]? = some u → w.cell? (ad.add (i.toNat * 3 + j)) = some u:=hc0;obtain ⟨A2,c2,rfl,l2,g2⟩:=k98_open hK;exact ⟨ad,A2,c2,e,hc 0 _ rfl,by rw [← add_field _ _ 1 (by omega)];exact hc 1 _ rfl,by rw [← add_field _ _ 2 (by omega)];exact hc 2 _ rfl,l2,g2⟩
structure S134 where
 f0 : Bool
 f1 : (List Int)
def z134 : S134:=⟨false,([] : List Int)⟩
def k134 : Kd S134:=Kd.iso (Kd.pair Kd.bool (Kd.slice 3 (Kd.int .i64))) (fun x : S134=>(x.f0,x.f1))
theorem k134_open {w : World} {x : S134} {cs : List Value} (h : k134.K w x cs) : ∃ A1 c1,cs = [.bool x.f0,.slice A1 x.f1.length c1] ∧ x.f1.length ≤ c1 ∧ (Kd.int .i64).C w A1 x.f1.length x.f1:=by
 obtain ⟨_,_,rfl,rfl,⟨A1,c1,rfl,l1,g1⟩⟩:=h;exact ⟨A1,c1,rfl,l1,g1⟩
theorem k134_openM {w : World} {base : Nat} {ok : Nat → Prop} {x : S134} {cs : List Value} (h : k134.M w base ok x cs) : ∃ v1,cs = [.bool x.f0,v1] ∧ (Kd.int .i64).R 3 w base ok v1 x.f1:=by
 obtain ⟨_,_,rfl,rfl,⟨v1,rfl,g1⟩⟩:=h;exact ⟨v1,rfl,g1⟩
theorem k134_mk (w : World) (x : S134) {A1 : Option Addr} {c1 : Nat} (l1 : x.f1.length ≤ c1) (g1 : (Kd.int .i64).C w A1 x.f1.length x.f1) : k134.K w x [.bool x.f0,.slice A1 x.f1.length c1]:=⟨[.bool x.f0],[.slice A1 x.f1.length c1],rfl,rfl,⟨A1,c1,rfl,l1,g1⟩⟩
theorem k134_mkM (w : World) (base : Nat) (ok : Nat → Prop) (x : S134) {v1 : Value} (g1 : (Kd.int .i64).R 3 w base ok v1 x.f1) : k134.M w base ok x [.bool x.f0,v1]:=⟨[.bool x.f0],[v1],rfl,rfl,⟨v1,rfl,g1⟩⟩
theorem k134_openF {W : World} {ok : Nat → Prop} {x : S134} {cs : List Value} (h : Kd.FK k134 W ok x cs) : ∃ A1 c1,cs = [.bool x.f0,.slice A1 x.f1.length c1] ∧ x.f1.length ≤ c1 ∧ Kd.F (Kd.int .i64) W ok A1 x.f1.length x.f1:=by
 obtain ⟨A1,c1,rfl,l1,_⟩:=k134_open (Kd.FK_now h);exact ⟨A1,c1,rfl,l1,(fun W' hW=>by obtain ⟨A1_,c1_,he,l1_,g1_⟩:=k134_open (h W' hW);injection (Option.some.inj (show some (Value.slice A1 x.f1.length c1) = some (Value.slice A1_ x.f1.length c1_) from congrArg (fun l=>l[1]?) he)) with ha_ _ _;rw [ha_];exact g1_)⟩
theorem k134_mkF (W : World) (ok : Nat → Prop) (x : S134) {A1 : Option Addr} {c1 : Nat} (l1 : x.f1.length ≤ c1) (g1 : Kd.F (Kd.int .i64) W ok A1 x.f1.length x.f1) : Kd.FK k134 W ok x [.bool x.f0,.slice A1 x.f1.length c1]:=fun W2 hW=>k134_mk W2 x l1 (g1 W2 hW)
def rd_T134 (xs : List S134) (i : Int) : S134:=xs.getD i.toNat z134
theorem at_T134 {w : World} {A : Option Addr} {n : Nat} {xs : List S134} (h : Kd.C k134 w A n xs) (i : Int) (h0 : 0 ≤ i) (h1 : i < n) : ∃ ad A1 c1,A = some ad ∧ w.cell? (ad.add (i.toNat * 2)) = some (.bool (rd_T134 xs i).f0) ∧ w.cell? ⟨(ad.add (i.toNat * 2)).block,(ad.add (i.toNat * 2)).off + 1,none⟩ = some (.slice A1 (rd_T134 xs i).f1.length c1) ∧ (rd_T134 xs i).f1.length ≤ c1 ∧ (Kd.int .i64).C w A1 (rd_T134 xs i).f1.length (rd_T134 xs i).f1:=by
 obtain ⟨ad,c,e,_,hK,hc0⟩:=Kd.C_get h z134 i h0 h1;have hc : ∀ j u,c[j]? = some u → w.cell? (ad.add (i.toNat * 2 + j)) = some u:=hc0;obtain ⟨A1,c1,rfl,l1,g1⟩:=k134_open hK;exact ⟨ad,A1,c1,e,hc 0 _ rfl,by rw [← add_field _ _ 1 (by omega)];exact hc 1 _ rfl,l1,g1⟩
structure S163 where
 f0 : Int
 f1 : ByteArray
def z163 : S163:=⟨(0 : Int),(⟨#[]⟩ : ByteArray)⟩
def k163 : Kd S163:=Kd.iso (Kd.pair (Kd.int .i64) Kd.string) (fun x : S163=>(x.f0,x.f1))
theorem k163_open {w : World} {x : S163} {cs : List Value} (h : k163.K w x cs) : cs = [.int .i64 x.f0,.string x.f1]:=by
 obtain ⟨_,_,rfl,rfl,rfl⟩:=h;exact rfl
theorem k163_openM {w : World} {base : Nat} {ok : Nat → Prop} {x : S163} {cs : List Value} (h : k163.M w base ok x cs) : cs = [.int .i64 x.f0,.string x.f1]:=by
 obtain ⟨_,_,rfl,rfl,rfl⟩:=h;exact rfl
theorem k163_mk (w : World) (x : S163)  : k163.K w x [.int .i64 x.f0,.string x.f1]:=⟨[.int .i64 x.f0],[.string x.f1],rfl,rfl,rfl⟩
theorem k163_mkM (w : World) (base : Nat) (ok : Nat → Prop) (x : S163)  : k163.M w base ok x [.int .i64 x.f0,.string x.f1]:=⟨[.int .i64 x.f0],[.string x.f1],rfl,rfl,rfl⟩
theorem k163_mkF (W : World) (ok : Nat → Prop) (x : S163) : Kd.FK k163 W ok x [.int .i64 x.f0,.string x.f1]:=fun W2 _=>k163_mk W2 x
def rd_T163 (xs : List S163) (i : Int) : S163:=xs.getD i.toNat z163
theorem at_T163 {w : World} {A : Option Addr} {n : Nat} {xs : List S163} (h : Kd.C k163 w A n xs) (i : Int) (h0 : 0 ≤ i) (h1 : i < n) : ∃ ad ,A = some ad ∧ w.cell? (ad.add (i.toNat * 2)) = some (.int .i64 (rd_T163 xs i).f0) ∧ w.cell? ⟨(ad.add (i.toNat * 2)).block,(ad.add (i.toNat * 2)).off + 1,none⟩ = some (.string (rd_T163 xs i).f1):=by
 obtain ⟨ad,c,e,_,hK,hc0⟩:=Kd.C_get h z163 i h0 h1;have hc : ∀ j u,c[j]? = some u → w.cell? (ad.add (i.toNat * 2 + j)) = some u:=hc0;obtain rfl:=k163_open hK;exact ⟨ad,e,hc 0 _ rfl,by rw [← add_field _ _ 1 (by omega)];exact hc 1 _ rfl⟩
def rd_L14 (xs : List (List S163)) (i : Int) : (List S163):=xs.getD i.toNat ([] : List S163)
theorem at_L14 {w : World} {A : Option Addr} {n : Nat} {xs : List (List S163)} (h : Kd.C (Kd.slice 163 k163) w A n xs) (i : Int) (h0 : 0 ≤ i) (h1 : i < n) : ∃ ad A0 c0,A = some ad ∧ w.cell? (ad.add i.toNat) = some (.slice A0 (rd_L14 xs i).length c0) ∧ (rd_L14 xs i).length ≤ c0 ∧ k163.C w A0 (rd_L14 xs i).length (rd_L14 xs i):=by
 obtain ⟨ad,c,e,_,hK,hc0⟩:=Kd.C_get h ([] : List S163) i h0 h1;have hc : ∀ j u,c[j]? = some u → w.cell? (ad.add (i.toNat * 1 + j)) = some u:=hc0;obtain ⟨A0,c0,rfl,l0,g0⟩:=hK;exact ⟨ad,A0,c0,e,by have hq:=hc 0 _ rfl;rwa [Nat.mul_one,Nat.add_zero] at hq,l0,g0⟩
structure S144 where
 f0 : Bool
 f1 : Int
 f2 : (List S163)
def z144 : S144:=⟨false,(0 : Int),([] : List S163)⟩
def k144 : Kd S144:=Kd.iso (Kd.pair Kd.bool (Kd.pair (Kd.int .i64) (Kd.slice 163 k163))) (fun x : S144=>(x.f0,x.f1,x.f2))
theorem k144_open {w : World} {x : S144} {cs : List Value} (h : k144.K w x cs) : ∃ A2 c2,cs = [.bool x.f0,.int .i64 x.f1,.slice A2 x.f2.length c2] ∧ x.f2.length ≤ c2 ∧ k163.C w A2 x.f2.length x.f2:=by
 obtain ⟨_,_,rfl,rfl,⟨_,_,rfl,rfl,⟨A2,c2,rfl,l2,g2⟩⟩⟩:=h;exact ⟨A2,c2,rfl,l2,g2⟩
theorem k144_openM {w : World} {base : Nat} {ok : Nat → Prop} {x : S144} {cs : List Value} (h : k144.M w base ok x cs) : ∃ v2,cs = [.bool x.f0,.int .i64 x.f1,v2] ∧ k163.R 163 w base ok v2 x.f2:=by
 obtain ⟨_,_,rfl,rfl,⟨_,_,rfl,rfl,⟨v2,rfl,g2⟩⟩⟩:=h;exact ⟨v2,rfl,g2⟩
theorem k144_mk (w : World) (x : S144) {A2 : Option Addr} {c2 : Nat} (l2 : x.f2.length ≤ c2) (g2 : k163.C w A2 x.f2.length x.f2) : k144.K w x [.bool x.f0,.int .i64 x.f1,.slice A2 x.f2.length c2]:=⟨[.bool x.f0],[.int .i64 x.f1,.slice A2 x.f2.length c2],rfl,rfl,⟨[.int .i64 x.f1],[.slice A2 x.f2.length c2],rfl,rfl,⟨A2,c2,rfl,l2,g2⟩⟩⟩
theorem k144_mkM (w : World) (base : Nat) (ok : Nat → Prop) (x : S144) {v2 : Value} (g2 : k163.R 163 w base ok v2 x.f2) : k144.M w base ok x [.bool x.f0,.int .i64 x.f1,v2]:=⟨[.bool x.f0],[.int .i64 x.f1,v2],rfl,rfl,⟨[.int .i64 x.f1],[v2],rfl,rfl,⟨v2,rfl,g2⟩⟩⟩
theorem k144_openF {W : World} {ok : Nat → Prop} {x : S144} {cs : List Value} (h : Kd.FK k144 W ok x cs) : ∃ A2 c2,cs = [.bool x.f0,.int .i64 x.f1,.slice A2 x.f2.length c2] ∧ x.f2.length ≤ c2 ∧ Kd.F k163 W ok A2 x.f2.length x.f2:=by
 obtain ⟨A2,c2,rfl,l2,_⟩:=k144_open (Kd.FK_now h);exact ⟨A2,c2,rfl,l2,(fun W' hW=>by obtain ⟨A2_,c2_,he,l2_,g2_⟩:=k144_open (h W' hW);injection (Option.some.inj (show some (Value.slice A2 x.f2.length c2) = some (Value.slice A2_ x.f2.length c2_) from congrArg (fun l=>l[2]?) he)) with ha_ _ _;rw [ha_];exact g2_)⟩
theorem k144_mkF (W : World) (ok : Nat → Prop) (x : S144) {A2 : Option Addr} {c2 : Nat} (l2 : x.f2.length ≤ c2) (g2 : Kd.F k163 W ok A2 x.f2.length x.f2) : Kd.FK k144 W ok x [.bool x.f0,.int .i64 x.f1,.slice A2 x.f2.length c2]:=fun W2 hW=>k144_mk W2 x l2 (g2 W2 hW)
def rd_T144 (xs : List S144) (i : Int) : S144:=xs.getD i.toNat z144
theorem at_T144 {w : World} {A : Option Addr} {n : Nat} {xs : List S144} (h : Kd.C k144 w A n xs) (i : Int) (h0 : 0 ≤ i) (h1 : i < n) : ∃ ad A2 c2,A = some ad ∧ w.cell? (ad.add (i.toNat * 3)) = some (.bool (rd_T144 xs i).f0) ∧ w.cell? ⟨(ad.add (i.toNat * 3)).block,(ad.add (i.toNat * 3)).off + 1,none⟩ = some (.int .i64 (rd_T144 xs i).f1) ∧ w.cell? ⟨(ad.add (i.toNat * 3)).block,(ad.add (i.toNat * 3)).off + 2,none⟩ = some (.slice A2 (rd_T144 xs i).f2.length c2) ∧ (rd_T144 xs i).f2.length ≤ c2 ∧ k163.C w A2 (rd_T144 xs i).f2.length (rd_T144 xs i).f2:=by
 obtain ⟨ad,c,e,_,hK,hc0⟩:=Kd.C_get h z144 i h0 h1;have hc : ∀ j u,c[j]? = some u → w.cell? (ad.add (i.toNat * 3 + j)) = some u:=hc0;obtain ⟨A2,c2,rfl,l2,g2⟩:=k144_open hK;exact ⟨ad,A2,c2,e,hc 0 _ rfl,by rw [← add_field _ _ 1 (by omega)];exact hc 1 _ rfl,by rw [← add_field _ _ 2 (by omega)];exact hc 2 _ rfl,l2,g2⟩
structure S114 where
 f0 : Int
 f1 : ByteArray
def z114 : S114:=⟨(0 : Int),(⟨#[]⟩ : ByteArray)⟩
def k114 : Kd S114:=Kd.iso (Kd.pair (Kd.int .i64) Kd.string) (fun x : S114=>(x.f0,x.f1))
theorem k114_open {w : World} {x : S114} {cs : List Value} (h : k114.K w x cs) : cs = [.int .i64 x.f0,.string x.f1]:=by
 obtain ⟨_,_,rfl,rfl,rfl⟩:=h;exact rfl
theorem k114_openM {w : World} {base : Nat} {ok : Nat → Prop} {x : S114} {cs : List Value} (h : k114.M w base ok x cs) : cs = [.int .i64 x.f0,.string x.f1]:=by
 obtain ⟨_,_,rfl,rfl,rfl⟩:=h;exact rfl
theorem k114_mk (w : World) (x : S114)  : k114.K w x [.int .i64 x.f0,.string x.f1]:=⟨[.int .i64 x.f0],[.string x.f1],rfl,rfl,rfl⟩
theorem k114_mkM (w : World) (base : Nat) (ok : Nat → Prop) (x : S114)  : k114.M w base ok x [.int .i64 x.f0,.string x.f1]:=⟨[.int .i64 x.f0],[.string x.f1],rfl,rfl,rfl⟩
theorem k114_mkF (W : World) (ok : Nat → Prop) (x : S114) : Kd.FK k114 W ok x [.int .i64 x.f0,.string x.f1]:=fun W2 _=>k114_mk W2 x
def rd_T114 (xs : List S114) (i : Int) : S114:=xs.getD i.toNat z114
theorem at_T114 {w : World} {A : Option Addr} {n : Nat} {xs : List S114} (h : Kd.C k114 w A n xs) (i : Int) (h0 : 0 ≤ i) (h1 : i < n) : ∃ ad ,A = some ad ∧ w.cell? (ad.add (i.toNat * 2)) = some (.int .i64 (rd_T114 xs i).f0) ∧ w.cell? ⟨(ad.add (i.toNat * 2)).block,(ad.add (i.toNat * 2)).off + 1,none⟩ = some (.string (rd_T114 xs i).f1):=by
 obtain ⟨ad,c,e,_,hK,hc0⟩:=Kd.C_get h z114 i h0 h1;have hc : ∀ j u,c[j]? = some u → w.cell? (ad.add (i.toNat * 2 + j)) = some u:=hc0;obtain rfl:=k114_open hK;exact ⟨ad,e,hc 0 _ rfl,by rw [← add_field _ _ 1 (by omega)];exact hc 1 _ rfl⟩
def rd_L17 (xs : List (List S114)) (i : Int) : (List S114):=xs.getD i.toNat ([] : List S114)
theorem at_L17 {w : World} {A : Option Addr} {n : Nat} {xs : List (List S114)} (h : Kd.C (Kd.slice 114 k114) w A n xs) (i : Int) (h0 : 0 ≤ i) (h1 : i < n) : ∃ ad A0 c0,A = some ad ∧ w.cell? (ad.add i.toNat) = some (.slice A0 (rd_L17 xs i).length c0) ∧ (rd_L17 xs i).length ≤ c0 ∧ k114.C w A0 (rd_L17 xs i).length (rd_L17 xs i):=by
 obtain ⟨ad,c,e,_,hK,hc0⟩:=Kd.C_get h ([] : List S114) i h0 h1;have hc : ∀ j u,c[j]? = some u → w.cell? (ad.add (i.toNat * 1 + j)) = some u:=hc0;obtain ⟨A0,c0,rfl,l0,g0⟩:=hK;exact ⟨ad,A0,c0,e,by have hq:=hc 0 _ rfl;rwa [Nat.mul_one,Nat.add_zero] at hq,l0,g0⟩
structure S112 where
 f0 : Bool
 f1 : Int
 f2 : (List S114)
def z112 : S112:=⟨false,(0 : Int),([] : List S114)⟩
def k112 : Kd S112:=Kd.iso (Kd.pair Kd.bool (Kd.pair (Kd.int .i64) (Kd.slice 114 k114))) (fun x : S112=>(x.f0,x.f1,x.f2))
theorem k112_open {w : World} {x : S112} {cs : List Value} (h : k112.K w x cs) : ∃ A2 c2,cs = [.bool x.f0,.int .i64 x.f1,.slice A2 x.f2.length c2] ∧ x.f2.length ≤ c2 ∧ k114.C w A2 x.f2.length x.f2:=by
 obtain ⟨_,_,rfl,rfl,⟨_,_,rfl,rfl,⟨A2,c2,rfl,l2,g2⟩⟩⟩:=h;exact ⟨A2,c2,rfl,l2,g2⟩
theorem k112_openM {w : World} {base : Nat} {ok : Nat → Prop} {x : S112} {cs : List Value} (h : k112.M w base ok x cs) : ∃ v2,cs = [.bool x.f0,.int .i64 x.f1,v2] ∧ k114.R 114 w base ok v2 x.f2:=by
 obtain ⟨_,_,rfl,rfl,⟨_,_,rfl,rfl,⟨v2,rfl,g2⟩⟩⟩:=h;exact ⟨v2,rfl,g2⟩
theorem k112_mk (w : World) (x : S112) {A2 : Option Addr} {c2 : Nat} (l2 : x.f2.length ≤ c2) (g2 : k114.C w A2 x.f2.length x.f2) : k112.K w x [.bool x.f0,.int .i64 x.f1,.slice A2 x.f2.length c2]:=⟨[.bool x.f0],[.int .i64 x.f1,.slice A2 x.f2.length c2],rfl,rfl,⟨[.int .i64 x.f1],[.slice A2 x.f2.length c2],rfl,rfl,⟨A2,c2,rfl,l2,g2⟩⟩⟩
theorem k112_mkM (w : World) (base : Nat) (ok : Nat → Prop) (x : S112) {v2 : Value} (g2 : k114.R 114 w base ok v2 x.f2) : k112.M w base ok x [.bool x.f0,.int .i64 x.f1,v2]:=⟨[.bool x.f0],[.int .i64 x.f1,v2],rfl,rfl,⟨[.int .i64 x.f1],[v2],rfl,rfl,⟨v2,rfl,g2⟩⟩⟩
theorem k112_openF {W : World} {ok : Nat → Prop} {x : S112} {cs : List Value} (h : Kd.FK k112 W ok x cs) : ∃ A2 c2,cs = [.bool x.f0,.int .i64 x.f1,.slice A2 x.f2.length c2] ∧ x.f2.length ≤ c2 ∧ Kd.F k114 W ok A2 x.f2.length x.f2:=by
 obtain ⟨A2,c2,rfl,l2,_⟩:=k112_open (Kd.FK_now h);exact ⟨A2,c2,rfl,l2,(fun W' hW=>by obtain ⟨A2_,c2_,he,l2_,g2_⟩:=k112_open (h W' hW);injection (Option.some.inj (show some (Value.slice A2 x.f2.length c2) = some (Value.slice A2_ x.f2.length c2_) from congrArg (fun l=>l[2]?) he)) with ha_ _ _;rw [ha_];exact g2_)⟩
theorem k112_mkF (W : World) (ok : Nat → Prop) (x : S112) {A2 : Option Addr} {c2 : Nat} (l2 : x.f2.length ≤ c2) (g2 : Kd.F k114 W ok A2 x.f2.length x.f2) : Kd.FK k112 W ok x [.bool x.f0,.int .i64 x.f1,.slice A2 x.f2.length c2]:=fun W2 hW=>k112_mk W2 x l2 (g2 W2 hW)
def rd_T112 (xs : List S112) (i : Int) : S112:=xs.getD i.toNat z112
theorem at_T112 {w : World} {A : Option Addr} {n : Nat} {xs : List S112} (h : Kd.C k112 w A n xs) (i : Int) (h0 : 0 ≤ i) (h1 : i < n) : ∃ ad A2 c2,A = some ad ∧ w.cell? (ad.add (i.toNat * 3)) = some (.bool (rd_T112 xs i).f0) ∧ w.cell? ⟨(ad.add (i.toNat * 3)).block,(ad.add (i.toNat * 3)).off + 1,none⟩ = some (.int .i64 (rd_T112 xs i).f1) ∧ w.cell? ⟨(ad.add (i.toNat * 3)).block,(ad.add (i.toNat * 3)).off + 2,none⟩ = some (.slice A2 (rd_T112 xs i).f2.length c2) ∧ (rd_T112 xs i).f2.length ≤ c2 ∧ k114.C w A2 (rd_T112 xs i).f2.length (rd_T112 xs i).f2:=by
 obtain ⟨ad,c,e,_,hK,hc0⟩:=Kd.C_get h z112 i h0 h1;have hc : ∀ j u,c[j]? = some u → w.cell? (ad.add (i.toNat * 3 + j)) = some u:=hc0;obtain ⟨A2,c2,rfl,l2,g2⟩:=k112_open hK;exact ⟨ad,A2,c2,e,hc 0 _ rfl,by rw [← add_field _ _ 1 (by omega)];exact hc 1 _ rfl,by rw [← add_field _ _ 2 (by omega)];exact hc 2 _ rfl,l2,g2⟩
structure S153 where
 f0 : Int
 f1 : Int
def z153 : S153:=⟨(0 : Int),(0 : Int)⟩
def k153 : Kd S153:=Kd.iso (Kd.pair (Kd.int .i64) (Kd.int .i64)) (fun x : S153=>(x.f0,x.f1))
theorem k153_open {w : World} {x : S153} {cs : List Value} (h : k153.K w x cs) : cs = [.int .i64 x.f0,.int .i64 x.f1]:=by
 obtain ⟨_,_,rfl,rfl,rfl⟩:=h;exact rfl
theorem k153_openM {w : World} {base : Nat} {ok : Nat → Prop} {x : S153} {cs : List Value} (h : k153.M w base ok x cs) : cs = [.int .i64 x.f0,.int .i64 x.f1]:=by
 obtain ⟨_,_,rfl,rfl,rfl⟩:=h;exact rfl
theorem k153_mk (w : World) (x : S153)  : k153.K w x [.int .i64 x.f0,.int .i64 x.f1]:=⟨[.int .i64 x.f0],[.int .i64 x.f1],rfl,rfl,rfl⟩
theorem k153_mkM (w : World) (base : Nat) (ok : Nat → Prop) (x : S153)  : k153.M w base ok x [.int .i64 x.f0,.int .i64 x.f1]:=⟨[.int .i64 x.f0],[.int .i64 x.f1],rfl,rfl,rfl⟩
theorem k153_mkF (W : World) (ok : Nat → Prop) (x : S153) : Kd.FK k153 W ok x [.int .i64 x.f0,.int .i64 x.f1]:=fun W2 _=>k153_mk W2 x
def rd_T153 (xs : List S153) (i : Int) : S153:=xs.getD i.toNat z153
theorem at_T153 {w : World} {A : Option Addr} {n : Nat} {xs : List S153} (h : Kd.C k153 w A n xs) (i : Int) (h0 : 0 ≤ i) (h1 : i < n) : ∃ ad ,A = some ad ∧ w.cell? (ad.add (i.toNat * 2)) = some (.int .i64 (rd_T153 xs i).f0) ∧ w.cell? ⟨(ad.add (i.toNat * 2)).block,(ad.add (i.toNat * 2)).off + 1,none⟩ = some (.int .i64 (rd_T153 xs i).f1):=by
 obtain ⟨ad,c,e,_,hK,hc0⟩:=Kd.C_get h z153 i h0 h1;have hc : ∀ j u,c[j]? = some u → w.cell? (ad.add (i.toNat * 2 + j)) = some u:=hc0;obtain rfl:=k153_open hK;exact ⟨ad,e,hc 0 _ rfl,by rw [← add_field _ _ 1 (by omega)];exact hc 1 _ rfl⟩
structure S65 where
 f0 : Int
 f1 : Int
 f2 : Int
 f3 : ByteArray
def z65 : S65:=⟨(0 : Int),(0 : Int),(0 : Int),(⟨#[]⟩ : ByteArray)⟩
def k65 : Kd S65:=Kd.iso (Kd.pair (Kd.int .i64) (Kd.pair (Kd.int .i64) (Kd.pair (Kd.int .i64) Kd.string))) (fun x : S65=>(x.f0,x.f1,x.f2,x.f3))
theorem k65_open {w : World} {x : S65} {cs : List Value} (h : k65.K w x cs) : cs = [.int .i64 x.f0,.int .i64 x.f1,.int .i64 x.f2,.string x.f3]:=by
 obtain ⟨_,_,rfl,rfl,⟨_,_,rfl,rfl,⟨_,_,rfl,rfl,rfl⟩⟩⟩:=h;exact rfl
theorem k65_openM {w : World} {base : Nat} {ok : Nat → Prop} {x : S65} {cs : List Value} (h : k65.M w base ok x cs) : cs = [.int .i64 x.f0,.int .i64 x.f1,.int .i64 x.f2,.string x.f3]:=by
 obtain ⟨_,_,rfl,rfl,⟨_,_,rfl,rfl,⟨_,_,rfl,rfl,rfl⟩⟩⟩:=h;exact rfl
theorem k65_mk (w : World) (x : S65)  : k65.K w x [.int .i64 x.f0,.int .i64 x.f1,.int .i64 x.f2,.string x.f3]:=⟨[.int .i64 x.f0],[.int .i64 x.f1,.int .i64 x.f2,.string x.f3],rfl,rfl,⟨[.int .i64 x.f1],[.int .i64 x.f2,.string x.f3],rfl,rfl,⟨[.int .i64 x.f2],[.string x.f3],rfl,rfl,rfl⟩⟩⟩
theorem k65_mkM (w : World) (base : Nat) (ok : Nat → Prop) (x : S65)  : k65.M w base ok x [.int .i64 x.f0,.int .i64 x.f1,.int .i64 x.f2,.string x.f3]:=⟨[.int .i64 x.f0],[.int .i64 x.f1,.int .i64 x.f2,.string x.f3],rfl,rfl,⟨[.int .i64 x.f1],[.int .i64 x.f2,.string x.f3],rfl,rfl,⟨[.int .i64 x.f2],[.string x.f3],rfl,rfl,rfl⟩⟩⟩
theorem k65_mkF (W : World) (ok : Nat → Prop) (x : S65) : Kd.FK k65 W ok x [.int .i64 x.f0,.int .i64 x.f1,.int .i64 x.f2,.string x.f3]:=fun W2 _=>k65_mk W2 x
def rd_T65 (xs : List S65) (i : Int) : S65:=xs.getD i.toNat z65
theorem at_T65 {w : World} {A : Option Addr} {n : Nat} {xs : List S65} (h : Kd.C k65 w A n xs) (i : Int) (h0 : 0 ≤ i) (h1 : i < n) : ∃ ad ,A = some ad ∧ w.cell? (ad.add (i.toNat * 4)) = some (.int .i64 (rd_T65 xs i).f0) ∧ w.cell? ⟨(ad.add (i.toNat * 4)).block,(ad.add (i.toNat * 4)).off + 1,none⟩ = some (.int .i64 (rd_T65 xs i).f1) ∧ w.cell? ⟨(ad.add (i.toNat * 4)).block,(ad.add (i.toNat * 4)).off + 2,none⟩ = some (.int .i64 (rd_T65 xs i).f2) ∧ w.cell? ⟨(ad.add (i.toNat * 4)).block,(ad.add (i.toNat * 4)).off + 3,none⟩ = some (.string (rd_T65 xs i).f3):=by
 obtain ⟨ad,c,e,_,hK,hc0⟩:=Kd.C_get h z65 i h0 h1;have hc : ∀ j u,c[j]? = some u → w.cell? (ad.add (i.toNat * 4 + j)) = some u:=hc0;obtain rfl:=k65_open hK;exact ⟨ad,e,hc 0 _ rfl,by rw [← add_field _ _ 1 (by omega)];exact hc 1 _ rfl,by rw [← add_field _ _ 2 (by omega)];exact hc 2 _ rfl,by rw [← add_field _ _ 3 (by omega)];exact hc 3 _ rfl⟩
structure S69 where
 f0 : Int
 f1 : Int
 f2 : Int
 f3 : ByteArray
def z69 : S69:=⟨(0 : Int),(0 : Int),(0 : Int),(⟨#[]⟩ : ByteArray)⟩
def k69 : Kd S69:=Kd.iso (Kd.pair (Kd.int .i64) (Kd.pair (Kd.int .i64) (Kd.pair (Kd.int .i64) Kd.string))) (fun x : S69=>(x.f0,x.f1,x.f2,x.f3))
theorem k69_open {w : World} {x : S69} {cs : List Value} (h : k69.K w x cs) : cs = [.int .i64 x.f0,.int .i64 x.f1,.int .i64 x.f2,.string x.f3]:=by
 obtain ⟨_,_,rfl,rfl,⟨_,_,rfl,rfl,⟨_,_,rfl,rfl,rfl⟩⟩⟩:=h;exact rfl
theorem k69_openM {w : World} {base : Nat} {ok : Nat → Prop} {x : S69} {cs : List Value} (h : k69.M w base ok x cs) : cs = [.int .i64 x.f0,.int .i64 x.f1,.int .i64 x.f2,.string x.f3]:=by
 obtain ⟨_,_,rfl,rfl,⟨_,_,rfl,rfl,⟨_,_,rfl,rfl,rfl⟩⟩⟩:=h;exact rfl
theorem k69_mk (w : World) (x : S69)  : k69.K w x [.int .i64 x.f0,.int .i64 x.f1,.int .i64 x.f2,.string x.f3]:=⟨[.int .i64 x.f0],[.int .i64 x.f1,.int .i64 x.f2,.string x.f3],rfl,rfl,⟨[.int .i64 x.f1],[.int .i64 x.f2,.string x.f3],rfl,rfl,⟨[.int .i64 x.f2],[.string x.f3],rfl,rfl,rfl⟩⟩⟩
theorem k69_mkM (w : World) (base : Nat) (ok : Nat → Prop) (x : S69)  : k69.M w base ok x [.int .i64 x.f0,.int .i64 x.f1,.int .i64 x.f2,.string x.f3]:=⟨[.int .i64 x.f0],[.int .i64 x.f1,.int .i64 x.f2,.string x.f3],rfl,rfl,⟨[.int .i64 x.f1],[.int .i64 x.f2,.string x.f3],rfl,rfl,⟨[.int .i64 x.f2],[.string x.f3],rfl,rfl,rfl⟩⟩⟩
theorem k69_mkF (W : World) (ok : Nat → Prop) (x : S69) : Kd.FK k69 W ok x [.int .i64 x.f0,.int .i64 x.f1,.int .i64 x.f2,.string x.f3]:=fun W2 _=>k69_mk W2 x
def rd_T69 (xs : List S69) (i : Int) : S69:=xs.getD i.toNat z69
theorem at_T69 {w : World} {A : Option Addr} {n : Nat} {xs : List S69} (h : Kd.C k69 w A n xs) (i : Int) (h0 : 0 ≤ i) (h1 : i < n) : ∃ ad ,A = some ad ∧ w.cell? (ad.add (i.toNat * 4)) = some (.int .i64 (rd_T69 xs i).f0) ∧ w.cell? ⟨(ad.add (i.toNat * 4)).block,(ad.add (i.toNat * 4)).off + 1,none⟩ = some (.int .i64 (rd_T69 xs i).f1) ∧ w.cell? ⟨(ad.add (i.toNat * 4)).block,(ad.add (i.toNat * 4)).off + 2,none⟩ = some (.int .i64 (rd_T69 xs i).f2) ∧ w.cell? ⟨(ad.add (i.toNat * 4)).block,(ad.add (i.toNat * 4)).off + 3,none⟩ = some (.string (rd_T69 xs i).f3):=by
 obtain ⟨ad,c,e,_,hK,hc0⟩:=Kd.C_get h z69 i h0 h1;have hc : ∀ j u,c[j]? = some u → w.cell? (ad.add (i.toNat * 4 + j)) = some u:=hc0;obtain rfl:=k69_open hK;exact ⟨ad,e,hc 0 _ rfl,by rw [← add_field _ _ 1 (by omega)];exact hc 1 _ rfl,by rw [← add_field _ _ 2 (by omega)];exact hc 2 _ rfl,by rw [← add_field _ _ 3 (by omega)];exact hc 3 _ rfl⟩
end Go.Proofs.Ytijbejiajaiciaa.PC

namespace Go.Proofs.Ytijbejiajaiciaa.PC
open Go.RowKit Go.Proofs.YtijbejiajaiciaaW.PrintWords Go.Proofs.YtijbejiajaiciaaW.PrintLast Go.Proofs.YtijbejiajaiciaaW.PrintMore
attribute [local go_sem] max2_int min2_int max_two min_two max_three min_three max_four min_four   -- for this text's walks alone
set_option linter.unusedVariables false
set_option linter.unusedSimpArgs false
def laws_markText.l0 : Nat → Int → ByteArray → Option (ByteArray)
 | 0,_,_=>none
 | k + 1,x0,x3=>if x0 > 0 then ((some (([(wrap64 (48 + (Int.tmod x0 10))) % 256] : List Int) : List Int)).bind fun y449=>(if (strOfNums y449).size + x3.size ≤ 9223372036854775807 then (laws_markText.l0 k (wrap64 (Int.tdiv x0 10)) ((strOfNums y449) ++ x3)) else (none))) else (if 1 + x3.size ≤ 9223372036854775807 then (some ((⟨#[109]⟩ : ByteArray) ++ x3)) else (none))
def laws_markText.f (k : Nat) (a0 : Int) : Option (ByteArray):=if a0 ≤ 0 then (some (⟨#[109,48]⟩ : ByteArray)) else (laws_markText.l0 k a0 (⟨#[]⟩ : ByteArray))
theorem laws_markText.mono_l : ∀ k,(∀ y0 y1,LeO (laws_markText.l0 k y0 y1) (laws_markText.l0 (k + 1) y0 y1))
 | 0=>fun _ _ r h=>by simp [laws_markText.l0] at h
 | k + 1=>by
  have ih0:=laws_markText.mono_l k;intro y0 y1;unfold laws_markText.l0
  repeat' first
  | (with_reducible exact ih0 _ _)
  | (with_reducible exact LeO.refl _)
  | (with_reducible exact LeO.none _)
  | (with_reducible refine LeO.ite ?_ ?_)
  | (with_reducible refine LeO.bind ?_ (fun _=>?_))
  | exact ih0 _ _
  | exact LeO.none _
  | refine LeO.ite ?_ ?_
  | refine LeO.bind ?_ (fun _=>?_)
theorem laws_markText.mono : ∀ a0 k,LeO (laws_markText.f k a0) (laws_markText.f (k + 1) a0):=by
 intro a0 k;have ih0:=laws_markText.mono_l k;unfold laws_markText.f
 repeat' first
   | (with_reducible exact ih0 _ _)
   | (with_reducible exact LeO.refl _)
   | (with_reducible exact LeO.none _)
   | (with_reducible refine LeO.ite ?_ ?_)
   | (with_reducible refine LeO.bind ?_ (fun _=>?_))
   | exact ih0 _ _
   | exact LeO.none _
   | refine LeO.ite ?_ ?_
   | refine LeO.bind ?_ (fun _=>?_)
set_option maxHeartbeats 8000000 in
set_option maxRecDepth 100000 in
theorem laws_markText.calls (k : Nat) (a0 : Int) (r : ByteArray) (w : World) (h : laws_markText.f k a0 = some r) :
  Calls Try.prog 85 #[.int .i64 a0] w fun e w'=>e = .returned (.string r) ∧ Below w.heap.size w w':=by
 have HB:=Aside0.mk (Below.refl w.heap.size w);have H : (if a0 ≤ 0 then (some (⟨#[109,48]⟩ : ByteArray)) else (laws_markText.l0 k a0 (⟨#[]⟩ : ByteArray))) = some r:=h;clear h
 by_cases c2 : a0 ≤ 0
 ·rw [if_pos c2] at H;have c2b0 : decide (a0 ≤ 0) = true:=decide_eq_true c2;clear c2;obtain rfl:=Option.some.inj H
  go_enter Try.func85,Try.ntmps85
  go_wp2
  go_ret
  exact ⟨by first | rfl | (simp [errW_none,errW_some] <;> rfl) | (simp [*,errW_none,errW_some] <;> rfl),hs HB⟩
 rw [if_neg c2] at H;have c2b0 : decide (a0 ≤ 0) = false:=decide_eq_false c2;clear c2;have H':=Aside0.mk H;clear H
 go_enter Try.func85,Try.ntmps85
 go_wp2
 go_loopg [0,3] k (fun kq v0 v3 w'=>∃ (x0_1 : Int) (x3_1 : ByteArray),v0 = .int .i64 x0_1 ∧ v3 = .string x3_1 ∧ Aside0 (laws_markText.l0 kq x0_1 x3_1 = some r) ∧ Aside0 (kq ≤ k) ∧ Aside0 (Below w.heap.size w w'));case atStart=>exact ⟨(a0),((⟨#[]⟩ : ByteArray)),(by first | rfl | (simp;done) | (simp [*];done)),(by first | rfl | (simp;done) | (simp [*];done)),H',⟨Nat.le_refl _⟩,⟨hs HB⟩⟩
 case round =>
  clear H'
  try clear c2
  try clear c2b0
  try clear p2
  obtain ⟨x0_1,x3_1,rfl,rfl,HA,HK1,HB⟩:=hrel;cases gk with
  | zero=>exact absurd HA.out (by simp [laws_markText.l0])
  | succ k1 =>
   have H:=HA.out;clear HA;simp only [laws_markText.l0] at H
   by_cases c3 : x0_1 > 0
   ·rw [if_pos c3] at H;have c3b0 : decide (0 < x0_1) = true:=decide_eq_true c3;clear c3;obtain ⟨y449,hy449⟩ : ∃ y_ : List Int,y_ = (([(wrap64 (48 + (Int.tmod x0_1 10))) % 256] : List Int)):=⟨_,rfl⟩;replace H : (if (strOfNums y449).size + x3_1.size ≤ 9223372036854775807 then (laws_markText.l0 k1 (wrap64 (Int.tdiv x0_1 10)) ((strOfNums y449) ++ x3_1)) else (none)) = some r:=by first | (rw [hy449];with_reducible exact H) | (have H2_:=(Option.bind_some _ _).symm.trans H;rw [hy449];with_reducible exact H2_) | (have H2_:=(Option.bind_some _ _).symm.trans H;with_reducible exact H2_) | with_reducible exact H | (rw [hy449];exact H) | exact H
    have Ny449:=Aside0.mk hy449;clear hy449
    by_cases c4 : (strOfNums y449).size + x3_1.size ≤ 9223372036854775807
    ·rw [if_pos c4] at H;have c4b0:=eq_true c4;have c4b1 : decide ((strOfNums y449).size + x3_1.size ≤ 9223372036854775807) = true:=decide_eq_true c4
     try have c4b2 : (9223372036854775807 < (strOfNums y449).size + x3_1.size) = False:=eq_false (Nat.not_lt.2 c4)
     have H':=Aside0.mk H;clear H;go_wp2_with (first | ((with_reducible refine gate_dst (N:=12) rfl ?_);refine Kd.R_lit (Kd.int .u8) _ 5 ?hg (N:=12) ?hd (xs:=([(wrap64 (48 + (Int.tmod x0_1 10))) % 256] : List Int)) (inner:=[.int .u8 ((wrap64 (48 + (Int.tmod x0_1 10))) % 256)]) (ok:=fun _=>True) (okp:=fun _=>True) ?hr ?hp (fun _ hk=>hk) trivial (Below.refl _ _) (Nat.le_refl _) (by simp) ?_;(case hd=>rfl);(case hg=>rfl);(case hr=>first | (go_simp;done) | (go_simp;rfl));(case hp=>exact (Reps.one (show Kd.M (Kd.int .u8) _ _ _ ((wrap64 (48 + (Int.tmod x0_1 10))) % 256) [.int .u8 ((wrap64 (48 + (Int.tmod x0_1 10))) % 256)] from rfl) (Reps.none _ _)));intro v450 w5 ho6 hb hg_ hnew_;clear hg_ hnew_;(first | rw [← Ny449.out] at ho6 | (simp only [Int.reduceToNat] at ho6;rw [← Ny449.out] at ho6));have n0_:=Aside0.mk (Kd.R_lower ho6 (below_size (hs HB)));have n1_:=Aside0.mk (below_step (hs HB) hb);clear HB;have HO451:=n0_;have HB:=n1_;clear n0_ n1_;clear hb ho6;have hcv7:=own_string (P:=Try.prog) Try.underlying154 Try.underlying5 Try.underlying9 (Kd.own_of_R HO451.out)));go_roundg k1;case measure=>have:=HK1.out;omega
     case rel=>exact ⟨(wrap64 (Int.tdiv x0_1 10)),((strOfNums y449) ++ x3_1),(by first | rfl | (simp;done) | (simp [*];done)),(by first | rfl | (simp;done) | (simp [*];done)),H',⟨by have:=HK1.out;omega⟩,⟨hs HB⟩⟩
    rw [if_neg c4] at H;exact absurd H (by simp)
   rw [if_neg c3] at H;have c3b0 : decide (0 < x0_1) = false:=decide_eq_false c3;clear c3
   by_cases c8 : 1 + x3_1.size ≤ 9223372036854775807
   ·rw [if_pos c8] at H;have c8b0:=eq_true c8;have c8b1 : decide (1 + x3_1.size ≤ 9223372036854775807) = true:=decide_eq_true c8
    try have c8b2 : (9223372036854775807 < 1 + x3_1.size) = False:=eq_false (Nat.not_lt.2 c8)
    obtain rfl:=Option.some.inj H
    go_wp2
    go_ret
    exact ⟨by first | rfl | (simp [errW_none,errW_some] <;> rfl) | (simp [*,errW_none,errW_some] <;> rfl),hs HB⟩
   rw [if_neg c8] at H;exact absurd H (by simp)
end Go.Proofs.Ytijbejiajaiciaa.PC

namespace Go.Proofs.Ytijbejiajaiciaa.PC
open Go.RowKit Go.Proofs.YtijbejiajaiciaaW.PrintWords Go.Proofs.YtijbejiajaiciaaW.PrintLast Go.Proofs.YtijbejiajaiciaaW.PrintMore
attribute [local go_sem] max2_int min2_int max_two min_two max_three min_three max_four min_four   -- for this text's walks alone
set_option linter.unusedVariables false
set_option linter.unusedSimpArgs false
def laws_markLeafS.l0 : Nat → List (S114) → Int → Int → Option (Int × (List (S114)))
 | 0,_,_,_=>none
 | k + 1,x0,x1,x5=>if x5 < (x0.length : Int) then (if 0 ≤ x5 then ((some (x0.set (x5 : Int).toNat (⟨x1,(rd_T114 x0 x5).f1⟩ : S114) : List (S114))).bind fun y452=>((laws_markText.f k (wrap64 (x1 + 1))).bind fun t453=>(laws_markLeafS.l0 k (y452.set (x5 : Int).toNat (⟨(rd_T114 y452 x5).f0,t453⟩ : S114)) (wrap64 ((wrap64 (x1 + 1)) + 1)) (wrap64 (x5 + 1))))) else (none)) else (some (x1,x0))
def laws_markLeafS.f (k : Nat) (l0 : List (S114)) (a1 : Int) : Option (Int × (List (S114))):=laws_markLeafS.l0 k l0 a1 0
theorem laws_markLeafS.mono_l : ∀ k,(∀ y0 y1 y2,LeO (laws_markLeafS.l0 k y0 y1 y2) (laws_markLeafS.l0 (k + 1) y0 y1 y2))
 | 0=>fun _ _ _ r h=>by simp [laws_markLeafS.l0] at h
 | k + 1=>by
  have ih0:=laws_markLeafS.mono_l k;intro y0 y1 y2;unfold laws_markLeafS.l0
  repeat' first
  | (with_reducible exact ih0 _ _ _)
  | (with_reducible exact laws_markText.mono _ _)
  | (with_reducible exact LeO.refl _)
  | (with_reducible exact LeO.none _)
  | (with_reducible refine LeO.ite ?_ ?_)
  | (with_reducible refine LeO.bind ?_ (fun _=>?_))
  | exact ih0 _ _ _
  | exact laws_markText.mono _ _
  | exact LeO.none _
  | refine LeO.ite ?_ ?_
  | refine LeO.bind ?_ (fun _=>?_)
theorem laws_markLeafS.mono : ∀ a0 a1 k,LeO (laws_markLeafS.f k a0 a1) (laws_markLeafS.f (k + 1) a0 a1):=by
 intro a0 a1 k;have ih0:=laws_markLeafS.mono_l k;unfold laws_markLeafS.f
 repeat' first
   | (with_reducible exact ih0 _ _ _)
   | (with_reducible exact laws_markText.mono _ _)
   | (with_reducible exact LeO.refl _)
   | (with_reducible exact LeO.none _)
   | (with_reducible refine LeO.ite ?_ ?_)
   | (with_reducible refine LeO.bind ?_ (fun _=>?_))
   | exact ih0 _ _ _
   | exact laws_markText.mono _ _
   | exact LeO.none _
   | refine LeO.ite ?_ ?_
   | refine LeO.bind ?_ (fun _=>?_)
set_option maxHeartbeats 8000000 in
set_option maxRecDepth 100000 in
theorem laws_markLeafS.calls (k : Nat) (P0_ : Nat → Prop) (u9000_ : Value) (l0 : List (S114)) (a1 : Int) (r1 : Int) (r2 : List (S114)) (w0 w : World) (hB : Below w0.heap.size w0 w) (ho0 : Kd.R k114 114 w w0.heap.size P0_ u9000_ l0) (h : laws_markLeafS.f k l0 a1 = some (r1,r2)) :
  Calls Try.prog 104 #[u9000_,.int .i64 a1] w fun e w'=>e = .returned (.int .i64 r1) ∧ Kd.R k114 114 w' w0.heap.size (fun k_=>(P0_ k_ ∨ w.heap.size ≤ k_)) u9000_ r2 ∧ Below w0.heap.size w0 w' ∧ Kept w w' (fun k_=>P0_ k_):=by
 have HO0:=Aside0.mk (show Kd.R k114 114 w w0.heap.size (fun k_=>(P0_ k_ ∨ w.heap.size ≤ k_)) u9000_ l0 from Kd.R_mono ho0 (fun k_ hk=>(.inl hk)));have HK:=Aside0.mk (Kept.refl w (fun k_=>P0_ k_));have HW0:=Aside0.mk hB.size;have HB:=Aside0.mk hB;clear hB;have H : (laws_markLeafS.l0 k l0 a1 0) = some (r1,r2):=h;clear h;have H':=Aside0.mk H;clear H
 go_enter Try.func104,Try.ntmps104
 go_wp2
 go_loopg [1,5] k (fun kq v1 v5 w'=>∃ (x0_1 : List (S114)) (x1_1 : Int) (x5_1 : Int),v1 = .int .i64 x1_1 ∧ v5 = .int .i64 x5_1 ∧ Aside0 (laws_markLeafS.l0 kq x0_1 x1_1 x5_1 = some (r1,r2)) ∧ Aside0 (kq ≤ k) ∧ Aside0 (Kd.R k114 114 w' w0.heap.size (fun k_=>(P0_ k_ ∨ w.heap.size ≤ k_)) u9000_ x0_1) ∧ Aside0 (Kept w w' (fun k_=>P0_ k_)) ∧ Aside0 (Below w0.heap.size w0 w'));case atStart=>exact ⟨(l0),(a1),(0),(by first | rfl | (simp;done) | (simp [*];done)),(by first | rfl | (simp;done) | (simp [*];done)),H',⟨Nat.le_refl _⟩,⟨rs HO0⟩,⟨by repeat (first | (with_reducible first | exact HK.out | apply Kept.alloc | apply Kept.drewN | apply Kept.drew) | exact HK.out)⟩,⟨hs HB⟩⟩
 case round =>
  clear H'
  try clear c1
  try clear p2
  obtain ⟨x0_1,x1_1,x5_1,rfl,rfl,HA,HK1,HO_0,HK,HB⟩:=hrel;cases gk with
  | zero=>exact absurd HA.out (by simp [laws_markLeafS.l0])
  | succ k1 =>
   have H:=HA.out;clear HA;simp only [laws_markLeafS.l0] at H
   by_cases c3 : x5_1 < (x0_1.length : Int)
   ·rw [if_pos c3] at H;have c3b0 : decide (x5_1 < (x0_1.length : Int)) = true:=decide_eq_true c3;clear c3
    by_cases c4 : 0 ≤ x5_1
    ·rw [if_pos c4] at H;have c4b0 : decide (0 ≤ x5_1) = true:=decide_eq_true c4;clear c4;obtain ⟨y452,hy452⟩ : ∃ y_ : List (S114),y_ = (x0_1.set (x5_1 : Int).toNat (⟨x1_1,(rd_T114 x0_1 x5_1).f1⟩ : S114)):=⟨_,rfl⟩;replace H : ((laws_markText.f k1 (wrap64 (x1_1 + 1))).bind fun t453=>(laws_markLeafS.l0 k1 (y452.set (x5_1 : Int).toNat (⟨(rd_T114 y452 x5_1).f0,t453⟩ : S114)) (wrap64 ((wrap64 (x1_1 + 1)) + 1)) (wrap64 (x5_1 + 1)))) = some (r1,r2):=by first | (rw [hy452];with_reducible exact H) | (have H2_:=(Option.bind_some _ _).symm.trans H;rw [hy452];with_reducible exact H2_) | (have H2_:=(Option.bind_some _ _).symm.trans H;with_reducible exact H2_) | with_reducible exact H | (rw [hy452];exact H) | exact H
     have Ny452:=Aside0.mk hy452;clear hy452;replace H:=Option.bind_eq_some_iff.mp H;obtain ⟨t453,A60,H⟩:=H;replace H : (laws_markLeafS.l0 k1 (y452.set (x5_1 : Int).toNat (⟨(rd_T114 y452 x5_1).f0,t453⟩ : S114)) (wrap64 ((wrap64 (x1_1 + 1)) + 1)) (wrap64 (x5_1 + 1))) = some (r1,r2):=H;have A6:=Aside0.mk A60;clear A60;obtain ⟨y454,hy454⟩ : ∃ y_ : List (S114),y_ = (y452.set (x5_1 : Int).toNat (⟨(rd_T114 y452 x5_1).f0,t453⟩ : S114)):=⟨_,rfl⟩;replace H : (laws_markLeafS.l0 k1 y454 (wrap64 ((wrap64 (x1_1 + 1)) + 1)) (wrap64 (x5_1 + 1))) = some (r1,r2):=by first | (rw [hy454];with_reducible exact H) | (have H2_:=(Option.bind_some _ _).symm.trans H;rw [hy454];with_reducible exact H2_) | (have H2_:=(Option.bind_some _ _).symm.trans H;with_reducible exact H2_) | with_reducible exact H | (rw [hy454];exact H) | exact H
     have Ny454:=Aside0.mk hy454;clear hy454;have H':=Aside0.mk H;clear H;obtain ⟨Ao8,co8,eo8⟩:=Kd.R_slice HO_0.out;subst eo8;have p5 : 0 ≤ (x5_1 : Int):=of_decide_eq_true (by first | (with_reducible assumption) | assumption);have q5 : (x5_1 : Int) < ((x0_1.length : Int) : Int):=of_decide_eq_true (by first | (with_reducible assumption) | assumption);obtain ⟨go5,co5,eo5,gb5,gl5,cl5,HG5⟩:=Kd.R_form HO_0.out (by omega)
     (first | cases eo5 | (injection eo5 with ea_ en_ ec_;(first | subst ea_ | (injection ea_ with ea_;subst ea_));subst ec_;clear en_))
     have GB5:=Aside0.mk gb5;have GG5:=Aside0.mk HG5;clear gb5 gl5 HG5;have HMgo5:=Aside0.mk (show (P0_ go5 ∨ w.heap.size ≤ go5) from (HO_0.out.1 _ rfl));obtain ⟨ce5,hcl5,hM5,hcc5,hfr5⟩:=Kd.R_elem HO_0.out z114 (x5_1 : Int) p5 q5;obtain rfl:=k114_openM hM5;have hx5_0 : wr.cell? ⟨go5,(x5_1 : Int).toNat * 2,none⟩ = some (.int .i64 ((rd_T114 x0_1 x5_1).f0)):=hcc5 0 _ rfl;have hx5_1 : wr.cell? ⟨go5,(x5_1 : Int).toNat * 2 + 1,none⟩ = some (.string ((rd_T114 x0_1 x5_1).f1)):=hcc5 1 _ rfl;have hf5_0 : wr.frozen? ⟨go5,(x5_1 : Int).toNat * 2,none⟩ = false:=hfr5 0;have hf5_1 : wr.frozen? ⟨go5,(x5_1 : Int).toNat * 2 + 1,none⟩ = false:=hfr5 1;clear hcl5 hcc5 hfr5 hM5;replace p5:=eq_true p5;replace q5:=eq_true q5;have HX9:=Aside0.mk (show Kd.R k114 114 wr w0.heap.size (fun k_=>(P0_ k_ ∨ w.heap.size ≤ k_)) (.slice (some ⟨go5,0,none⟩) x0_1.length co8) x0_1 from (rs HO_0));obtain ⟨ce9,hcl9,hM9,hcc9,hfr9⟩:=Kd.R_elem HX9.out z114 (x5_1 : Int) (of_decide_eq_true (by first | (with_reducible assumption) | assumption)) (by have h_ : (x5_1 : Int) < ((x0_1.length : Int) : Int):=of_decide_eq_true (by first | (with_reducible assumption) | assumption);first | exact h_ | (have e_:=(Kd.R_reads' HO_0.out).1;omega) | simpa using h_);obtain rfl:=k114_openM hM9;have HP9:=Kd.R_seg HX9.out (x5_1 : Int) (of_decide_eq_true (by first | (with_reducible assumption) | assumption)) (by have h_ : (x5_1 : Int) < ((x0_1.length : Int) : Int):=of_decide_eq_true (by first | (with_reducible assumption) | assumption);first | exact h_ | (have e_:=(Kd.R_reads' HO_0.out).1;omega) | simpa using h_) (seg:=[.int .i64 x1_1]) (j:=0) hcl9 hcc9 (show 1 ≤ 2 from by decide) (x':=(⟨x1_1,(rd_T114 x0_1 x5_1).f1⟩ : S114)) (k114_mkM _ _ _ (⟨x1_1,(rd_T114 x0_1 x5_1).f1⟩ : S114) ) (fun _ hk=>hk);have hx9_0:=hcc9 0 _ rfl
     (try simp only [show (k114).sz = 2 from rfl,Nat.mul_one,Nat.add_zero] at hx9_0)
     have hf9_0:=hfr9 0
     (try simp only [show (k114).sz = 2 from rfl,Nat.mul_one,Nat.add_zero] at hf9_0)
     clear hcl9 hcc9 hfr9 hM9;go_wp2_with (first | ((with_reducible refine gate_store (t:=3) (p:=16) rfl ?_);refine store_event (t:=3) (p:=16) (v:=?vo_w10) (w1:=(wr.setCell ⟨go5,(x5_1 : Int).toNat * 2,none⟩ (.int .i64 x1_1))) ?hg ?ho ?hn ?hr ?_;(case ho=>rfl);(case hg=>rfl);(case hn=>rfl);(case hr=>first | (go_simp;done) | (go_simp;rfl));intro w10 hw;have hg : wr.grownBy w10 (some go5):=(by rw [hw];exact HP9.2);have hp_ : Kd.R k114 114 w10 w0.heap.size (fun k_=>(P0_ k_ ∨ w.heap.size ≤ k_)) (.slice (some ⟨go5,0,none⟩) x0_1.length co8) y452:=(by rw [hw,Ny452.out];exact HP9.1);clear HP9;have n0_:=Aside0.mk (hp_);have n1_:=Aside0.mk ((by rw [hw];exact below_set (HB.out) GB5.out : Below w0.heap.size w0 w10));have n2_:=Aside0.mk (Kept.of_grown (S:=(fun k_=>P0_ k_)) hg (by repeat (first | (with_reducible first | exact HK.out | apply Kept.alloc | apply Kept.drewN | apply Kept.drew) | exact HK.out)) (fun k_ e_=>(HO_0.out.1 k_ e_)));clear HO_0;clear HB;clear HK;have HO_0:=n0_;have HB:=n1_;have HK:=n2_;clear n0_ n1_ n2_;clear hg hw hp_) | ((with_reducible refine gate_callee (f:=85) rfl ?_);refine goesL_ (some 22) rfl rfl Try.func85 (by kernel_rfl) rfl #[.int .i64 (wrap64 (x1_1 + 1))] rfl (by (try simp only [List.map_toArray,List.map_cons,List.map_nil]);first | done | rfl | (simp only [List.length_drop,List.length_take];rfl)) ?_;(with_reducible refine (laws_markText.calls k1 (wrap64 (x1_1 + 1)) t453 _ A6.out).mono ?_);rintro e w11 ⟨rfl,hb⟩;refine ⟨_,rfl,?_⟩;have n0_:=Aside0.mk (Kd.R_below (rs HO_0) hb);have n1_:=Aside0.mk (Kept.below (S:=(fun k_=>P0_ k_)) (by repeat (first | (with_reducible first | exact HK.out | apply Kept.alloc | apply Kept.drewN | apply Kept.drew) | exact HK.out)) hb);have n2_:=Aside0.mk (below_step (hs HB) hb);clear HO_0;clear HK;clear HB;have HO_0:=n0_;have HK:=n1_;have HB:=n2_;clear n0_ n1_ n2_;(try clear hb);(try clear hb2);(try clear hk);(try clear hi);have p7 : 0 ≤ (x5_1 : Int):=of_decide_eq_true (by first | (with_reducible assumption) | assumption);have q7 : (x5_1 : Int) < ((x0_1.length : Int) : Int):=of_decide_eq_true (by first | (with_reducible assumption) | assumption);obtain ⟨ce7,hcl7,hM7,hcc7,hfr7⟩:=Kd.R_elem HO_0.out z114 (x5_1 : Int) p7 q7;obtain rfl:=k114_openM hM7;have hx7_0 : w11.cell? ⟨go5,(x5_1 : Int).toNat * 2,none⟩ = some (.int .i64 ((rd_T114 y452 x5_1).f0)):=hcc7 0 _ rfl;have hx7_1 : w11.cell? ⟨go5,(x5_1 : Int).toNat * 2 + 1,none⟩ = some (.string ((rd_T114 y452 x5_1).f1)):=hcc7 1 _ rfl;have hf7_0 : w11.frozen? ⟨go5,(x5_1 : Int).toNat * 2,none⟩ = false:=hfr7 0;have hf7_1 : w11.frozen? ⟨go5,(x5_1 : Int).toNat * 2 + 1,none⟩ = false:=hfr7 1;clear hcl7 hcc7 hfr7 hM7;replace p7:=eq_true p7;replace q7:=eq_true q7;have HX12:=Aside0.mk (show Kd.R k114 114 w11 w0.heap.size (fun k_=>(P0_ k_ ∨ w.heap.size ≤ k_)) (.slice (some ⟨go5,0,none⟩) x0_1.length co8) y452 from (rs HO_0));obtain ⟨ce12,hcl12,hM12,hcc12,hfr12⟩:=Kd.R_elem HX12.out z114 (x5_1 : Int) (of_decide_eq_true (by first | (with_reducible assumption) | assumption)) (by have h_ : (x5_1 : Int) < ((x0_1.length : Int) : Int):=of_decide_eq_true (by first | (with_reducible assumption) | assumption);first | exact h_ | (have e_:=(Kd.R_reads' HO_0.out).1;omega) | simpa using h_);obtain rfl:=k114_openM hM12;have HP12:=Kd.R_seg HX12.out (x5_1 : Int) (of_decide_eq_true (by first | (with_reducible assumption) | assumption)) (by have h_ : (x5_1 : Int) < ((x0_1.length : Int) : Int):=of_decide_eq_true (by first | (with_reducible assumption) | assumption);first | exact h_ | (have e_:=(Kd.R_reads' HO_0.out).1;omega) | simpa using h_) (seg:=[.string t453]) (j:=1) hcl12 hcc12 (show 2 ≤ 2 from by decide) (x':=(⟨(rd_T114 y452 x5_1).f0,t453⟩ : S114)) (k114_mkM _ _ _ (⟨(rd_T114 y452 x5_1).f0,t453⟩ : S114) ) (fun _ hk=>hk);have hx12_1:=hcc12 1 _ rfl;(try simp only [show (k114).sz = 2 from rfl,Nat.mul_one,Nat.add_zero] at hx12_1);have hf12_1:=hfr12 1;(try simp only [show (k114).sz = 2 from rfl,Nat.mul_one,Nat.add_zero] at hf12_1);clear hcl12 hcc12 hfr12 hM12) | ((with_reducible refine gate_store (t:=9) (p:=24) rfl ?_);refine store_event (t:=9) (p:=24) (v:=?vo_w13) (w1:=(w11.setCell ⟨go5,(x5_1 : Int).toNat * 2 + 1,none⟩ (.string t453))) ?hg ?ho ?hn ?hr ?_;(case ho=>rfl);(case hg=>rfl);(case hn=>rfl);(case hr=>first | (go_simp;done) | (go_simp;rfl));intro w13 hw;have hg : w11.grownBy w13 (some go5):=(by rw [hw];exact HP12.2);have hp_ : Kd.R k114 114 w13 w0.heap.size (fun k_=>(P0_ k_ ∨ w.heap.size ≤ k_)) (.slice (some ⟨go5,0,none⟩) x0_1.length co8) y454:=(by rw [hw,Ny454.out];exact HP12.1);clear HP12;have n0_:=Aside0.mk (hp_);have n1_:=Aside0.mk ((by rw [hw];exact below_set (HB.out) GB5.out : Below w0.heap.size w0 w13));have n2_:=Aside0.mk (Kept.of_grown (S:=(fun k_=>P0_ k_)) hg (by repeat (first | (with_reducible first | exact HK.out | apply Kept.alloc | apply Kept.drewN | apply Kept.drew) | exact HK.out)) (fun k_ e_=>(HO_0.out.1 k_ e_)));clear HO_0;clear HB;clear HK;have HO_0:=n0_;have HB:=n1_;have HK:=n2_;clear n0_ n1_ n2_;clear hg hw hp_));go_roundg k1;case measure=>have:=HK1.out;omega
     case rel=>exact ⟨(y454),(wrap64 ((wrap64 (x1_1 + 1)) + 1)),(wrap64 (x5_1 + 1)),(by first | rfl | (simp;done) | (simp [*];done)),(by first | rfl | (simp;done) | (simp [*];done)),H',⟨by have:=HK1.out;omega⟩,⟨rs HO_0⟩,⟨by repeat (first | (with_reducible first | exact HK.out | apply Kept.alloc | apply Kept.drewN | apply Kept.drew) | exact HK.out)⟩,⟨hs HB⟩⟩
    rw [if_neg c4] at H;exact absurd H (by simp)
   rw [if_neg c3] at H;have c3b0 : decide (x5_1 < (x0_1.length : Int)) = false:=decide_eq_false c3;clear c3;simp only [Option.some.injEq,Prod.mk.injEq] at H;obtain ⟨rfl,rfl⟩:=H;obtain ⟨Ao14,co14,eo14⟩:=Kd.R_slice HO_0.out;subst eo14
   go_wp2
   go_ret
   exact ⟨by first | rfl | (simp [errW_none,errW_some] <;> rfl) | (simp [*,errW_none,errW_some] <;> rfl),rs HO_0,hs HB,by repeat (first | (with_reducible first | exact HK.out | apply Kept.alloc | apply Kept.drewN | apply Kept.drew) | exact HK.out)⟩
end Go.Proofs.Ytijbejiajaiciaa.PC

namespace Go.Proofs.Ytijbejiajaiciaa.PC
open Go.RowKit Go.Proofs.YtijbejiajaiciaaW.PrintWords Go.Proofs.YtijbejiajaiciaaW.PrintLast Go.Proofs.YtijbejiajaiciaaW.PrintMore
set_option linter.unusedVariables false
set_option linter.unusedSimpArgs false
def laws_markBlockS.l0 : Nat → List S112 → Int → Int → Option (Int × (List S112))
 | 0,_,_,_=>none
 | k + 1,x0,x1,x5=>if x5 < (x0.length : Int) then (if 0 ≤ x5 then ((some ((x0.set (x5 : Int).toNat (⟨(Int.tmod x1 3 == 0),(rd_T112 x0 x5).f1,(rd_T112 x0 x5).f2⟩ : S112)) : List S112)).bind fun y1=>((some ((y1.set (x5 : Int).toNat (⟨(rd_T112 y1 x5).f0,wrap64 (x1 + 1),(rd_T112 y1 x5).f2⟩ : S112)) : List S112)).bind fun y2=>((laws_markLeafS.f k (rd_T112 y2 x5).f2 (wrap64 ((wrap64 (x1 + 1)) + 1))).bind fun b_=>(laws_markBlockS.l0 k (y2.set (x5 : Int).toNat (⟨(rd_T112 y2 x5).f0,(rd_T112 y2 x5).f1,b_.2⟩ : S112)) b_.1 (wrap64 (x5 + 1)))))) else (none)) else (some (x1,x0))
def laws_markBlockS.f (k : Nat) (l0 : List S112) (a1 : Int) : Option (Int × (List S112)):=laws_markBlockS.l0 k l0 a1 0
theorem laws_markBlockS.mono_l : ∀ k,∀ y0 y1 y2,LeO (laws_markBlockS.l0 k y0 y1 y2) (laws_markBlockS.l0 (k + 1) y0 y1 y2)
 | 0=>fun _ _ _ r h=>by simp [laws_markBlockS.l0] at h
 | k + 1=>by
  have ih0:=laws_markBlockS.mono_l k;intro y0 y1 y2;unfold laws_markBlockS.l0;refine LeO.ite (LeO.ite ?_ (LeO.none _)) (LeO.refl _)
  repeat' first
   | (with_reducible exact ih0 _ _ _)
   | (with_reducible exact laws_markLeafS.mono _ _ _)
   | (with_reducible exact LeO.refl _)
   | (with_reducible refine LeO.bind ?_ (fun _=>?_))
theorem laws_markBlockS.mono : ∀ a0 a1 k,LeO (laws_markBlockS.f k a0 a1) (laws_markBlockS.f (k + 1) a0 a1):=fun a0 a1 k=>laws_markBlockS.mono_l k _ _ _
set_option maxHeartbeats 8000000 in
set_option maxRecDepth 100000 in
theorem laws_markBlockS.calls (k : Nat) (P0_ : Nat → Prop) (u9000_ : Value) (l0 : List S112) (a1 : Int) (r1 : Int) (r2 : List S112) (w0 w : World) (hB : Below w0.heap.size w0 w) (ho0 : Kd.S k112 112 w w0.heap.size P0_ u9000_ l0) (h : laws_markBlockS.f k l0 a1 = some (r1,r2)) :
  Calls Try.prog 73 #[u9000_,.int .i64 a1] w fun e w'=>e = .returned (.int .i64 r1) ∧ Kd.S k112 112 w' w0.heap.size (fun k_=>(P0_ k_ ∨ w.heap.size ≤ k_)) u9000_ r2 ∧ Below w0.heap.size w0 w' ∧ Kept w w' (fun k_=>P0_ k_):=by
 have HO0:=Aside0.mk (show Kd.S k112 112 w w0.heap.size (fun k_=>(P0_ k_ ∨ w.heap.size ≤ k_)) u9000_ l0 from Kd.S_mono ho0 (fun k_ hk=>(.inl hk)));have HK:=Aside0.mk (Kept.refl w (fun k_=>P0_ k_));have HB:=Aside0.mk hB;clear hB ho0;have H':=Aside0.mk (show laws_markBlockS.l0 k l0 a1 0 = some (r1,r2) from h);clear h
 go_enter Try.func73,Try.ntmps73
 go_wp2
 go_loopg [1,5] k (fun kq v1 v5 w'=>∃ (x0_1 : List S112) (x1_1 : Int) (x5_1 : Int),v1 = .int .i64 x1_1 ∧ v5 = .int .i64 x5_1 ∧ Aside0 (laws_markBlockS.l0 kq x0_1 x1_1 x5_1 = some (r1,r2)) ∧ Aside0 (kq ≤ k) ∧ Aside0 (Kd.S k112 112 w' w0.heap.size (fun k_=>(P0_ k_ ∨ w.heap.size ≤ k_)) u9000_ x0_1) ∧ Aside0 (Kept w w' (fun k_=>P0_ k_)) ∧ Aside0 (Below w0.heap.size w0 w'));case atStart=>exact ⟨l0,a1,0,rfl,rfl,H',⟨Nat.le_refl _⟩,HO0,HK,HB⟩
 case round =>
  clear H';obtain ⟨x0_1,x1_1,x5_1,rfl,rfl,HA,HK1,HO_0,HK,HB⟩:=hrel;cases gk with
  | zero=>exact absurd HA.out (by simp [laws_markBlockS.l0])
  | succ k1 =>
   have H:=HA.out;clear HA;simp only [laws_markBlockS.l0] at H
   by_cases c3 : x5_1 < (x0_1.length : Int)
   ·rw [if_pos c3] at H;have c3b0 : decide (x5_1 < (x0_1.length : Int)) = true:=decide_eq_true c3
    by_cases c4 : 0 ≤ x5_1
    ·rw [if_pos c4] at H;have c4b0 : decide (0 ≤ x5_1) = true:=decide_eq_true c4;obtain ⟨y1,hy1⟩ : ∃ y_ : List S112,y_ = (x0_1.set (x5_1 : Int).toNat (⟨(Int.tmod x1_1 3 == 0),(rd_T112 x0_1 x5_1).f1,(rd_T112 x0_1 x5_1).f2⟩ : S112)):=⟨_,rfl⟩;replace H : ((some ((y1.set (x5_1 : Int).toNat (⟨(rd_T112 y1 x5_1).f0,wrap64 (x1_1 + 1),(rd_T112 y1 x5_1).f2⟩ : S112)) : List S112)).bind fun y2=>((laws_markLeafS.f k1 (rd_T112 y2 x5_1).f2 (wrap64 ((wrap64 (x1_1 + 1)) + 1))).bind fun b_=>(laws_markBlockS.l0 k1 (y2.set (x5_1 : Int).toNat (⟨(rd_T112 y2 x5_1).f0,(rd_T112 y2 x5_1).f1,b_.2⟩ : S112)) b_.1 (wrap64 (x5_1 + 1))))) = some (r1,r2):=by rw [hy1];exact H
     have Ny1:=Aside0.mk hy1;clear hy1;obtain ⟨y2,hy2⟩ : ∃ y_ : List S112,y_ = (y1.set (x5_1 : Int).toNat (⟨(rd_T112 y1 x5_1).f0,wrap64 (x1_1 + 1),(rd_T112 y1 x5_1).f2⟩ : S112)):=⟨_,rfl⟩;replace H : ((laws_markLeafS.f k1 (rd_T112 y2 x5_1).f2 (wrap64 ((wrap64 (x1_1 + 1)) + 1))).bind fun b_=>(laws_markBlockS.l0 k1 (y2.set (x5_1 : Int).toNat (⟨(rd_T112 y2 x5_1).f0,(rd_T112 y2 x5_1).f1,b_.2⟩ : S112)) b_.1 (wrap64 (x5_1 + 1)))) = some (r1,r2):=by rw [hy2];exact H
     have Ny2:=Aside0.mk hy2;clear hy2;obtain ⟨⟨t_,l_⟩,A0_,H⟩:=Option.bind_eq_some_iff.mp H;have A1:=Aside0.mk A0_;clear A0_;have H':=Aside0.mk (show laws_markBlockS.l0 k1 (y2.set (x5_1 : Int).toNat (⟨(rd_T112 y2 x5_1).f0,(rd_T112 y2 x5_1).f1,l_⟩ : S112)) t_ (wrap64 (x5_1 + 1)) = some (r1,r2) from H);clear H;obtain ⟨go5,co5,eo5,gb5,_,_⟩:=Kd.S_form HO_0.out (by omega);subst eo5;have GB5:=Aside0.mk gb5;clear gb5;have HM5:=Aside0.mk (show (P0_ go5 ∨ w.heap.size ≤ go5) from ((Kd.S_R HO_0.out).1 _ rfl));have p5:=eq_true c4;have q5:=eq_true c3;have P5:=Aside0.mk c4;have Q5:=Aside0.mk c3;clear c3 c4;obtain ⟨okia0,cea0,hcla0,hMa0,hcca0,hokia0,hHa0⟩:=Kd.S_lend HO_0.out z112 (x5_1 : Int) P5.out Q5.out;have hfra0:=(Kd.R_elem (Kd.S_R HO_0.out) z112 (x5_1 : Int) P5.out Q5.out).choose_spec.2.2.2;obtain ⟨vea0,rfl,gea0⟩:=k112_openM hMa0;have hxa0_0 : wr.cell? ⟨go5,(x5_1 : Int).toNat * 3,none⟩ = some (.bool (rd_T112 x0_1 x5_1).f0):=hcca0 0 _ rfl;have hfa0_0 : wr.frozen? ⟨go5,(x5_1 : Int).toNat * 3,none⟩ = false:=hfra0 0;have hxa0_1 : wr.cell? ⟨go5,(x5_1 : Int).toNat * 3 + 1,none⟩ = some (.int .i64 (rd_T112 x0_1 x5_1).f1):=hcca0 1 _ rfl;have hfa0_1 : wr.frozen? ⟨go5,(x5_1 : Int).toNat * 3 + 1,none⟩ = false:=hfra0 1;have hxa0_2 : wr.cell? ⟨go5,(x5_1 : Int).toNat * 3 + 2,none⟩ = some vea0:=hcca0 2 _ rfl;have hfa0_2 : wr.frozen? ⟨go5,(x5_1 : Int).toNat * 3 + 2,none⟩ = false:=hfra0 2;clear hcla0 hMa0 hcca0 hfra0;clear hokia0 hHa0;have HP:=Kd.S_field HO_0.out z112 (x5_1 : Int) P5.out Q5.out 0 (.bool (Int.tmod x1_1 3 == 0)) (show 1 ≤ 3 from by decide) (x':=(⟨(Int.tmod x1_1 3 == 0),(rd_T112 x0_1 x5_1).f1,(rd_T112 x0_1 x5_1).f2⟩ : S112)) (fun okp c hM_=>by obtain ⟨v_,rfl,g_⟩:=k112_openM hM_;exact k112_mkM _ _ _ _ g_);have HP':=Aside0.mk HP;clear HP;go_wp2_with (first | ((with_reducible refine gate_store (t:=4) (p:=18) rfl ?_);refine store_event (t:=4) (p:=18) (v:=?vo0_) (w1:=(wr.setCell ⟨go5,(x5_1 : Int).toNat * 3,none⟩ (.bool (Int.tmod x1_1 3 == 0)))) ?hg ?ho ?hn ?hr ?_;(case ho=>rfl);(case hg=>rfl);(case hn=>rfl);(case hr=>first | (go_simp;done) | (go_simp;rfl));intro ws1 hw;have hg : wr.grownBy ws1 (some go5):=(by rw [hw];exact HP'.out.2);have n0_:=Aside0.mk (show Kd.S k112 112 ws1 w0.heap.size (fun k_=>(P0_ k_ ∨ w.heap.size ≤ k_)) (.slice (some ⟨go5,0,none⟩) x0_1.length co5) y1 from (by rw [hw,Ny1.out];exact HP'.out.1));have n1_:=Aside0.mk (show Below w0.heap.size w0 ws1 from (by rw [hw];exact below_set HB.out GB5.out));have n2_:=Aside0.mk (Kept.of_grown (S:=(fun k_=>P0_ k_)) hg HK.out (fun k_ e_=>(Kd.S_R HO_0.out).1 k_ e_));clear HO_0 HB HK HP';have HO_0:=n0_;have HB:=n1_;have HK:=n2_;clear n0_ n1_ n2_ hg hw;clear hxa0_0 hfa0_0 hxa0_1 hfa0_1 hxa0_2 hfa0_2;obtain ⟨okia1,cea1,hcla1,hMa1,hcca1,hokia1,hHa1⟩:=Kd.S_lend HO_0.out z112 (x5_1 : Int) P5.out Q5.out;have hfra1:=(Kd.R_elem (Kd.S_R HO_0.out) z112 (x5_1 : Int) P5.out Q5.out).choose_spec.2.2.2;obtain ⟨vea1,rfl,gea1⟩:=k112_openM hMa1;have hxa1_0 : ws1.cell? ⟨go5,(x5_1 : Int).toNat * 3,none⟩ = some (.bool (rd_T112 y1 x5_1).f0):=hcca1 0 _ rfl;have hfa1_0 : ws1.frozen? ⟨go5,(x5_1 : Int).toNat * 3,none⟩ = false:=hfra1 0;have hxa1_1 : ws1.cell? ⟨go5,(x5_1 : Int).toNat * 3 + 1,none⟩ = some (.int .i64 (rd_T112 y1 x5_1).f1):=hcca1 1 _ rfl;have hfa1_1 : ws1.frozen? ⟨go5,(x5_1 : Int).toNat * 3 + 1,none⟩ = false:=hfra1 1;have hxa1_2 : ws1.cell? ⟨go5,(x5_1 : Int).toNat * 3 + 2,none⟩ = some vea1:=hcca1 2 _ rfl;have hfa1_2 : ws1.frozen? ⟨go5,(x5_1 : Int).toNat * 3 + 2,none⟩ = false:=hfra1 2;clear hcla1 hMa1 hcca1 hfra1;clear hokia1 hHa1;have HP:=Kd.S_field HO_0.out z112 (x5_1 : Int) P5.out Q5.out 1 (.int .i64 (wrap64 (x1_1 + 1))) (show 2 ≤ 3 from by decide) (x':=(⟨(rd_T112 y1 x5_1).f0,wrap64 (x1_1 + 1),(rd_T112 y1 x5_1).f2⟩ : S112)) (fun okp c hM_=>by obtain ⟨v_,rfl,g_⟩:=k112_openM hM_;exact k112_mkM _ _ _ _ g_);have HP':=Aside0.mk HP;clear HP) | ((with_reducible refine gate_store (t:=3) (p:=25) rfl ?_);refine store_event (t:=3) (p:=25) (v:=?vo1_) (w1:=(ws1.setCell ⟨go5,(x5_1 : Int).toNat * 3 + 1,none⟩ (.int .i64 (wrap64 (x1_1 + 1))))) ?hg ?ho ?hn ?hr ?_;(case ho=>rfl);(case hg=>rfl);(case hn=>rfl);(case hr=>first | (go_simp;done) | (go_simp;rfl));intro ws2 hw;have hg : ws1.grownBy ws2 (some go5):=(by rw [hw];exact HP'.out.2);have n0_:=Aside0.mk (show Kd.S k112 112 ws2 w0.heap.size (fun k_=>(P0_ k_ ∨ w.heap.size ≤ k_)) (.slice (some ⟨go5,0,none⟩) x0_1.length co5) y2 from (by rw [hw,Ny2.out];exact HP'.out.1));have n1_:=Aside0.mk (show Below w0.heap.size w0 ws2 from (by rw [hw];exact below_set HB.out GB5.out));have n2_:=Aside0.mk (Kept.of_grown (S:=(fun k_=>P0_ k_)) hg HK.out (fun k_ e_=>(Kd.S_R HO_0.out).1 k_ e_));clear HO_0 HB HK HP';have HO_0:=n0_;have HB:=n1_;have HK:=n2_;clear n0_ n1_ n2_ hg hw;clear hxa1_0 hfa1_0 hxa1_1 hfa1_1 hxa1_2 hfa1_2;obtain ⟨okia2,cea2,hcla2,hMa2,hcca2,hokia2,hHa2⟩:=Kd.S_lend HO_0.out z112 (x5_1 : Int) P5.out Q5.out;have hfra2:=(Kd.R_elem (Kd.S_R HO_0.out) z112 (x5_1 : Int) P5.out Q5.out).choose_spec.2.2.2;obtain ⟨vea2,rfl,gea2⟩:=k112_openM hMa2;have hxa2_0 : ws2.cell? ⟨go5,(x5_1 : Int).toNat * 3,none⟩ = some (.bool (rd_T112 y2 x5_1).f0):=hcca2 0 _ rfl;have hfa2_0 : ws2.frozen? ⟨go5,(x5_1 : Int).toNat * 3,none⟩ = false:=hfra2 0;have hxa2_1 : ws2.cell? ⟨go5,(x5_1 : Int).toNat * 3 + 1,none⟩ = some (.int .i64 (rd_T112 y2 x5_1).f1):=hcca2 1 _ rfl;have hfa2_1 : ws2.frozen? ⟨go5,(x5_1 : Int).toNat * 3 + 1,none⟩ = false:=hfra2 1;have hxa2_2 : ws2.cell? ⟨go5,(x5_1 : Int).toNat * 3 + 2,none⟩ = some vea2:=hcca2 2 _ rfl;have hfa2_2 : ws2.frozen? ⟨go5,(x5_1 : Int).toNat * 3 + 2,none⟩ = false:=hfra2 2;clear hcla2 hMa2 hcca2 hfra2;have HOK:=Aside0.mk hokia2;have HH:=Aside0.mk hHa2;have HG:=Aside0.mk (show Kd.R k114 114 ws2 w0.heap.size okia2 vea2 (rd_T112 y2 x5_1).f2 from gea2);clear hokia2 hHa2 gea2) | ((go_at_call 104);(with_reducible refine (laws_markLeafS.calls k1 okia2 _ _ _ t_ l_ w0 _ HB.out HG.out A1.out).mono ?_);rintro e wz ⟨rfl,hR_,hB_,hK_⟩;have n0_:=Aside0.mk (show Kd.S k112 112 wz w0.heap.size (fun k_=>(P0_ k_ ∨ w.heap.size ≤ k_)) (.slice (some ⟨go5,0,none⟩) x0_1.length co5) (y2.set (x5_1 : Int).toNat (⟨(rd_T112 y2 x5_1).f0,(rd_T112 y2 x5_1).f1,l_⟩ : S112)) from Kd.S_called HH.out hK_ (k112_mkM _ _ _ (⟨(rd_T112 y2 x5_1).f0,(rd_T112 y2 x5_1).f1,l_⟩ : S112) hR_) (fun k_ hk=>.inr (Nat.le_trans HK.out.1 hk)));have n1_:=Aside0.mk hB_;have n2_:=Aside0.mk (Kept.then_ HK.out hK_ (fun k_ hk=>(HOK.out k_ hk).1));clear HO_0 HB HK;have HO_0:=n0_;have HB:=n1_;have HK:=n2_;clear n0_ n1_ n2_ hR_ hB_ hK_ HH HG HOK));go_roundg k1;case measure=>have:=HK1.out;omega
     case rel=>exact ⟨_,_,_,rfl,rfl,H',⟨by have:=HK1.out;omega⟩,HO_0,HK,HB⟩
    rw [if_neg c4] at H;exact absurd H (by simp)
   rw [if_neg c3] at H;have c3b0 : decide (x5_1 < (x0_1.length : Int)) = false:=decide_eq_false c3;clear c3;simp only [Option.some.injEq,Prod.mk.injEq] at H;obtain ⟨rfl,rfl⟩:=H;obtain ⟨Ao18,co18,eo18⟩:=Kd.S_slice HO_0.out;subst eo18
   go_wp2
   go_ret
   exact ⟨rfl,HO_0.out,HB.out,HK.out⟩
end Go.Proofs.Ytijbejiajaiciaa.PC

namespace Go.Proofs.Ytijbejiajaiciaa.PC
open Go.RowKit Go.Proofs.YtijbejiajaiciaaW.PrintWords Go.Proofs.YtijbejiajaiciaaW.PrintLast Go.Proofs.YtijbejiajaiciaaW.PrintMore
attribute [local go_sem] max2_int min2_int max_two min_two max_three min_three max_four min_four
set_option linter.unusedVariables false
set_option linter.unusedSimpArgs false
def laws_markFlash.f (k : Nat) (l0_0 : List (S112)) (a1 : Int) : Option (Int × (List (S112))):=((laws_markBlockS.f k l0_0 a1).bind fun b0=>(some (b0.1,b0.2)))
theorem laws_markFlash.mono : ∀ a0 a1 k,LeO (laws_markFlash.f k a0 a1) (laws_markFlash.f (k + 1) a0 a1):=by
 intro a0 a1 k;unfold laws_markFlash.f
 repeat' first
   | (with_reducible exact laws_markBlockS.mono _ _ _)
   | (with_reducible exact LeO.refl _)
   | (with_reducible exact LeO.none _)
   | (with_reducible refine LeO.ite ?_ ?_)
   | (with_reducible refine LeO.bind ?_ (fun _=>?_))
   | exact laws_markBlockS.mono _ _ _
   | exact LeO.none _
   | refine LeO.ite ?_ ?_
   | refine LeO.bind ?_ (fun _=>?_)
set_option maxHeartbeats 8000000 in
set_option maxRecDepth 100000 in
theorem laws_markFlash.calls (k : Nat) (P0_0_ : Nat → Prop) (u0_0_ : Value) (l0_0 : List (S112)) (a1 : Int) (r1 : Int) (r2 : List (S112)) (w0 w : World) (hB : Below w0.heap.size w0 w) (ho0_0 : Kd.S k112 112 w w0.heap.size P0_0_ u0_0_ l0_0) (h : laws_markFlash.f k l0_0 a1 = some (r1,r2)) :
  Calls Try.prog 36 #[.agg #[u0_0_],.int .i64 a1] w fun e w'=>e = .returned (.int .i64 r1) ∧ Kd.S k112 112 w' w0.heap.size (fun k_=>(P0_0_ k_ ∨ w.heap.size ≤ k_)) u0_0_ r2 ∧ Below w0.heap.size w0 w' ∧ Kept w w' (fun k_=>P0_0_ k_):=by
 have HZ0_0:=Aside0.mk (Kd.S_mono (ok':=fun k_=>(P0_0_ k_ ∧ k_ < w.heap.size)) (Kd.S_bound ho0_0) (fun k_ hk_=>⟨hk_.1,hk_.2.2.1⟩));clear ho0_0;have HB:=Aside0.mk hB;clear hB;have HK:=Aside0.mk (Kept.refl w (fun k_=>P0_0_ k_));have HL:=Aside0.mk (Nat.le_refl w.heap.size);have H : ((laws_markBlockS.f k l0_0 a1).bind fun b0=>(some (b0.1,b0.2))) = some (r1,r2):=h;clear h;replace H:=Option.bind_eq_some_iff.mp H;obtain ⟨⟨t3,t4⟩,A00,H⟩:=H;replace H : (some (t3,t4)) = some (r1,r2):=H;have A0:=Aside0.mk A00;clear A00;have H2:=Option.some.inj H;simp only [Prod.mk.injEq] at H2;obtain ⟨rfl,rfl⟩:=H2
 go_enter Try.func36,Try.ntmps36
 go_wp2_with (first | ((with_reducible refine gate_dst (N:=2) rfl ?_);refine box_event ?hg (N:=2) ?hd (cs:=#[u0_0_]) (t:=59) ?hr ?_;(case hd=>rfl);(case hg=>rfl);(case hr=>first | (go_simp;done) | (go_simp;rfl));intro gb1 hg w1 hbox hb;replace HZ0_0:=Aside0.mk (Kd.S_below HZ0_0.out hb);have GBK1:=Aside0.mk (show gb1 = w.heap.size ∧ gb1 < w1.heap.size from ⟨hg,blk_lt hbox⟩);have GW1:=Aside0.mk (show w0.heap.size ≤ gb1 by have q_:=below_size HB.out;rw [hg];exact q_);have BK1:=Aside0.mk hbox;replace HK:=Aside0.mk (Kept.below HK.out hb);replace HB:=Aside0.mk (below_then HB.out HB.out.size hb);replace HL:=Aside0.mk (And.intro HL.out (below_size hb));clear hb hbox hg;have hcz2 : w1.cell? ⟨gb1,0,none⟩ = some (u0_0_):=(blk_cell BK1.out 0).trans rfl;have hfz3:=blk_frozen BK1.out 0) | ((with_reducible refine gate_callee (f:=73) rfl ?_);refine goesL_ (some 8) rfl rfl Try.func73 (by kernel_rfl) rfl #[u0_0_,.int .i64 a1] rfl (by (try simp only [List.map_toArray,List.map_cons,List.map_nil]);first | done | rfl | (simp only [List.length_drop,List.length_take];rfl)) ?_;(with_reducible refine (laws_markBlockS.calls k (fun k_=>(P0_0_ k_ ∧ k_ < w.heap.size)) _ l0_0 a1 t3 t4 w0 _ HB.out HZ0_0.out A0.out).mono ?_);rintro e w4 ⟨rfl,hy0,hb0,hk⟩;refine ⟨_,rfl,?_⟩;have ny0_:=Aside0.mk (Kd.S_mono (ok':=fun k_=>((P0_0_ k_ ∧ k_ < w.heap.size) ∨ (w1.heap.size ≤ k_ ∧ k_ < w4.heap.size))) (Kd.S_bound hy0) (fun k_ hk_=>hk_.1.imp id (fun h_=>⟨h_,hk_.2.2.1⟩)));replace BK1:=Aside0.mk (blk_kept BK1.out hk (fun hs_=>by have q_:=HL.out;have g_:=GBK1.out;have hs2_ : (P0_0_ gb1 ∧ gb1 < w.heap.size):=hs_;omega));replace HZ0_0:=ny0_;clear ny0_;replace HK:=Aside0.mk (Kept.then_ HK.out hk (fun k_ hs_=>by have q_:=HL.out;have h_ : (P0_0_ k_ ∧ k_ < w.heap.size):=hs_;first | (first | exact .inl h_.1 | exact .inl (.inl h_.1) | exact .inl (.inr h_.1) | exact .inr (by omega)) | (rcases h_ with h_ | h_ <;> first | exact .inl h_.1 | exact .inl (.inl h_.1) | exact .inl (.inr h_.1) | exact .inr (by omega))));replace HB:=Aside0.mk hb0;replace HL:=Aside0.mk (And.intro HL.out hk.1);clear hb0 hk hy0;clear hcz2 hfz3;have hcz5 : w4.cell? ⟨gb1,0,none⟩ = some (u0_0_):=(blk_cell BK1.out 0).trans rfl;have hfz6:=blk_frozen BK1.out 0))
 go_ret
 exact ⟨rfl,Kd.S_mono (ok':=fun k_=>(P0_0_ k_ ∨ w.heap.size ≤ k_)) HZ0_0.out (fun k_ hk_=>by have q_:=HL.out;have h_ : ((P0_0_ k_ ∧ k_ < w.heap.size) ∨ (w1.heap.size ≤ k_ ∧ k_ < w4.heap.size)):=hk_;first | (first | exact .inl h_.1 | exact .inl (.inl h_.1) | exact .inl (.inr h_.1) | exact .inr (by omega)) | (rcases h_ with h_ | h_ <;> first | exact .inl h_.1 | exact .inl (.inl h_.1) | exact .inl (.inr h_.1) | exact .inr (by omega))),HB.out,HK.out⟩
end Go.Proofs.Ytijbejiajaiciaa.PC

namespace Go.Proofs.Ytijbejiajaiciaa.PC
open Go.RowKit Go.Proofs.YtijbejiajaiciaaW.PrintWords Go.Proofs.YtijbejiajaiciaaW.PrintLast Go.Proofs.YtijbejiajaiciaaW.PrintMore
attribute [local go_sem] max2_int min2_int max_two min_two max_three min_three max_four min_four   -- for this text's walks alone
set_option linter.unusedVariables false
set_option linter.unusedSimpArgs false
def impl_copyFlash.l0 : Nat → List (S112) → Int → Int → List (S112) → Option ((List (S112)))
 | 0,_,_,_,_=>none
 | k + 1,x7,x8,x9,x561000=>if x9 < x8 then (if 0 ≤ x9 then (if x9 < (x7.length : Int) then (if ([] : List (S114)).length + ((rd_T112 x7 x9).f2).length < 5864062014805 then (if x561000.length < 3518437208883 then (impl_copyFlash.l0 k x7 x8 (wrap64 (x9 + 1)) (x561000 ++ [(⟨(rd_T112 x7 x9).f0,(rd_T112 x7 x9).f1,(([] : List (S114)) ++ ((rd_T112 x7 x9).f2))⟩ : S112)])) else (none)) else (none)) else (none)) else (none)) else (some x561000)
def impl_copyFlash.f (k : Nat) (l0_0 : List (S112)) : Option ((List (S112))):=impl_copyFlash.l0 k l0_0 (l0_0.length : Int) 0 ([] : List (S112))
theorem impl_copyFlash.mono_l : ∀ k,(∀ y0 y1 y2 y3,LeO (impl_copyFlash.l0 k y0 y1 y2 y3) (impl_copyFlash.l0 (k + 1) y0 y1 y2 y3))
 | 0=>fun _ _ _ _ r h=>by simp [impl_copyFlash.l0] at h
 | k + 1=>by
  have ih0:=impl_copyFlash.mono_l k;intro y0 y1 y2 y3;unfold impl_copyFlash.l0
  repeat' first
  | (with_reducible exact ih0 _ _ _ _)
  | (with_reducible exact LeO.refl _)
  | (with_reducible exact LeO.none _)
  | (with_reducible refine LeO.ite ?_ ?_)
  | (with_reducible refine LeO.bind ?_ (fun _=>?_))
  | exact ih0 _ _ _ _
  | exact LeO.none _
  | refine LeO.ite ?_ ?_
  | refine LeO.bind ?_ (fun _=>?_)
theorem impl_copyFlash.mono : ∀ a0 k,LeO (impl_copyFlash.f k a0) (impl_copyFlash.f (k + 1) a0):=by
 intro a0 k;have ih0:=impl_copyFlash.mono_l k;unfold impl_copyFlash.f
 repeat' first
   | (with_reducible exact ih0 _ _ _ _)
   | (with_reducible exact LeO.refl _)
   | (with_reducible exact LeO.none _)
   | (with_reducible refine LeO.ite ?_ ?_)
   | (with_reducible refine LeO.bind ?_ (fun _=>?_))
   | exact ih0 _ _ _ _
   | exact LeO.none _
   | refine LeO.ite ?_ ?_
   | refine LeO.bind ?_ (fun _=>?_)
set_option maxHeartbeats 8000000 in
set_option maxRecDepth 100000 in
theorem impl_copyFlash.calls (k : Nat) (A0_0 : Option Addr) (c0_0 : Nat) (l0_0 : List (S112)) (r : List (S112)) (w : World) (hr0_0 : Kd.C k112 w A0_0 l0_0.length l0_0) (hc0_0 : l0_0.length ≤ c0_0) (h : impl_copyFlash.f k l0_0 = some r) :
  Calls Try.prog 79 #[.agg #[.slice A0_0 l0_0.length c0_0]] w fun e w'=>∃ v0_ : Value,e = .returned (.agg #[v0_]) ∧ Kd.S k112 112 w' w.heap.size (fun _=>True) v0_ r ∧ Below w.heap.size w w':=by
 have hu59:=Try.underlying59;have hu112:=Try.underlying112;have HR0_0:=Aside0.mk hr0_0;have HC0_0:=Aside0.mk hc0_0;clear hr0_0 hc0_0;have HB:=Aside0.mk (Below.refl w.heap.size w);have H : (impl_copyFlash.l0 k l0_0 (l0_0.length : Int) 0 ([] : List (S112))) = some r:=h;clear h;have H':=Aside0.mk H;clear H
 go_enter Try.func79,Try.ntmps79
 go_wp2_with (first | ((with_reducible refine gate_dst (N:=1) rfl ?_);refine box_event ?hg (N:=1) ?hd (cs:=#[.slice A0_0 l0_0.length c0_0]) (t:=59) ?hr ?_;(case hd=>rfl);(case hg=>rfl);(case hr=>first | (go_simp;done) | (go_simp;rfl));intro gb558 hg w2 hbox hb;have n0_:=Aside0.mk (below_step (hs HB) hb);have n1_:=Aside0.mk (hbox);have n2_:=Aside0.mk ((by rw [hg];exact (below_size (hs HB)) : w.heap.size ≤ gb558));have n3_:=Aside0.mk ((by rw [hg];exact (below_size (hs HB)) : w.heap.size ≤ gb558));clear HB;have HB:=n0_;have BK558:=n1_;have GW558:=n2_;have GE558:=n3_;clear n0_ n1_ n2_ n3_;clear hb hbox hg) | ((with_reducible refine gate_dst (N:=2) rfl ?_);refine box_event ?hg (N:=2) ?hd (cs:=#[.slice none 0 0]) (t:=59) ?hr ?_;(case hd=>rfl);(case hg=>rfl);(case hr=>first | (go_simp;done) | (go_simp;rfl));intro gb559 hg w3 hbox hb;have n0_:=Aside0.mk (blk_below (g:=gb558) (o:=.cells #[.slice A0_0 l0_0.length c0_0] 59 (0,0)) (bs BK558) hb);have n1_:=Aside0.mk (below_step (hs1 HB GE558) hb);have n2_:=Aside0.mk (hbox);have n3_:=Aside0.mk ((by rw [hg];exact (below_size (hs1 HB GE558)) : w.heap.size ≤ gb559));have n4_:=Aside0.mk ((by rw [hg];exact (below_size (hs1 HB GE558)) : w.heap.size ≤ gb559));have n5_:=Aside0.mk ((by rw [hg];exact Nat.ne_of_lt (blk_lt (g:=gb558) (o:=.cells #[.slice A0_0 l0_0.length c0_0] 59 (0,0)) (bs BK558)) : gb558 ≠ gb559));have n6_:=Aside0.mk ((by rw [hg];exact Nat.ne_of_gt (blk_lt (g:=gb558) (o:=.cells #[.slice A0_0 l0_0.length c0_0] 59 (0,0)) (bs BK558)) : gb559 ≠ gb558));clear BK558;clear HB;have BK558:=n0_;have HB:=n1_;have BK559:=n2_;have GW559:=n3_;have GE559:=n4_;have NB558_559:=n5_;have NB559_558:=n6_;clear n0_ n1_ n2_ n3_ n4_ n5_ n6_;clear hb hbox hg) | ((with_reducible refine gate_dst (N:=3) rfl ?_);refine box_event ?hg (N:=3) ?hd (cs:=#[.slice none 0 0]) (t:=59) ?hr ?_;(case hd=>rfl);(case hg=>rfl);(case hr=>first | (go_simp;done) | (go_simp;rfl));intro gb560 hg w4 hbox hb;have n0_:=Aside0.mk (blk_below (g:=gb558) (o:=.cells #[.slice A0_0 l0_0.length c0_0] 59 (0,0)) (bs BK558) hb);have n1_:=Aside0.mk (blk_below (g:=gb559) (o:=.cells #[.slice none 0 0] 59 (0,0)) (bs BK559) hb);have n2_:=Aside0.mk (below_step (hs2 HB GE558 GE559) hb);have n3_:=Aside0.mk (hbox);have n4_:=Aside0.mk ((by rw [hg];exact (below_size (hs2 HB GE558 GE559)) : w.heap.size ≤ gb560));have n5_:=Aside0.mk ((by rw [hg];exact (below_size (hs2 HB GE558 GE559)) : w.heap.size ≤ gb560));have n6_:=Aside0.mk ((by rw [hg];exact Nat.ne_of_lt (blk_lt (g:=gb558) (o:=.cells #[.slice A0_0 l0_0.length c0_0] 59 (0,0)) (bs BK558)) : gb558 ≠ gb560));have n7_:=Aside0.mk ((by rw [hg];exact Nat.ne_of_gt (blk_lt (g:=gb558) (o:=.cells #[.slice A0_0 l0_0.length c0_0] 59 (0,0)) (bs BK558)) : gb560 ≠ gb558));have n8_:=Aside0.mk ((by rw [hg];exact Nat.ne_of_lt (blk_lt (g:=gb559) (o:=.cells #[.slice none 0 0] 59 (0,0)) (bs BK559)) : gb559 ≠ gb560));have n9_:=Aside0.mk ((by rw [hg];exact Nat.ne_of_gt (blk_lt (g:=gb559) (o:=.cells #[.slice none 0 0] 59 (0,0)) (bs BK559)) : gb560 ≠ gb559));clear BK558;clear BK559;clear HB;have BK558:=n0_;have BK559:=n1_;have HB:=n2_;have BK560:=n3_;have GW560:=n4_;have GE560:=n5_;have NB558_560:=n6_;have NB560_558:=n7_;have NB559_560:=n8_;have NB560_559:=n9_;clear n0_ n1_ n2_ n3_ n4_ n5_ n6_ n7_ n8_ n9_;clear hb hbox hg;have hnb5:=NB558_559.out;have hnc5:=NB559_558.out;have hnb6:=NB558_560.out;have hnc6:=NB560_558.out;have hcz7_0 : w4.cell? ⟨gb558,0,none⟩ = some (.slice A0_0 l0_0.length c0_0):=(blk_cell BK558.out 0).trans rfl;have hfz7_0:=blk_frozen BK558.out 0));go_loopg [9] k (fun kq v9 w'=>∃ (x9_1 : Int) (x561000_1 : List (S112)) (u561000 : Value),v9 = .int .i64 x9_1 ∧ Aside0 (impl_copyFlash.l0 kq l0_0 (l0_0.length : Int) x9_1 x561000_1 = some r) ∧ Aside0 (kq ≤ k) ∧ Aside0 (Kd.S k112 112 w' w.heap.size (fun _=>True) u561000 x561000_1) ∧ Aside0 (w'.heap[gb558]? = some (.cells #[(.slice A0_0 l0_0.length c0_0)] 59 (0,0))) ∧ Aside0 (w'.heap[gb559]? = some (.cells #[(.slice none 0 0)] 59 (0,0))) ∧ Aside0 (w'.heap[gb560]? = some (.cells #[u561000] 59 (0,0))) ∧ Aside0 (Below w.heap.size w w'));case atStart=>exact ⟨(0),(([] : List (S112))),(.slice none 0 0),(by first | rfl | (simp;done) | (simp [*];done)),H',⟨Nat.le_refl _⟩,⟨by first | exact Kd.S_nil _ _ _ _ _ | exact Kd.N_nil _ _ _ _ _ | exact Kd.V_nil _ _ _ _ _ | exact Kd.Q_nil _ _ _ _ _ | exact Kd.R_nil _ _ _ _ _⟩,⟨bs BK558⟩,⟨bs BK559⟩,⟨bs BK560⟩,⟨hs3 HB GE558 GE559 GE560⟩⟩
 case round =>
  clear H'
  try clear p2
  try clear c5
  try clear c6
  try clear c7
  try clear hcz7_0
  try clear hfz7_0
  obtain ⟨x9_1,x561000_1,u561000,rfl,HA,HK1,HO_561000,BK558,BK559,BK560,HB⟩:=hrel;cases gk with
  | zero=>exact absurd HA.out (by simp [impl_copyFlash.l0])
  | succ k1 =>
   have H:=HA.out;clear HA;simp only [impl_copyFlash.l0] at H
   by_cases c8 : x9_1 < (l0_0.length : Int)
   ·rw [if_pos c8] at H;have c8b0 : decide (x9_1 < (l0_0.length : Int)) = true:=decide_eq_true c8;clear c8
    by_cases c9 : 0 ≤ x9_1
    ·rw [if_pos c9] at H;have c9b0 : decide (0 ≤ x9_1) = true:=decide_eq_true c9;clear c9
     by_cases c10 : x9_1 < (l0_0.length : Int)
     ·rw [if_pos c10] at H;have c10b0 : decide (x9_1 < (l0_0.length : Int)) = true:=decide_eq_true c10;clear c10
      by_cases c11 : ([] : List (S114)).length + ((rd_T112 l0_0 x9_1).f2).length < 5864062014805
      ·rw [if_pos c11] at H;have LMc11:=Aside0.mk c11;clear c11;obtain ⟨y563,hy563⟩ : ∃ y_ : List (S114),y_ = (([] : List (S114)) ++ ((rd_T112 l0_0 x9_1).f2)):=⟨_,rfl⟩;replace H : (if x561000_1.length < 3518437208883 then (impl_copyFlash.l0 k1 l0_0 (l0_0.length : Int) (wrap64 (x9_1 + 1)) (x561000_1 ++ [(⟨(rd_T112 l0_0 x9_1).f0,(rd_T112 l0_0 x9_1).f1,y563⟩ : S112)])) else (none)) = some r:=by first | (rw [hy563];with_reducible exact H) | (have H2_:=(Option.bind_some _ _).symm.trans H;rw [hy563];with_reducible exact H2_) | (have H2_:=(Option.bind_some _ _).symm.trans H;with_reducible exact H2_) | with_reducible exact H | (rw [hy563];exact H) | exact H
       have Ny563:=Aside0.mk hy563;clear hy563
       by_cases c12 : x561000_1.length < 3518437208883
       ·rw [if_pos c12] at H;have LMc12:=Aside0.mk c12;clear c12;obtain ⟨y566,hy566⟩ : ∃ y_ : List (S112),y_ = (x561000_1 ++ [(⟨(rd_T112 l0_0 x9_1).f0,(rd_T112 l0_0 x9_1).f1,y563⟩ : S112)]):=⟨_,rfl⟩;replace H : (impl_copyFlash.l0 k1 l0_0 (l0_0.length : Int) (wrap64 (x9_1 + 1)) y566) = some r:=by first | (rw [hy566];with_reducible exact H) | (have H2_:=(Option.bind_some _ _).symm.trans H;rw [hy566];with_reducible exact H2_) | (have H2_:=(Option.bind_some _ _).symm.trans H;with_reducible exact H2_) | with_reducible exact H | (rw [hy566];exact H) | exact H
        have Ny566:=Aside0.mk hy566;clear hy566;have H':=Aside0.mk H;clear H;have p561 : 0 ≤ (x9_1 : Int):=of_decide_eq_true (by first | (with_reducible assumption) | assumption);have q561 : x9_1 < (l0_0.length : Int):=of_decide_eq_true (by first | (with_reducible assumption) | assumption);obtain ⟨ad561,A561_2,c561_2,e561,hx561_0,hx561_1,hx561_2,hl561_2,hi561_2⟩:=at_T112 HR0_0.out x9_1 p561 q561;cases e561;replace hx561_0:=(HB.out.cell (World.block_lt_of_cell? w _ hx561_0)).trans hx561_0;replace hx561_1:=(HB.out.cell (World.block_lt_of_cell? w _ hx561_1)).trans hx561_1;replace hx561_2:=(HB.out.cell (World.block_lt_of_cell? w _ hx561_2)).trans hx561_2;have HR561_2:=Aside0.mk hi561_2;have HC561_2:=Aside0.mk hl561_2;clear hi561_2 hl561_2;replace p561:=eq_true p561;replace q561:=eq_true q561;go_wp2_with (first | ((with_reducible refine gate_dst (N:=5) rfl ?_);refine box_event ?hg (N:=5) ?hd (cs:=#[.bool false,.int .i64 0,.slice none 0 0]) (t:=112) ?hr ?_;(case hd=>rfl);(case hg=>rfl);(case hr=>first | (go_simp;done) | (go_simp;rfl));intro gb562 hg w13 hbox hb;have n0_:=Aside0.mk (Kd.S_below (Kd.S_elderB (ss HO_561000) gb562 (Nat.le_of_eq hg.symm)) hb);have n1_:=Aside0.mk (blk_below (g:=gb558) (o:=.cells #[.slice (some ad561) l0_0.length c0_0] 59 (0,0)) (bs BK558) hb);have n2_:=Aside0.mk (blk_below (g:=gb559) (o:=.cells #[.slice none 0 0] 59 (0,0)) (bs BK559) hb);have n3_:=Aside0.mk (blk_below (g:=gb560) (o:=.cells #[u561000] 59 (0,0)) (bs BK560) hb);have n4_:=Aside0.mk (below_step (hs3 HB GE558 GE559 GE560) hb);have n5_:=Aside0.mk (hbox);have n6_:=Aside0.mk ((by rw [hg];exact (below_size (hs3 HB GE558 GE559 GE560)) : w.heap.size ≤ gb562));have n7_:=Aside0.mk ((by rw [hg];exact (below_size (hs3 HB GE558 GE559 GE560)) : w.heap.size ≤ gb562));have n8_:=Aside0.mk ((by rw [hg];exact Nat.ne_of_lt (blk_lt (g:=gb558) (o:=.cells #[.slice (some ad561) l0_0.length c0_0] 59 (0,0)) (bs BK558)) : gb558 ≠ gb562));have n9_:=Aside0.mk ((by rw [hg];exact Nat.ne_of_gt (blk_lt (g:=gb558) (o:=.cells #[.slice (some ad561) l0_0.length c0_0] 59 (0,0)) (bs BK558)) : gb562 ≠ gb558));have n10_:=Aside0.mk ((by rw [hg];exact Nat.ne_of_lt (blk_lt (g:=gb559) (o:=.cells #[.slice none 0 0] 59 (0,0)) (bs BK559)) : gb559 ≠ gb562));have n11_:=Aside0.mk ((by rw [hg];exact Nat.ne_of_gt (blk_lt (g:=gb559) (o:=.cells #[.slice none 0 0] 59 (0,0)) (bs BK559)) : gb562 ≠ gb559));have n12_:=Aside0.mk ((by rw [hg];exact Nat.ne_of_lt (blk_lt (g:=gb560) (o:=.cells #[u561000] 59 (0,0)) (bs BK560)) : gb560 ≠ gb562));have n13_:=Aside0.mk ((by rw [hg];exact Nat.ne_of_gt (blk_lt (g:=gb560) (o:=.cells #[u561000] 59 (0,0)) (bs BK560)) : gb562 ≠ gb560));clear HO_561000;clear BK558;clear BK559;clear BK560;clear HB;have HO_561000:=n0_;have BK558:=n1_;have BK559:=n2_;have BK560:=n3_;have HB:=n4_;have BK562:=n5_;have GW562:=n6_;have GE562:=n7_;have NB558_562:=n8_;have NB562_558:=n9_;have NB559_562:=n10_;have NB562_559:=n11_;have NB560_562:=n12_;have NB562_560:=n13_;clear n0_ n1_ n2_ n3_ n4_ n5_ n6_ n7_ n8_ n9_ n10_ n11_ n12_ n13_;clear hb hbox hg;have hnb14:=NB562_558.out;have hnc14:=NB558_562.out;have hnb15:=NB562_559.out;have hnc15:=NB559_562.out;have hnb16:=NB562_560.out;have hnc16:=NB560_562.out;have hcz17_0 : w13.cell? ⟨gb562,0,none⟩ = some (.bool false):=(blk_cell BK562.out 0).trans rfl;have hcz17_1 : w13.cell? ⟨gb562,1,none⟩ = some (.int .i64 0):=(blk_cell BK562.out 1).trans rfl;have hcz17_2 : w13.cell? ⟨gb562,2,none⟩ = some (.slice none 0 0):=(blk_cell BK562.out 2).trans rfl;have hfz17_0:=blk_frozen BK562.out 0;have hfz17_1:=blk_frozen BK562.out 1;have hfz17_2:=blk_frozen BK562.out 2) | ((with_reducible refine gate_builtin (b:=.append) (xs:=#[(.const (.slice none 0 0)),.tmp 14]) rfl ?_);at_builtin;refine Kd.R_append_rows k114 (w0:=w) w.heap.size rfl (.const (.slice none 0 0)) (.tmp 14) 110 114 (.agg #[(.int .i64 0),(.string ⟨#[]⟩)]) 24 rfl Try.underlying110 info114 rfl (by decide) (by omega) (.slice none 0 0) ([] : List (S114)) ((rd_T112 l0_0 x9_1).f2) _ _ _ (fun _=>True) (fun _=>False) rfl rfl ?aO ?aR (fun _ _ h=>h) (fun _ h=>h.elim) ?aF ?aB ?aS ?aL ?_;(case aR=>exact Kd.C_below HR561_2.out (hs4 HB GE558 GE559 GE560 GE562));(case aB=>exact (hs4 HB GE558 GE559 GE560 GE562));(case aF=>exact (fun _ _=>trivial));(case aO=>exact ((Kd.R_nil _ _ _ _ (fun _=>True))));(case aS=>exact (below_size (hs4 HB GE558 GE559 GE560 GE562)));(case aL=>have:=LMc11.out;omega);intro v564 w18 ho hb hg hat;rw [← Ny563.out] at ho;have n0_:=Aside0.mk (Kd.S_after (Kd.S_apart_nil (by (with_reducible repeat (first | apply Kd.S_alloc | apply Kd.S_drewN | apply Kd.S_drew));exact (Kd.S_mono (Kd.S_far (p:=⟨gb562,2,none⟩) (Kd.S_far (p:=⟨gb562,1,none⟩) (Kd.S_far (p:=⟨gb562,0,none⟩) (Kd.S_mono HO_561000.out (fun k_ hk=>(⟨hk,hk.2⟩ : _ ∧ k_ ≠ gb562))) (fun _ hk=>hk.2) (.bool ((rd_T112 l0_0 x9_1).f0))) (fun _ hk=>hk.2) (.int .i64 ((rd_T112 l0_0 x9_1).f1))) (fun _ hk=>hk.2) (.slice A561_2 ((rd_T112 l0_0 x9_1).f2).length c561_2)) (fun _ h_=>h_.1)))) hg hat);have n1_:=Aside0.mk (blk_grown (g:=gb558) (o:=.cells #[.slice (some ad561) l0_0.length c0_0] 59 (0,0)) (by (with_reducible repeat (first | refine blk_drewN ?_ _ | refine blk_drew ?_ | refine blk_alloc ?_ _));refine blk_far ?_ NB558_562.out _;(with_reducible repeat (first | refine blk_drewN ?_ _ | refine blk_drew ?_ | refine blk_alloc ?_ _));refine blk_far ?_ NB558_562.out _;(with_reducible repeat (first | refine blk_drewN ?_ _ | refine blk_drew ?_ | refine blk_alloc ?_ _));refine blk_far ?_ NB558_562.out _;(with_reducible repeat (first | refine blk_drewN ?_ _ | refine blk_drew ?_ | refine blk_alloc ?_ _));exact BK558.out) hg (by simp [Value.ownBlock]));have n2_:=Aside0.mk (blk_grown (g:=gb559) (o:=.cells #[.slice none 0 0] 59 (0,0)) (by (with_reducible repeat (first | refine blk_drewN ?_ _ | refine blk_drew ?_ | refine blk_alloc ?_ _));refine blk_far ?_ NB559_562.out _;(with_reducible repeat (first | refine blk_drewN ?_ _ | refine blk_drew ?_ | refine blk_alloc ?_ _));refine blk_far ?_ NB559_562.out _;(with_reducible repeat (first | refine blk_drewN ?_ _ | refine blk_drew ?_ | refine blk_alloc ?_ _));refine blk_far ?_ NB559_562.out _;(with_reducible repeat (first | refine blk_drewN ?_ _ | refine blk_drew ?_ | refine blk_alloc ?_ _));exact BK559.out) hg (by simp [Value.ownBlock]));have n3_:=Aside0.mk (blk_grown (g:=gb560) (o:=.cells #[u561000] 59 (0,0)) (by (with_reducible repeat (first | refine blk_drewN ?_ _ | refine blk_drew ?_ | refine blk_alloc ?_ _));refine blk_far ?_ NB560_562.out _;(with_reducible repeat (first | refine blk_drewN ?_ _ | refine blk_drew ?_ | refine blk_alloc ?_ _));refine blk_far ?_ NB560_562.out _;(with_reducible repeat (first | refine blk_drewN ?_ _ | refine blk_drew ?_ | refine blk_alloc ?_ _));refine blk_far ?_ NB560_562.out _;(with_reducible repeat (first | refine blk_drewN ?_ _ | refine blk_drew ?_ | refine blk_alloc ?_ _));exact BK560.out) hg (by simp [Value.ownBlock]));have n4_:=Aside0.mk (blk_grown (g:=gb562) (o:=.cells #[.bool ((rd_T112 l0_0 x9_1).f0),.int .i64 ((rd_T112 l0_0 x9_1).f1),.slice A561_2 ((rd_T112 l0_0 x9_1).f2).length c561_2] 112 (0,0)) (by (with_reducible repeat (first | refine blk_drewN ?_ _ | refine blk_drew ?_ | refine blk_alloc ?_ _));refine blk_put (cs:=#[.bool ((rd_T112 l0_0 x9_1).f0),.int .i64 ((rd_T112 l0_0 x9_1).f1),.slice none 0 0]) ?_ 2 _ rfl;(with_reducible repeat (first | refine blk_drewN ?_ _ | refine blk_drew ?_ | refine blk_alloc ?_ _));refine blk_put (cs:=#[.bool ((rd_T112 l0_0 x9_1).f0),.int .i64 0,.slice none 0 0]) ?_ 1 _ rfl;(with_reducible repeat (first | refine blk_drewN ?_ _ | refine blk_drew ?_ | refine blk_alloc ?_ _));refine blk_put (cs:=#[.bool false,.int .i64 0,.slice none 0 0]) ?_ 0 _ rfl;(with_reducible repeat (first | refine blk_drewN ?_ _ | refine blk_drew ?_ | refine blk_alloc ?_ _));exact BK562.out) hg (by simp [Value.ownBlock]));have n5_:=Aside0.mk (hb);have n6_:=Aside0.mk (ho);clear HO_561000;clear BK558;clear BK559;clear BK560;clear BK562;clear HB;have HO_561000:=n0_;have BK558:=n1_;have BK559:=n2_;have BK560:=n3_;have BK562:=n4_;have HB:=n5_;have HO565:=n6_;clear n0_ n1_ n2_ n3_ n4_ n5_ n6_;clear ho hb hg hat;obtain ⟨Ao19,co19,eo19⟩:=Kd.R_slice HO565.out;subst eo19;have hcz20_0 : w18.cell? ⟨gb562,0,none⟩ = some (.bool ((rd_T112 l0_0 x9_1).f0)):=(blk_cell BK562.out 0).trans rfl;have hcz20_1 : w18.cell? ⟨gb562,1,none⟩ = some (.int .i64 ((rd_T112 l0_0 x9_1).f1)):=(blk_cell BK562.out 1).trans rfl;have hcz20_2 : w18.cell? ⟨gb562,2,none⟩ = some (.slice A561_2 ((rd_T112 l0_0 x9_1).f2).length c561_2):=(blk_cell BK562.out 2).trans rfl;have hfz20_0:=blk_frozen BK562.out 0;have hfz20_1:=blk_frozen BK562.out 1;have hfz20_2:=blk_frozen BK562.out 2) | ((with_reducible refine gate_store (t:=110) (p:=16) rfl ?_);refine store_event (t:=110) (p:=16) (v:=?vo_w21) (w1:=(w18.setCell ⟨gb562,2,none⟩ (.slice Ao19 y563.length co19))) ?hg ?ho ?hn ?hr ?_;(case ho=>rfl);(case hg=>rfl);(case hn=>rfl);(case hr=>first | (go_simp;done) | (go_simp;rfl));intro w21 hw;have n0_ : Aside0 (Kd.S k112 112 w21 w.heap.size (fun k_=>some k_ ≠ (.slice Ao19 y563.length co19 : Value).ownBlock ∧ k_ ≠ gb562) u561000 x561000_1):=⟨(by rw [hw];exact (by (with_reducible repeat (first | apply Kd.S_alloc | apply Kd.S_drewN | apply Kd.S_drew));exact Kd.S_mono (Kd.S_far (p:=⟨gb562,2,none⟩) (Kd.S_mono HO_561000.out (fun k_ hk=>(⟨hk,hk.1.2⟩ : _ ∧ k_ ≠ gb562))) (fun _ hk=>hk.2) (.slice Ao19 y563.length co19)) (fun _ hk=>⟨hk.1.2,hk.1.1.2⟩)))⟩;have n1_ : Aside0 (Kd.R k114 114 w21 w.heap.size (fun _=>True) (.slice Ao19 y563.length co19) y563):=⟨(by rw [hw];exact (by (with_reducible repeat (first | apply Kd.R_alloc | apply Kd.R_drewN | apply Kd.R_drew));exact Kd.R_mono (Kd.R_far (p:=⟨gb562,2,none⟩) (Kd.R_types HO565.out BK562.out (by decide)) (fun _ hk=>hk.2) (.slice Ao19 y563.length co19)) (fun _ hk=>trivial)))⟩;have n2_ : Aside0 (w21.heap[gb558]? = some (.cells #[.slice (some ad561) l0_0.length c0_0] 59 (0,0))):=⟨(by rw [hw];exact (by (with_reducible repeat (first | refine blk_drewN ?_ _ | refine blk_drew ?_ | refine blk_alloc ?_ _));refine blk_far ?_ NB558_562.out _;(with_reducible repeat (first | refine blk_drewN ?_ _ | refine blk_drew ?_ | refine blk_alloc ?_ _));exact BK558.out))⟩;have n3_ : Aside0 (w21.heap[gb559]? = some (.cells #[.slice none 0 0] 59 (0,0))):=⟨(by rw [hw];exact (by (with_reducible repeat (first | refine blk_drewN ?_ _ | refine blk_drew ?_ | refine blk_alloc ?_ _));refine blk_far ?_ NB559_562.out _;(with_reducible repeat (first | refine blk_drewN ?_ _ | refine blk_drew ?_ | refine blk_alloc ?_ _));exact BK559.out))⟩;have n4_ : Aside0 (w21.heap[gb560]? = some (.cells #[u561000] 59 (0,0))):=⟨(by rw [hw];exact (by (with_reducible repeat (first | refine blk_drewN ?_ _ | refine blk_drew ?_ | refine blk_alloc ?_ _));refine blk_far ?_ NB560_562.out _;(with_reducible repeat (first | refine blk_drewN ?_ _ | refine blk_drew ?_ | refine blk_alloc ?_ _));exact BK560.out))⟩;have n5_ : Aside0 (w21.heap[gb562]? = some (.cells #[.bool ((rd_T112 l0_0 x9_1).f0),.int .i64 ((rd_T112 l0_0 x9_1).f1),.slice Ao19 y563.length co19] 112 (0,0))):=⟨(by rw [hw];exact (by (with_reducible repeat (first | refine blk_drewN ?_ _ | refine blk_drew ?_ | refine blk_alloc ?_ _));refine blk_put (cs:=#[.bool ((rd_T112 l0_0 x9_1).f0),.int .i64 ((rd_T112 l0_0 x9_1).f1),.slice A561_2 ((rd_T112 l0_0 x9_1).f2).length c561_2]) ?_ 2 _ rfl;(with_reducible repeat (first | refine blk_drewN ?_ _ | refine blk_drew ?_ | refine blk_alloc ?_ _));exact BK562.out))⟩;have n6_ : Aside0 (Below w.heap.size w w21):=⟨(by rw [hw];exact (hs4 HB GE558 GE559 GE560 GE562))⟩;clear hw;clear HO_561000;clear HO565;clear BK558;clear BK559;clear BK560;clear BK562;clear HB;have HO_561000:=n0_;have HO565:=n1_;have BK558:=n2_;have BK559:=n3_;have BK560:=n4_;have BK562:=n5_;have HB:=n6_;clear n0_ n1_ n2_ n3_ n4_ n5_ n6_;have hnb22:=NB560_558.out;have hnc22:=NB558_560.out;have hnb23:=NB560_559.out;have hnc23:=NB559_560.out;have hcz24_0 : w21.cell? ⟨gb560,0,none⟩ = some (u561000):=(blk_cell BK560.out 0).trans rfl;have hfz24_0:=blk_frozen BK560.out 0;have hcz25_0 : w21.cell? ⟨gb562,0,none⟩ = some (.bool ((rd_T112 l0_0 x9_1).f0)):=(blk_cell BK562.out 0).trans rfl;have hcz25_1 : w21.cell? ⟨gb562,1,none⟩ = some (.int .i64 ((rd_T112 l0_0 x9_1).f1)):=(blk_cell BK562.out 1).trans rfl;have hcz25_2 : w21.cell? ⟨gb562,2,none⟩ = some (.slice Ao19 y563.length co19):=(blk_cell BK562.out 2).trans rfl;have hfz25_0:=blk_frozen BK562.out 0;have hfz25_1:=blk_frozen BK562.out 1;have hfz25_2:=blk_frozen BK562.out 2) | ((with_reducible refine gate_builtin (b:=.append) (xs:=#[.tmp 18,.tmp 20]) rfl ?_);at_builtin;refine Kd.S_append k112 (w0:=w) w.heap.size rfl (.tmp 18) (.tmp 20) 57 112 (.agg #[(.bool false),(.int .i64 0),(.slice none 0 0)]) 40 rfl Try.underlying57 info112 rfl (by decide) (by omega) u561000 x561000_1 (⟨(rd_T112 l0_0 x9_1).f0,(rd_T112 l0_0 x9_1).f1,y563⟩ : S112) [.bool ((rd_T112 l0_0 x9_1).f0),.int .i64 ((rd_T112 l0_0 x9_1).f1),.slice Ao19 y563.length co19] (fun k_=>k_ ≠ gb562) (fun k_=>some k_ = (.slice Ao19 y563.length co19 : Value).ownBlock) rfl rfl ?aP (fun k_ hk_=>((Kd.R_mono (ok':=fun k_=>((fun k_=>k_ ≠ gb562)) k_ ∧ some k_ ≠ (u561000 : Value).ownBlock) (Kd.R_types (Kd.R_apart' (HO565.out) (Kd.S_typed HO_561000.out) (by decide)) BK562.out (by decide)) (fun k_ hk=>⟨hk.2,hk.1.2⟩))).1 k_ hk_.symm) ?aF ?aO ?aB ?aS ?aL ?_;(case aP=>exact k112_mkM _ _ _ (⟨(rd_T112 l0_0 x9_1).f0,(rd_T112 l0_0 x9_1).f1,y563⟩ : S112) (Kd.R_mono (Kd.R_tight rfl (Kd.R_mono (ok':=fun k_=>((fun k_=>k_ ≠ gb562)) k_ ∧ some k_ ≠ (u561000 : Value).ownBlock) (Kd.R_types (Kd.R_apart' (HO565.out) (Kd.S_typed HO_561000.out) (by decide)) BK562.out (by decide)) (fun k_ hk=>⟨hk.2,hk.1.2⟩))) (fun _ h_=>h_)));(case aB=>exact (hs4 HB GE558 GE559 GE560 GE562));(case aF=>exact (fun k_ hk=>Kd.freshB (g:=gb562) (o:=.cells #[.bool ((rd_T112 l0_0 x9_1).f0),.int .i64 ((rd_T112 l0_0 x9_1).f1),.slice Ao19 y563.length co19] 112 (0,0)) (bs BK562) k_ hk));(case aO=>exact (by (with_reducible repeat (first | apply Kd.S_alloc | apply Kd.S_drewN | apply Kd.S_drew));exact Kd.S_mono HO_561000.out (fun k_ hk=>⟨hk.2,fun e_=>hk.1 e_⟩)));(case aS=>exact (below_size (hs4 HB GE558 GE559 GE560 GE562)));(case aL=>have:=LMc12.out;omega);intro v567 w26 ho hb hg hat;rw [← Ny566.out] at ho;have n0_:=Aside0.mk (blk_grown (g:=gb558) (o:=.cells #[.slice (some ad561) l0_0.length c0_0] 59 (0,0)) (bs BK558) hg (Kd.S_ne HO_561000.out BK558.out (by decide)));have n1_:=Aside0.mk (blk_grown (g:=gb559) (o:=.cells #[.slice none 0 0] 59 (0,0)) (bs BK559) hg (Kd.S_ne HO_561000.out BK559.out (by decide)));have n2_:=Aside0.mk (blk_grown (g:=gb560) (o:=.cells #[u561000] 59 (0,0)) (bs BK560) hg (Kd.S_ne HO_561000.out BK560.out (by decide)));have n3_:=Aside0.mk (blk_grown (g:=gb562) (o:=.cells #[.bool ((rd_T112 l0_0 x9_1).f0),.int .i64 ((rd_T112 l0_0 x9_1).f1),.slice Ao19 y563.length co19] 112 (0,0)) (bs BK562) hg (Kd.S_away HO_561000.out (fun _ hk=>hk.2)));have n4_:=Aside0.mk (hb);have n5_:=Aside0.mk (ho);clear BK558;clear BK559;clear BK560;clear BK562;clear HB;clear HO_561000;clear HO565;have BK558:=n0_;have BK559:=n1_;have BK560:=n2_;have BK562:=n3_;have HB:=n4_;have HO568:=n5_;clear n0_ n1_ n2_ n3_ n4_ n5_;clear ho hb hg hat;obtain ⟨Ao27,co27,eo27⟩:=Kd.S_slice HO568.out;subst eo27;have hcz28_0 : w26.cell? ⟨gb560,0,none⟩ = some (u561000):=(blk_cell BK560.out 0).trans rfl;have hfz28_0:=blk_frozen BK560.out 0));go_roundg k1;case measure=>have:=HK1.out;omega
        case rel=>exact ⟨(wrap64 (x9_1 + 1)),(y566),(.slice Ao27 y566.length co27),(by first | rfl | (simp;done) | (simp [*];done)),H',⟨by have:=HK1.out;omega⟩,⟨by (with_reducible repeat (first | apply Kd.S_alloc | apply Kd.S_drewN | apply Kd.S_drew));exact Kd.S_mono (Kd.S_far (p:=⟨gb560,0,none⟩) (Kd.S_types HO568.out BK560.out (by decide)) (fun _ hk=>hk.2) (.slice Ao27 y566.length co27)) (fun _ hk=>trivial)⟩,⟨by (with_reducible repeat (first | refine blk_drewN ?_ _ | refine blk_drew ?_ | refine blk_alloc ?_ _));refine blk_far ?_ NB558_560.out _;(with_reducible repeat (first | refine blk_drewN ?_ _ | refine blk_drew ?_ | refine blk_alloc ?_ _));exact BK558.out⟩,⟨by (with_reducible repeat (first | refine blk_drewN ?_ _ | refine blk_drew ?_ | refine blk_alloc ?_ _));refine blk_far ?_ NB559_560.out _;(with_reducible repeat (first | refine blk_drewN ?_ _ | refine blk_drew ?_ | refine blk_alloc ?_ _));exact BK559.out⟩,⟨by (with_reducible repeat (first | refine blk_drewN ?_ _ | refine blk_drew ?_ | refine blk_alloc ?_ _));refine blk_put (cs:=#[u561000]) ?_ 0 _ rfl;(with_reducible repeat (first | refine blk_drewN ?_ _ | refine blk_drew ?_ | refine blk_alloc ?_ _));exact BK560.out⟩,⟨hs4 HB GE558 GE559 GE560 GE562⟩⟩
       rw [if_neg c12] at H;exact absurd H (by simp)
      rw [if_neg c11] at H;exact absurd H (by simp)
     rw [if_neg c10] at H;exact absurd H (by simp)
    rw [if_neg c9] at H;exact absurd H (by simp)
   rw [if_neg c8] at H;have c8b0 : decide (x9_1 < (l0_0.length : Int)) = false:=decide_eq_false c8;clear c8;obtain rfl:=Option.some.inj H;have hnb29:=NB560_558.out;have hnc29:=NB558_560.out;have hnb30:=NB560_559.out;have hnc30:=NB559_560.out;have hcz31_0 : wr.cell? ⟨gb560,0,none⟩ = some (u561000):=(blk_cell BK560.out 0).trans rfl;have hfz31_0:=blk_frozen BK560.out 0;obtain ⟨Ao32,co32,eo32⟩:=Kd.S_slice HO_561000.out;subst eo32;have hnb33:=NB559_558.out;have hnc33:=NB558_559.out;have hcz34_0 : wr.cell? ⟨gb559,0,none⟩ = some (.slice none 0 0):=(blk_cell BK559.out 0).trans rfl;have hfz34_0:=blk_frozen BK559.out 0
   go_wp2
   refine bodyPost_ret (results_cell_row rfl _ _ gb559 59 #[.slice Ao32 x561000_1.length co32] (0,0) _ rfl (by (with_reducible repeat (first | refine blk_drewN ?_ _ | refine blk_drew ?_ | refine blk_alloc ?_ _));refine blk_put (cs:=#[.slice none 0 0]) ?_ 0 _ rfl;(with_reducible repeat (first | refine blk_drewN ?_ _ | refine blk_drew ?_ | refine blk_alloc ?_ _));exact BK559.out) Try.underlying59 rfl (by kernel_rfl)) rfl ?_;exact ⟨_,by first | rfl | (simp [errW_none,errW_some] <;> rfl) | (simp [*,errW_none,errW_some] <;> rfl),by (with_reducible repeat (first | apply Kd.S_alloc | apply Kd.S_drewN | apply Kd.S_drew));exact Kd.S_mono (Kd.S_far (p:=⟨gb559,0,none⟩) (Kd.S_types HO_561000.out BK559.out (by decide)) (fun _ hk=>hk.2) (.slice Ao32 x561000_1.length co32)) (fun _ hk=>trivial),hs3 HB GE558 GE559 GE560⟩
end Go.Proofs.Ytijbejiajaiciaa.PC

namespace Go.Proofs.Ytijbejiajaiciaa.PC
open Go.RowKit Go.Proofs.YtijbejiajaiciaaW.PrintWords Go.Proofs.YtijbejiajaiciaaW.PrintLast Go.Proofs.YtijbejiajaiciaaW.PrintMore
attribute [local go_sem] max2_int min2_int max_two min_two max_three min_three max_four min_four   -- for this text's walks alone
set_option linter.unusedVariables false
set_option linter.unusedSimpArgs false
def impl_in.f (a0 : Int) (a1 : Int) (a2 : Int) : Option (Bool):=if a0 ≥ a1 then (some (decide (a0 ≤ a2))) else (some false)
set_option maxHeartbeats 8000000 in
set_option maxRecDepth 100000 in
theorem impl_in.calls (a0 : Int) (a1 : Int) (a2 : Int) (r : Bool) (w : World) (h : impl_in.f a0 a1 a2 = some r) :
  Calls Try.prog 96 #[.int .i64 a0,.int .i64 a1,.int .i64 a2] w fun e w'=>e = .returned (.bool r) ∧ Drawn0 w w':=by
 have H : (if a0 ≥ a1 then (some (decide (a0 ≤ a2))) else (some false)) = some r:=h;clear h
 by_cases c4 : a0 ≥ a1
 ·rw [if_pos c4] at H;have c4b0 : decide (a1 ≤ a0) = true:=decide_eq_true c4;clear c4;obtain rfl:=Option.some.inj H
  go_enter Try.func96,Try.ntmps96
  go_wp2
  go_ret
  exact ⟨by first | rfl | (simp;done) | (simp [*];done),by repeat (first | exact Drawn0.refl _ | apply Drawn0.step)⟩
 rw [if_neg c4] at H;have c4b0 : decide (a1 ≤ a0) = false:=decide_eq_false c4;clear c4;obtain rfl:=Option.some.inj H
 go_enter Try.func96,Try.ntmps96
 go_wp2
 go_ret
 exact ⟨by first | rfl | (simp;done) | (simp [*];done),by repeat (first | exact Drawn0.refl _ | apply Drawn0.step)⟩
end Go.Proofs.Ytijbejiajaiciaa.PC

namespace Go.Proofs.Ytijbejiajaiciaa.PC
open Go.RowKit Go.Proofs.YtijbejiajaiciaaW.PrintWords Go.Proofs.YtijbejiajaiciaaW.PrintLast Go.Proofs.YtijbejiajaiciaaW.PrintMore
attribute [local go_sem] max2_int min2_int max_two min_two max_three min_three max_four min_four   -- for this text's walks alone
set_option linter.unusedVariables false
set_option linter.unusedSimpArgs false
def impl_leafOk.f (a0_0 : Int) (a0_1 : ByteArray) : Option (Bool):=if a0_0 = 0 then (some (a0_1.toList == ([] : List UInt8))) else (if a0_0 = 1 then ((impl_in.f (a0_1.size : Int) 1 120).bind fun t570=>(some t570)) else (if a0_0 = 2 then (some (decide ((a0_1.size : Int) ≤ 120))) else (some false)))
set_option maxHeartbeats 8000000 in
set_option maxRecDepth 100000 in
theorem impl_leafOk.calls (a0_0 : Int) (a0_1 : ByteArray) (r : Bool) (w : World) (h : impl_leafOk.f a0_0 a0_1 = some r) :
  Calls Try.prog 124 #[.agg #[.int .i64 a0_0,.string a0_1]] w fun e w'=>e = .returned (.bool r) ∧ Below w.heap.size w w':=by
 have hu114:=Try.underlying114;have HB:=Aside0.mk (Below.refl w.heap.size w);have H : (if a0_0 = 0 then (some (a0_1.toList == ([] : List UInt8))) else (if a0_0 = 1 then ((impl_in.f (a0_1.size : Int) 1 120).bind fun t570=>(some t570)) else (if a0_0 = 2 then (some (decide ((a0_1.size : Int) ≤ 120))) else (some false)))) = some r:=h;clear h
 by_cases c2 : a0_0 = 0
 ·rw [if_pos c2] at H;have c2b0 : (a0_0 == 0) = true:=beq_iff_eq.mpr c2;have c2b1 : (a0_0 != 0) = false:=bne_eq_false_iff_eq.mpr c2;clear c2;obtain rfl:=Option.some.inj H
  go_enter Try.func124,Try.ntmps124
  go_wp2_with (first | ((with_reducible refine gate_dst (N:=1) rfl ?_);(try (refine gate_guard (by rfl) ?_;dsimp only));refine box_event ?hg (N:=1) ?hd (cs:=#[.int .i64 a0_0,.string a0_1]) (t:=114) ?hr ?_;(case hd=>rfl);(case hg=>rfl);(case hr=>first | (go_simp;done) | (go_simp;rfl));intro gb569 hg w3 hbox hb;have n0_:=Aside0.mk (below_step (hs HB) hb);have n1_:=Aside0.mk (hbox);have n2_:=Aside0.mk ((by rw [hg];exact (below_size (hs HB)) : w.heap.size ≤ gb569));have n3_:=Aside0.mk ((by rw [hg];exact (below_size (hs HB)) : w.heap.size ≤ gb569));clear HB;have HB:=n0_;have BK569:=n1_;have GW569:=n2_;have GE569:=n3_;clear n0_ n1_ n2_ n3_;clear hb hbox hg;have hcz4_0 : w3.cell? ⟨gb569,0,none⟩ = some (.int .i64 a0_0):=(blk_cell BK569.out 0).trans rfl;have hcz4_1 : w3.cell? ⟨gb569,1,none⟩ = some (.string a0_1):=(blk_cell BK569.out 1).trans rfl;have hfz4_0:=blk_frozen BK569.out 0;have hfz4_1:=blk_frozen BK569.out 1))
  go_ret
  exact ⟨by first | rfl | (simp [errW_none,errW_some] <;> rfl) | (simp [*,errW_none,errW_some] <;> rfl),hs1 HB GE569⟩
 rw [if_neg c2] at H;have c2b0 : (a0_0 == 0) = false:=beq_eq_false_iff_ne.mpr c2;have c2b1 : (a0_0 != 0) = true:=bne_iff_ne.mpr c2
 by_cases c5 : a0_0 = 1
 ·rw [if_pos c5] at H;have c5b0 : (a0_0 == 1) = true:=beq_iff_eq.mpr c5;have c5b1 : (a0_0 != 1) = false:=bne_eq_false_iff_eq.mpr c5;clear c5;replace H:=Option.bind_eq_some_iff.mp H;obtain ⟨t570,A60,H⟩:=H;replace H : (some t570) = some r:=H;have A6:=Aside0.mk A60;clear A60;obtain rfl:=Option.some.inj H
  go_enter Try.func124,Try.ntmps124
  go_wp2_with (first | ((with_reducible refine gate_dst (N:=1) rfl ?_);(try (refine gate_guard (by rfl) ?_;dsimp only));refine box_event ?hg (N:=1) ?hd (cs:=#[.int .i64 a0_0,.string a0_1]) (t:=114) ?hr ?_;(case hd=>rfl);(case hg=>rfl);(case hr=>first | (go_simp;done) | (go_simp;rfl));intro gb569 hg w7 hbox hb;have n0_:=Aside0.mk (below_step (hs HB) hb);have n1_:=Aside0.mk (hbox);have n2_:=Aside0.mk ((by rw [hg];exact (below_size (hs HB)) : w.heap.size ≤ gb569));have n3_:=Aside0.mk ((by rw [hg];exact (below_size (hs HB)) : w.heap.size ≤ gb569));clear HB;have HB:=n0_;have BK569:=n1_;have GW569:=n2_;have GE569:=n3_;clear n0_ n1_ n2_ n3_;clear hb hbox hg;have hcz8_0 : w7.cell? ⟨gb569,0,none⟩ = some (.int .i64 a0_0):=(blk_cell BK569.out 0).trans rfl;have hcz8_1 : w7.cell? ⟨gb569,1,none⟩ = some (.string a0_1):=(blk_cell BK569.out 1).trans rfl;have hfz8_0:=blk_frozen BK569.out 0;have hfz8_1:=blk_frozen BK569.out 1) | ((with_reducible refine gate_callee (f:=96) rfl ?_);refine goesL_ (some 15) rfl rfl Try.func96 (by kernel_rfl) rfl #[.int .i64 (a0_1.size : Int),.int .i64 1,.int .i64 120] rfl (by (try simp only [List.map_toArray,List.map_cons,List.map_nil]);first | done | rfl | (simp only [List.length_drop,List.length_take];rfl)) ?_;(with_reducible refine (impl_in.calls (a0_1.size : Int) 1 120 t570 _ A6.out).mono ?_);rintro e w' ⟨rfl,⟨nd,rfl⟩⟩;refine ⟨_,rfl,?_⟩))
  go_ret
  exact ⟨by first | rfl | (simp [errW_none,errW_some] <;> rfl) | (simp [*,errW_none,errW_some] <;> rfl),hs1 HB GE569⟩
 rw [if_neg c5] at H;have c5b0 : (a0_0 == 1) = false:=beq_eq_false_iff_ne.mpr c5;have c5b1 : (a0_0 != 1) = true:=bne_iff_ne.mpr c5
 by_cases c9 : a0_0 = 2
 ·rw [if_pos c9] at H;have c9b0 : (a0_0 == 2) = true:=beq_iff_eq.mpr c9;have c9b1 : (a0_0 != 2) = false:=bne_eq_false_iff_eq.mpr c9;clear c9;obtain rfl:=Option.some.inj H
  go_enter Try.func124,Try.ntmps124
  go_wp2_with (first | ((with_reducible refine gate_dst (N:=1) rfl ?_);(try (refine gate_guard (by rfl) ?_;dsimp only));refine box_event ?hg (N:=1) ?hd (cs:=#[.int .i64 a0_0,.string a0_1]) (t:=114) ?hr ?_;(case hd=>rfl);(case hg=>rfl);(case hr=>first | (go_simp;done) | (go_simp;rfl));intro gb569 hg w10 hbox hb;have n0_:=Aside0.mk (below_step (hs HB) hb);have n1_:=Aside0.mk (hbox);have n2_:=Aside0.mk ((by rw [hg];exact (below_size (hs HB)) : w.heap.size ≤ gb569));have n3_:=Aside0.mk ((by rw [hg];exact (below_size (hs HB)) : w.heap.size ≤ gb569));clear HB;have HB:=n0_;have BK569:=n1_;have GW569:=n2_;have GE569:=n3_;clear n0_ n1_ n2_ n3_;clear hb hbox hg;have hcz11_0 : w10.cell? ⟨gb569,0,none⟩ = some (.int .i64 a0_0):=(blk_cell BK569.out 0).trans rfl;have hcz11_1 : w10.cell? ⟨gb569,1,none⟩ = some (.string a0_1):=(blk_cell BK569.out 1).trans rfl;have hfz11_0:=blk_frozen BK569.out 0;have hfz11_1:=blk_frozen BK569.out 1))
  go_ret
  exact ⟨by first | rfl | (simp [errW_none,errW_some] <;> rfl) | (simp [*,errW_none,errW_some] <;> rfl),hs1 HB GE569⟩
 rw [if_neg c9] at H;have c9b0 : (a0_0 == 2) = false:=beq_eq_false_iff_ne.mpr c9;have c9b1 : (a0_0 != 2) = true:=bne_iff_ne.mpr c9;obtain rfl:=Option.some.inj H
 go_enter Try.func124,Try.ntmps124
 go_wp2_with (first | ((with_reducible refine gate_dst (N:=1) rfl ?_);(try (refine gate_guard (by rfl) ?_;dsimp only));refine box_event ?hg (N:=1) ?hd (cs:=#[.int .i64 a0_0,.string a0_1]) (t:=114) ?hr ?_;(case hd=>rfl);(case hg=>rfl);(case hr=>first | (go_simp;done) | (go_simp;rfl));intro gb569 hg w12 hbox hb;have n0_:=Aside0.mk (below_step (hs HB) hb);have n1_:=Aside0.mk (hbox);have n2_:=Aside0.mk ((by rw [hg];exact (below_size (hs HB)) : w.heap.size ≤ gb569));have n3_:=Aside0.mk ((by rw [hg];exact (below_size (hs HB)) : w.heap.size ≤ gb569));clear HB;have HB:=n0_;have BK569:=n1_;have GW569:=n2_;have GE569:=n3_;clear n0_ n1_ n2_ n3_;clear hb hbox hg;have hcz13_0 : w12.cell? ⟨gb569,0,none⟩ = some (.int .i64 a0_0):=(blk_cell BK569.out 0).trans rfl;have hcz13_1 : w12.cell? ⟨gb569,1,none⟩ = some (.string a0_1):=(blk_cell BK569.out 1).trans rfl;have hfz13_0:=blk_frozen BK569.out 0;have hfz13_1:=blk_frozen BK569.out 1))
 go_ret
 exact ⟨by first | rfl | (simp [errW_none,errW_some] <;> rfl) | (simp [*,errW_none,errW_some] <;> rfl),hs1 HB GE569⟩
end Go.Proofs.Ytijbejiajaiciaa.PC

namespace Go.Proofs.Ytijbejiajaiciaa.PC
open Go.RowKit Go.Proofs.YtijbejiajaiciaaW.PrintWords Go.Proofs.YtijbejiajaiciaaW.PrintLast Go.Proofs.YtijbejiajaiciaaW.PrintMore
attribute [local go_sem] max2_int min2_int max_two min_two max_three min_three max_four min_four   -- for this text's walks alone
set_option linter.unusedVariables false
set_option linter.unusedSimpArgs false
mutual
def impl_FlashOk.l0 : Nat → List (S112) → Int → Int → List (S112) → Option (Bool)
 | 0,_,_,_,_=>none
 | k + 1,x8,x9,x10,x572000=>if x10 < x9 then (if 0 ≤ x10 then (if x10 < (x8.length : Int) then (if (((rd_T112 x8 x10).f2).length : Int) = 4 then ((impl_in.f ((rd_T112 x8 x10).f1) 0 1000000000).bind fun t575=>(impl_FlashOk.j1 k x8 x9 x10 (!t575) x572000 ((rd_T112 x8 x10).f0) ((rd_T112 x8 x10).f1) ((rd_T112 x8 x10).f2))) else (impl_FlashOk.j1 k x8 x9 x10 true x572000 ((rd_T112 x8 x10).f0) ((rd_T112 x8 x10).f1) ((rd_T112 x8 x10).f2))) else (none)) else (none)) else ((impl_in.f (x572000.length : Int) 3 10).bind fun t572=>(some t572))
def impl_FlashOk.j1 : Nat → List (S112) → Int → Int → Bool → List (S112) → Bool → Int → List (S114) → Option (Bool)
 | 0,_,_,_,_,_,_,_,_=>none
 | k + 1,x8,x9,x10,x23,x572000,x575000,x575001,x575002=>if x23 = true then (some false) else (impl_FlashOk.l1 k x8 x9 x10 x575002 (x575002.length : Int) 0 x572000 x575000 x575001 x575002)
def impl_FlashOk.l1 : Nat → List (S112) → Int → Int → List (S114) → Int → Int → List (S112) → Bool → Int → List (S114) → Option (Bool)
 | 0,_,_,_,_,_,_,_,_,_,_=>none
 | k + 1,x8,x9,x10,x25,x26,x27,x572000,x575000,x575001,x575002=>if x27 < x26 then (if 0 ≤ x27 then (if x27 < (x25.length : Int) then ((impl_leafOk.f ((rd_T114 x25 x27).f0) ((rd_T114 x25 x27).f1)).bind fun t578=>(if t578 = true then (if x27 > 0 then (if 0 ≤ (wrap64 (x27 - 1)) then (if (wrap64 (x27 - 1)) < (x575002.length : Int) then (if ((rd_T114 x575002 (wrap64 (x27 - 1))).f0) = 0 then (if ((rd_T114 x25 x27).f0) = 0 then (impl_FlashOk.l1 k x8 x9 x10 x25 x26 (wrap64 (x27 + 1)) x572000 x575000 x575001 x575002) else (some false)) else (impl_FlashOk.l1 k x8 x9 x10 x25 x26 (wrap64 (x27 + 1)) x572000 x575000 x575001 x575002)) else (none)) else (none)) else (impl_FlashOk.l1 k x8 x9 x10 x25 x26 (wrap64 (x27 + 1)) x572000 x575000 x575001 x575002)) else (some false))) else (none)) else (none)) else (impl_FlashOk.l0 k x8 x9 (wrap64 (x10 + 1)) x572000)
end
def impl_FlashOk.f (k : Nat) (l0_0 : List (S112)) : Option (Bool):=impl_FlashOk.l0 k l0_0 (l0_0.length : Int) 0 l0_0
theorem impl_FlashOk.mono_l : ∀ k,(∀ y0 y1 y2 y3,LeO (impl_FlashOk.l0 k y0 y1 y2 y3) (impl_FlashOk.l0 (k + 1) y0 y1 y2 y3)) ∧ (∀ y0 y1 y2 y3 y4 y5 y6 y7,LeO (impl_FlashOk.j1 k y0 y1 y2 y3 y4 y5 y6 y7) (impl_FlashOk.j1 (k + 1) y0 y1 y2 y3 y4 y5 y6 y7)) ∧ (∀ y0 y1 y2 y3 y4 y5 y6 y7 y8 y9,LeO (impl_FlashOk.l1 k y0 y1 y2 y3 y4 y5 y6 y7 y8 y9) (impl_FlashOk.l1 (k + 1) y0 y1 y2 y3 y4 y5 y6 y7 y8 y9))
 | 0=>⟨fun _ _ _ _ r h=>by simp [impl_FlashOk.l0] at h,fun _ _ _ _ _ _ _ _ r h=>by simp [impl_FlashOk.j1] at h,fun _ _ _ _ _ _ _ _ _ _ r h=>by simp [impl_FlashOk.l1] at h⟩
 | k + 1=>by
  obtain ⟨ih0,ih1,ih2⟩:=impl_FlashOk.mono_l k;refine ⟨?_,?_,?_⟩
  ·intro y0 y1 y2 y3;unfold impl_FlashOk.l0
   repeat' first
   | (with_reducible exact ih0 _ _ _ _)
   | (with_reducible exact ih1 _ _ _ _ _ _ _ _)
   | (with_reducible exact ih2 _ _ _ _ _ _ _ _ _ _)
   | (with_reducible exact LeO.refl _)
   | (with_reducible exact LeO.none _)
   | (with_reducible refine LeO.ite ?_ ?_)
   | (with_reducible refine LeO.bind ?_ (fun _=>?_))
   | exact ih0 _ _ _ _
   | exact ih1 _ _ _ _ _ _ _ _
   | exact ih2 _ _ _ _ _ _ _ _ _ _
   | exact LeO.none _
   | refine LeO.ite ?_ ?_
   | refine LeO.bind ?_ (fun _=>?_)
  ·intro y0 y1 y2 y3 y4 y5 y6 y7;unfold impl_FlashOk.j1
   repeat' first
   | (with_reducible exact ih0 _ _ _ _)
   | (with_reducible exact ih1 _ _ _ _ _ _ _ _)
   | (with_reducible exact ih2 _ _ _ _ _ _ _ _ _ _)
   | (with_reducible exact LeO.refl _)
   | (with_reducible exact LeO.none _)
   | (with_reducible refine LeO.ite ?_ ?_)
   | (with_reducible refine LeO.bind ?_ (fun _=>?_))
   | exact ih0 _ _ _ _
   | exact ih1 _ _ _ _ _ _ _ _
   | exact ih2 _ _ _ _ _ _ _ _ _ _
   | exact LeO.none _
   | refine LeO.ite ?_ ?_
   | refine LeO.bind ?_ (fun _=>?_)
  intro y0 y1 y2 y3 y4 y5 y6 y7 y8 y9;unfold impl_FlashOk.l1
  repeat' first
  | (with_reducible exact ih0 _ _ _ _)
  | (with_reducible exact ih1 _ _ _ _ _ _ _ _)
  | (with_reducible exact ih2 _ _ _ _ _ _ _ _ _ _)
  | (with_reducible exact LeO.refl _)
  | (with_reducible exact LeO.none _)
  | (with_reducible refine LeO.ite ?_ ?_)
  | (with_reducible refine LeO.bind ?_ (fun _=>?_))
  | exact ih0 _ _ _ _
  | exact ih1 _ _ _ _ _ _ _ _
  | exact ih2 _ _ _ _ _ _ _ _ _ _
  | exact LeO.none _
  | refine LeO.ite ?_ ?_
  | refine LeO.bind ?_ (fun _=>?_)
theorem impl_FlashOk.mono : ∀ a0 k,LeO (impl_FlashOk.f k a0) (impl_FlashOk.f (k + 1) a0):=by
 intro a0 k;obtain ⟨ih0,ih1,ih2⟩:=impl_FlashOk.mono_l k;unfold impl_FlashOk.f
 repeat' first
   | (with_reducible exact ih0 _ _ _ _)
   | (with_reducible exact ih1 _ _ _ _ _ _ _ _)
   | (with_reducible exact ih2 _ _ _ _ _ _ _ _ _ _)
   | (with_reducible exact LeO.refl _)
   | (with_reducible exact LeO.none _)
   | (with_reducible refine LeO.ite ?_ ?_)
   | (with_reducible refine LeO.bind ?_ (fun _=>?_))
   | exact ih0 _ _ _ _
   | exact ih1 _ _ _ _ _ _ _ _
   | exact ih2 _ _ _ _ _ _ _ _ _ _
   | exact LeO.none _
   | refine LeO.ite ?_ ?_
   | refine LeO.bind ?_ (fun _=>?_)
set_option maxHeartbeats 8000000 in
set_option maxRecDepth 100000 in
theorem impl_FlashOk.calls (k : Nat) (A0_0 : Option Addr) (c0_0 : Nat) (l0_0 : List (S112)) (r : Bool) (w : World) (hr0_0 : Kd.C k112 w A0_0 l0_0.length l0_0) (hc0_0 : l0_0.length ≤ c0_0) (h : impl_FlashOk.f k l0_0 = some r) :
  Calls Try.prog 120 #[.agg #[.slice A0_0 l0_0.length c0_0]] w fun e w'=>e = .returned (.bool r) ∧ Below w.heap.size w w':=by
 have hu59:=Try.underlying59;have hu112:=Try.underlying112;have hu114:=Try.underlying114;have HR0_0:=Aside0.mk hr0_0;have HC0_0:=Aside0.mk hc0_0;clear hr0_0 hc0_0;have HB:=Aside0.mk (Below.refl w.heap.size w);have H : (impl_FlashOk.l0 k l0_0 (l0_0.length : Int) 0 l0_0) = some r:=h;clear h;have H':=Aside0.mk H;clear H
 go_enter Try.func120,Try.ntmps120
 go_wp2_with (first | ((with_reducible refine gate_dst (N:=1) rfl ?_);refine box_event ?hg (N:=1) ?hd (cs:=#[.slice A0_0 l0_0.length c0_0]) (t:=59) ?hr ?_;(case hd=>rfl);(case hg=>rfl);(case hr=>first | (go_simp;done) | (go_simp;rfl));intro gb571 hg w2 hbox hb;have n0_:=Aside0.mk (below_step (hs HB) hb);have n1_:=Aside0.mk (hbox);have n2_:=Aside0.mk ((by rw [hg];exact (below_size (hs HB)) : w.heap.size ≤ gb571));have n3_:=Aside0.mk ((by rw [hg];exact (below_size (hs HB)) : w.heap.size ≤ gb571));clear HB;have HB:=n0_;have BK571:=n1_;have GW571:=n2_;have GE571:=n3_;clear n0_ n1_ n2_ n3_;clear hb hbox hg;have hcz3_0 : w2.cell? ⟨gb571,0,none⟩ = some (.slice A0_0 l0_0.length c0_0):=(blk_cell BK571.out 0).trans rfl;have hfz3_0:=blk_frozen BK571.out 0));go_loopg [10] k (fun kq v10 w'=>∃ (x10_1 : Int),v10 = .int .i64 x10_1 ∧ Aside0 (impl_FlashOk.l0 kq l0_0 (l0_0.length : Int) x10_1 l0_0 = some r) ∧ Aside0 (kq ≤ k) ∧ Aside0 (w'.heap[gb571]? = some (.cells #[(.slice A0_0 l0_0.length c0_0)] 59 (0,0))) ∧ Aside0 (Below w.heap.size w w'));case atStart=>exact ⟨(0),(by first | rfl | (simp;done) | (simp [*];done)),H',⟨Nat.le_refl _⟩,⟨bs BK571⟩,⟨hs1 HB GE571⟩⟩
 case round =>
  clear H'
  try clear c1
  try clear p2
  try clear hcz3_0
  try clear hfz3_0
  obtain ⟨x10_1,rfl,HA,HK1,BK571,HB⟩:=hrel;cases gk with
  | zero=>exact absurd HA.out (by simp [impl_FlashOk.l0])
  | succ k1 =>
   have H:=HA.out;clear HA;simp only [impl_FlashOk.l0] at H
   by_cases c4 : x10_1 < (l0_0.length : Int)
   ·rw [if_pos c4] at H;have c4b0 : decide (x10_1 < (l0_0.length : Int)) = true:=decide_eq_true c4;clear c4
    by_cases c5 : 0 ≤ x10_1
    ·rw [if_pos c5] at H;have c5b0 : decide (0 ≤ x10_1) = true:=decide_eq_true c5;clear c5
     by_cases c6 : x10_1 < (l0_0.length : Int)
     ·rw [if_pos c6] at H;have c6b0 : decide (x10_1 < (l0_0.length : Int)) = true:=decide_eq_true c6;clear c6;have HC7:=Aside0.mk H;clear H;have p573 : 0 ≤ (x10_1 : Int):=of_decide_eq_true (by first | (with_reducible assumption) | assumption);have q573 : x10_1 < (l0_0.length : Int):=of_decide_eq_true (by first | (with_reducible assumption) | assumption);obtain ⟨ad573,A573_2,c573_2,e573,hx573_0,hx573_1,hx573_2,hl573_2,hi573_2⟩:=at_T112 HR0_0.out x10_1 p573 q573;cases e573;replace hx573_0:=(HB.out.cell (World.block_lt_of_cell? w _ hx573_0)).trans hx573_0;replace hx573_1:=(HB.out.cell (World.block_lt_of_cell? w _ hx573_1)).trans hx573_1;replace hx573_2:=(HB.out.cell (World.block_lt_of_cell? w _ hx573_2)).trans hx573_2;have HR573_2:=Aside0.mk hi573_2;have HC573_2:=Aside0.mk hl573_2;clear hi573_2 hl573_2;replace p573:=eq_true p573;replace q573:=eq_true q573;go_upto_region 4 with (first | ((with_reducible refine gate_dst (N:=4) rfl ?_);refine box_event ?hg (N:=4) ?hd (cs:=#[.bool false,.int .i64 0,.slice none 0 0]) (t:=112) ?hr ?_;(case hd=>rfl);(case hg=>rfl);(case hr=>first | (go_simp;done) | (go_simp;rfl));intro gb574 hg w8 hbox hb;have n0_:=Aside0.mk (blk_below (g:=gb571) (o:=.cells #[.slice (some ad573) l0_0.length c0_0] 59 (0,0)) (bs BK571) hb);have n1_:=Aside0.mk (below_step (hs1 HB GE571) hb);have n2_:=Aside0.mk (hbox);have n3_:=Aside0.mk ((by rw [hg];exact (below_size (hs1 HB GE571)) : w.heap.size ≤ gb574));have n4_:=Aside0.mk ((by rw [hg];exact (below_size (hs1 HB GE571)) : w.heap.size ≤ gb574));have n5_:=Aside0.mk ((by rw [hg];exact Nat.ne_of_lt (blk_lt (g:=gb571) (o:=.cells #[.slice (some ad573) l0_0.length c0_0] 59 (0,0)) (bs BK571)) : gb571 ≠ gb574));have n6_:=Aside0.mk ((by rw [hg];exact Nat.ne_of_gt (blk_lt (g:=gb571) (o:=.cells #[.slice (some ad573) l0_0.length c0_0] 59 (0,0)) (bs BK571)) : gb574 ≠ gb571));clear BK571;clear HB;have BK571:=n0_;have HB:=n1_;have BK574:=n2_;have GW574:=n3_;have GE574:=n4_;have NB571_574:=n5_;have NB574_571:=n6_;clear n0_ n1_ n2_ n3_ n4_ n5_ n6_;clear hb hbox hg;have hnb9:=NB574_571.out;have hnc9:=NB571_574.out;have hcz10_0 : w8.cell? ⟨gb574,0,none⟩ = some (.bool false):=(blk_cell BK574.out 0).trans rfl;have hcz10_1 : w8.cell? ⟨gb574,1,none⟩ = some (.int .i64 0):=(blk_cell BK574.out 1).trans rfl;have hcz10_2 : w8.cell? ⟨gb574,2,none⟩ = some (.slice none 0 0):=(blk_cell BK574.out 2).trans rfl;have hfz10_0:=blk_frozen BK574.out 0;have hfz10_1:=blk_frozen BK574.out 1;have hfz10_2:=blk_frozen BK574.out 2))
      (try simp only [Act.put,List.setIfInBounds_toArray,List.set_cons_zero,List.set_cons_succ])
      go_cut [13,23] (fun v13 v23 wc=>∃ (kq : Nat) (x23_6 : Bool),v23 = .bool x23_6 ∧ Aside0 (impl_FlashOk.j1 kq l0_0 (l0_0.length : Int) x10_1 x23_6 l0_0 ((rd_T112 l0_0 x10_1).f0) ((rd_T112 l0_0 x10_1).f1) ((rd_T112 l0_0 x10_1).f2) = some r) ∧ Aside0 (kq ≤ k1) ∧ Aside0 (wc.heap[gb571]? = some (.cells #[(.slice (some ad573) l0_0.length c0_0)] 59 (0,0))) ∧ Aside0 (wc.heap[gb574]? = some (.cells #[.bool ((rd_T112 l0_0 x10_1).f0),.int .i64 ((rd_T112 l0_0 x10_1).f1),(.slice A573_2 ((rd_T112 l0_0 x10_1).f2).length c573_2)] 112 (0,0))) ∧ Aside0 (Below w.heap.size w wc))
      case first =>
       have H:=HC7.out;clear HC7
       by_cases c11 : (((rd_T112 l0_0 x10_1).f2).length : Int) = 4
       ·rw [if_pos c11] at H;have c11b0 : ((((rd_T112 l0_0 x10_1).f2).length : Int) == 4) = true:=beq_iff_eq.mpr c11;have c11b1 : ((((rd_T112 l0_0 x10_1).f2).length : Int) != 4) = false:=bne_eq_false_iff_eq.mpr c11;clear c11
        (first | rw [c11b0] | (simp only [i64_w,i32_w];rw [c11b0]) | skip)
        replace H:=Option.bind_eq_some_iff.mp H;obtain ⟨t575,A120,H⟩:=H;replace H : (impl_FlashOk.j1 k1 l0_0 (l0_0.length : Int) x10_1 (!t575) l0_0 ((rd_T112 l0_0 x10_1).f0) ((rd_T112 l0_0 x10_1).f1) ((rd_T112 l0_0 x10_1).f2)) = some r:=H;have A12:=Aside0.mk A120;clear A120;have H':=Aside0.mk H;clear H;have hnb13:=NB574_571.out;have hnc13:=NB571_574.out;have hcz14_0 : w8.cell? ⟨gb574,0,none⟩ = some (.bool false):=(blk_cell BK574.out 0).trans rfl;have hcz14_1 : w8.cell? ⟨gb574,1,none⟩ = some (.int .i64 0):=(blk_cell BK574.out 1).trans rfl;have hcz14_2 : w8.cell? ⟨gb574,2,none⟩ = some (.slice none 0 0):=(blk_cell BK574.out 2).trans rfl;have hfz14_0:=blk_frozen BK574.out 0;have hfz14_1:=blk_frozen BK574.out 1;have hfz14_2:=blk_frozen BK574.out 2;go_wp2_with (first | (go_at_call 96;(with_reducible refine (impl_in.calls ((rd_T112 l0_0 x10_1).f1) 0 1000000000 t575 _ A12.out).mono ?_);rintro e w' ⟨rfl,⟨nd,rfl⟩⟩))
        go_meet
        case rel=>exact ⟨_,(!t575),(by first | rfl | (simp;done) | (simp [*];done)),H',⟨by have:=HK1.out;first | omega | exact Nat.le_refl _⟩,⟨by (with_reducible repeat (first | refine blk_drewN ?_ _ | refine blk_drew ?_ | refine blk_alloc ?_ _));refine blk_far ?_ NB571_574.out _;(with_reducible repeat (first | refine blk_drewN ?_ _ | refine blk_drew ?_ | refine blk_alloc ?_ _));refine blk_far ?_ NB571_574.out _;(with_reducible repeat (first | refine blk_drewN ?_ _ | refine blk_drew ?_ | refine blk_alloc ?_ _));refine blk_far ?_ NB571_574.out _;(with_reducible repeat (first | refine blk_drewN ?_ _ | refine blk_drew ?_ | refine blk_alloc ?_ _));exact BK571.out⟩,⟨by (with_reducible repeat (first | refine blk_drewN ?_ _ | refine blk_drew ?_ | refine blk_alloc ?_ _));refine blk_put (cs:=#[.bool ((rd_T112 l0_0 x10_1).f0),.int .i64 ((rd_T112 l0_0 x10_1).f1),.slice none 0 0]) ?_ 2 _ rfl;(with_reducible repeat (first | refine blk_drewN ?_ _ | refine blk_drew ?_ | refine blk_alloc ?_ _));refine blk_put (cs:=#[.bool ((rd_T112 l0_0 x10_1).f0),.int .i64 0,.slice none 0 0]) ?_ 1 _ rfl;(with_reducible repeat (first | refine blk_drewN ?_ _ | refine blk_drew ?_ | refine blk_alloc ?_ _));refine blk_put (cs:=#[.bool false,.int .i64 0,.slice none 0 0]) ?_ 0 _ rfl;(with_reducible repeat (first | refine blk_drewN ?_ _ | refine blk_drew ?_ | refine blk_alloc ?_ _));exact BK574.out⟩,⟨hs2 HB GE571 GE574⟩⟩
       rw [if_neg c11] at H;have c11b0 : ((((rd_T112 l0_0 x10_1).f2).length : Int) == 4) = false:=beq_eq_false_iff_ne.mpr c11;have c11b1 : ((((rd_T112 l0_0 x10_1).f2).length : Int) != 4) = true:=bne_iff_ne.mpr c11
       (first | rw [c11b0] | (simp only [i64_w,i32_w];rw [c11b0]) | skip)
       have H':=Aside0.mk H;clear H;have hnb15:=NB574_571.out;have hnc15:=NB571_574.out;have hcz16_0 : w8.cell? ⟨gb574,0,none⟩ = some (.bool false):=(blk_cell BK574.out 0).trans rfl;have hcz16_1 : w8.cell? ⟨gb574,1,none⟩ = some (.int .i64 0):=(blk_cell BK574.out 1).trans rfl;have hcz16_2 : w8.cell? ⟨gb574,2,none⟩ = some (.slice none 0 0):=(blk_cell BK574.out 2).trans rfl;have hfz16_0:=blk_frozen BK574.out 0;have hfz16_1:=blk_frozen BK574.out 1;have hfz16_2:=blk_frozen BK574.out 2
       go_wp2
       go_meet
       case rel=>exact ⟨_,(true),(by first | rfl | (simp;done) | (simp [*];done)),H',⟨by have:=HK1.out;first | omega | exact Nat.le_refl _⟩,⟨by (with_reducible repeat (first | refine blk_drewN ?_ _ | refine blk_drew ?_ | refine blk_alloc ?_ _));refine blk_far ?_ NB571_574.out _;(with_reducible repeat (first | refine blk_drewN ?_ _ | refine blk_drew ?_ | refine blk_alloc ?_ _));refine blk_far ?_ NB571_574.out _;(with_reducible repeat (first | refine blk_drewN ?_ _ | refine blk_drew ?_ | refine blk_alloc ?_ _));refine blk_far ?_ NB571_574.out _;(with_reducible repeat (first | refine blk_drewN ?_ _ | refine blk_drew ?_ | refine blk_alloc ?_ _));exact BK571.out⟩,⟨by (with_reducible repeat (first | refine blk_drewN ?_ _ | refine blk_drew ?_ | refine blk_alloc ?_ _));refine blk_put (cs:=#[.bool ((rd_T112 l0_0 x10_1).f0),.int .i64 ((rd_T112 l0_0 x10_1).f1),.slice none 0 0]) ?_ 2 _ rfl;(with_reducible repeat (first | refine blk_drewN ?_ _ | refine blk_drew ?_ | refine blk_alloc ?_ _));refine blk_put (cs:=#[.bool ((rd_T112 l0_0 x10_1).f0),.int .i64 0,.slice none 0 0]) ?_ 1 _ rfl;(with_reducible repeat (first | refine blk_drewN ?_ _ | refine blk_drew ?_ | refine blk_alloc ?_ _));refine blk_put (cs:=#[.bool false,.int .i64 0,.slice none 0 0]) ?_ 0 _ rfl;(with_reducible repeat (first | refine blk_drewN ?_ _ | refine blk_drew ?_ | refine blk_alloc ?_ _));exact BK574.out⟩,⟨hs2 HB GE571 GE574⟩⟩
      case rest =>
       clear HC7
       try clear c1
       try clear p2
       try clear c4
       try clear c4b0
       try clear c5
       try clear c5b0
       try clear p5
       try clear q5
       try clear hx5
       try clear c6
       try clear c6b0
       try clear c9
       try clear c11
       try clear c11b0
       try clear c11b1
       try clear c12
       try clear c13
       try clear c15
       try clear hcz10_0
       try clear hcz10_1
       try clear hcz10_2
       try clear hcz14_0
       try clear hcz14_1
       try clear hcz14_2
       try clear hcz16_0
       try clear hcz16_1
       try clear hcz16_2
       try clear hcz3_0
       try clear hfz10_0
       try clear hfz10_1
       try clear hfz10_2
       try clear hfz14_0
       try clear hfz14_1
       try clear hfz14_2
       try clear hfz16_0
       try clear hfz16_1
       try clear hfz16_2
       try clear hfz3_0
       try clear hx573_0
       try clear hx573_1
       try clear hx573_2
       try clear p2
       try clear p573
       try clear q573
       obtain ⟨kq,x23_6,rfl,HA,HJ6,BK571,BK574,HB⟩:=hcut;cases kq with
       | zero=>exact absurd HA.out (by simp [impl_FlashOk.j1])
       | succ kj6 =>
        have H:=HA.out;clear HA;simp only [impl_FlashOk.j1] at H
        by_cases c17 : x23_6 = true
        ·subst c17;have H1 : (some false) = some r:=by rw [if_pos rfl] at H;exact H
         clear H;have H:=H1;clear H1;obtain rfl:=Option.some.inj H
         go_wp2
         go_ret
         exact ⟨by first | rfl | (simp [errW_none,errW_some] <;> rfl) | (simp [*,errW_none,errW_some] <;> rfl),hs2 HB GE571 GE574⟩
        replace c17:=Bool.eq_false_iff.mpr c17;subst c17;have H1 : (impl_FlashOk.l1 kj6 l0_0 (l0_0.length : Int) x10_1 ((rd_T112 l0_0 x10_1).f2) (((rd_T112 l0_0 x10_1).f2).length : Int) 0 l0_0 ((rd_T112 l0_0 x10_1).f0) ((rd_T112 l0_0 x10_1).f1) ((rd_T112 l0_0 x10_1).f2)) = some r:=by rw [if_neg (show ¬ (false = true) by decide)] at H;exact H
        clear H;have H:=H1;clear H1;have H':=Aside0.mk H;clear H;have hnb18:=NB574_571.out;have hnc18:=NB571_574.out;have hcz19_0 : wc.cell? ⟨gb574,0,none⟩ = some (.bool ((rd_T112 l0_0 x10_1).f0)):=(blk_cell BK574.out 0).trans rfl;have hcz19_1 : wc.cell? ⟨gb574,1,none⟩ = some (.int .i64 ((rd_T112 l0_0 x10_1).f1)):=(blk_cell BK574.out 1).trans rfl;have hcz19_2 : wc.cell? ⟨gb574,2,none⟩ = some (.slice A573_2 ((rd_T112 l0_0 x10_1).f2).length c573_2):=(blk_cell BK574.out 2).trans rfl;have hfz19_0:=blk_frozen BK574.out 0;have hfz19_1:=blk_frozen BK574.out 1;have hfz19_2:=blk_frozen BK574.out 2
        go_wp2
        go_loopg [27] kj6 (fun kq v27 w'=>∃ (x27_3 : Int),v27 = .int .i64 x27_3 ∧ Aside0 (impl_FlashOk.l1 kq l0_0 (l0_0.length : Int) x10_1 ((rd_T112 l0_0 x10_1).f2) (((rd_T112 l0_0 x10_1).f2).length : Int) x27_3 l0_0 ((rd_T112 l0_0 x10_1).f0) ((rd_T112 l0_0 x10_1).f1) ((rd_T112 l0_0 x10_1).f2) = some r) ∧ Aside0 (kq ≤ kj6) ∧ Aside0 (w'.heap[gb571]? = some (.cells #[(.slice (some ad573) l0_0.length c0_0)] 59 (0,0))) ∧ Aside0 (w'.heap[gb574]? = some (.cells #[.bool ((rd_T112 l0_0 x10_1).f0),.int .i64 ((rd_T112 l0_0 x10_1).f1),(.slice A573_2 ((rd_T112 l0_0 x10_1).f2).length c573_2)] 112 (0,0))) ∧ Aside0 (Below w.heap.size w w'));case atStart=>exact ⟨(0),(by first | rfl | (simp;done) | (simp [*];done)),H',⟨Nat.le_refl _⟩,⟨bs BK571⟩,⟨bs BK574⟩,⟨hs2 HB GE571 GE574⟩⟩
        case round =>
         clear H'
         try clear c1
         try clear p2
         try clear c4
         try clear c4b0
         try clear c5
         try clear c5b0
         try clear p5
         try clear q5
         try clear hx5
         try clear c6
         try clear c6b0
         try clear c9
         try clear c11
         try clear c11b0
         try clear c11b1
         try clear c12
         try clear c13
         try clear c15
         try clear c17
         try clear c18
         try clear hcz10_0
         try clear hcz10_1
         try clear hcz10_2
         try clear hcz14_0
         try clear hcz14_1
         try clear hcz14_2
         try clear hcz16_0
         try clear hcz16_1
         try clear hcz16_2
         try clear hcz19_0
         try clear hcz19_1
         try clear hcz19_2
         try clear hcz3_0
         try clear hfz10_0
         try clear hfz10_1
         try clear hfz10_2
         try clear hfz14_0
         try clear hfz14_1
         try clear hfz14_2
         try clear hfz16_0
         try clear hfz16_1
         try clear hfz16_2
         try clear hfz19_0
         try clear hfz19_1
         try clear hfz19_2
         try clear hfz3_0
         try clear hx573_0
         try clear hx573_1
         try clear hx573_2
         try clear p2
         try clear p5
         try clear p573
         try clear q5
         try clear q573
         obtain ⟨x27_3,rfl,HA,HK3,BK571,BK574,HB⟩:=hrel;cases gk with
         | zero=>exact absurd HA.out (by simp [impl_FlashOk.l1])
         | succ k3 =>
          have H:=HA.out;clear HA;simp only [impl_FlashOk.l1] at H
          by_cases c20 : x27_3 < (((rd_T112 l0_0 x10_1).f2).length : Int)
          ·rw [if_pos c20] at H;have c20b0 : decide (x27_3 < (((rd_T112 l0_0 x10_1).f2).length : Int)) = true:=decide_eq_true c20;clear c20
           by_cases c21 : 0 ≤ x27_3
           ·rw [if_pos c21] at H;have c21b0 : decide (0 ≤ x27_3) = true:=decide_eq_true c21;clear c21
            by_cases c22 : x27_3 < (((rd_T112 l0_0 x10_1).f2).length : Int)
            ·rw [if_pos c22] at H;have c22b0 : decide (x27_3 < (((rd_T112 l0_0 x10_1).f2).length : Int)) = true:=decide_eq_true c22;clear c22;replace H:=Option.bind_eq_some_iff.mp H;obtain ⟨t578,A230,H⟩:=H;replace H : (if t578 = true then (if x27_3 > 0 then (if 0 ≤ (wrap64 (x27_3 - 1)) then (if (wrap64 (x27_3 - 1)) < (((rd_T112 l0_0 x10_1).f2).length : Int) then (if ((rd_T114 ((rd_T112 l0_0 x10_1).f2) (wrap64 (x27_3 - 1))).f0) = 0 then (if ((rd_T114 ((rd_T112 l0_0 x10_1).f2) x27_3).f0) = 0 then (impl_FlashOk.l1 k3 l0_0 (l0_0.length : Int) x10_1 ((rd_T112 l0_0 x10_1).f2) (((rd_T112 l0_0 x10_1).f2).length : Int) (wrap64 (x27_3 + 1)) l0_0 ((rd_T112 l0_0 x10_1).f0) ((rd_T112 l0_0 x10_1).f1) ((rd_T112 l0_0 x10_1).f2)) else (some false)) else (impl_FlashOk.l1 k3 l0_0 (l0_0.length : Int) x10_1 ((rd_T112 l0_0 x10_1).f2) (((rd_T112 l0_0 x10_1).f2).length : Int) (wrap64 (x27_3 + 1)) l0_0 ((rd_T112 l0_0 x10_1).f0) ((rd_T112 l0_0 x10_1).f1) ((rd_T112 l0_0 x10_1).f2))) else (none)) else (none)) else (impl_FlashOk.l1 k3 l0_0 (l0_0.length : Int) x10_1 ((rd_T112 l0_0 x10_1).f2) (((rd_T112 l0_0 x10_1).f2).length : Int) (wrap64 (x27_3 + 1)) l0_0 ((rd_T112 l0_0 x10_1).f0) ((rd_T112 l0_0 x10_1).f1) ((rd_T112 l0_0 x10_1).f2))) else (some false)) = some r:=H;have A23:=Aside0.mk A230;clear A230
             by_cases c24 : t578 = true
             ·subst c24;have H1 : (if x27_3 > 0 then (if 0 ≤ (wrap64 (x27_3 - 1)) then (if (wrap64 (x27_3 - 1)) < (((rd_T112 l0_0 x10_1).f2).length : Int) then (if ((rd_T114 ((rd_T112 l0_0 x10_1).f2) (wrap64 (x27_3 - 1))).f0) = 0 then (if ((rd_T114 ((rd_T112 l0_0 x10_1).f2) x27_3).f0) = 0 then (impl_FlashOk.l1 k3 l0_0 (l0_0.length : Int) x10_1 ((rd_T112 l0_0 x10_1).f2) (((rd_T112 l0_0 x10_1).f2).length : Int) (wrap64 (x27_3 + 1)) l0_0 ((rd_T112 l0_0 x10_1).f0) ((rd_T112 l0_0 x10_1).f1) ((rd_T112 l0_0 x10_1).f2)) else (some false)) else (impl_FlashOk.l1 k3 l0_0 (l0_0.length : Int) x10_1 ((rd_T112 l0_0 x10_1).f2) (((rd_T112 l0_0 x10_1).f2).length : Int) (wrap64 (x27_3 + 1)) l0_0 ((rd_T112 l0_0 x10_1).f0) ((rd_T112 l0_0 x10_1).f1) ((rd_T112 l0_0 x10_1).f2))) else (none)) else (none)) else (impl_FlashOk.l1 k3 l0_0 (l0_0.length : Int) x10_1 ((rd_T112 l0_0 x10_1).f2) (((rd_T112 l0_0 x10_1).f2).length : Int) (wrap64 (x27_3 + 1)) l0_0 ((rd_T112 l0_0 x10_1).f0) ((rd_T112 l0_0 x10_1).f1) ((rd_T112 l0_0 x10_1).f2))) = some r:=by rw [if_pos rfl] at H;exact H
              clear H;have H:=H1;clear H1
              by_cases c25 : x27_3 > 0
              ·rw [if_pos c25] at H;have c25b0 : decide (0 < x27_3) = true:=decide_eq_true c25;clear c25;obtain ⟨ji26,hji26⟩ : ∃ j_ : Int,(wrap64 (x27_3 - 1)) = j_:=⟨_,rfl⟩;replace H : (if 0 ≤ (ji26) then (if (ji26) < (((rd_T112 l0_0 x10_1).f2).length : Int) then (if ((rd_T114 ((rd_T112 l0_0 x10_1).f2) (ji26)).f0) = 0 then (if ((rd_T114 ((rd_T112 l0_0 x10_1).f2) x27_3).f0) = 0 then (impl_FlashOk.l1 k3 l0_0 (l0_0.length : Int) x10_1 ((rd_T112 l0_0 x10_1).f2) (((rd_T112 l0_0 x10_1).f2).length : Int) (wrap64 (x27_3 + 1)) l0_0 ((rd_T112 l0_0 x10_1).f0) ((rd_T112 l0_0 x10_1).f1) ((rd_T112 l0_0 x10_1).f2)) else (some false)) else (impl_FlashOk.l1 k3 l0_0 (l0_0.length : Int) x10_1 ((rd_T112 l0_0 x10_1).f2) (((rd_T112 l0_0 x10_1).f2).length : Int) (wrap64 (x27_3 + 1)) l0_0 ((rd_T112 l0_0 x10_1).f0) ((rd_T112 l0_0 x10_1).f1) ((rd_T112 l0_0 x10_1).f2))) else (none)) else (none)) = some r:=by first | (rw [hji26] at H;exact H) | (simp only [hji26] at H ⊢;exact H)
               (try rw [hji26] at A23)
               have hji26w : (IntKind.i64.wrap (x27_3 - 1)) = ji26:=(i64_w _).trans hji26
               by_cases c27 : 0 ≤ (ji26)
               ·rw [if_pos c27] at H;have c27b0 : decide (0 ≤ (ji26)) = true:=decide_eq_true c27;clear c27
                by_cases c28 : (ji26) < (((rd_T112 l0_0 x10_1).f2).length : Int)
                ·rw [if_pos c28] at H;have c28b0 : decide ((ji26) < (((rd_T112 l0_0 x10_1).f2).length : Int)) = true:=decide_eq_true c28;clear c28
                 by_cases c29 : ((rd_T114 ((rd_T112 l0_0 x10_1).f2) (ji26)).f0) = 0
                 ·rw [if_pos c29] at H;have c29b0 : (((rd_T114 ((rd_T112 l0_0 x10_1).f2) (ji26)).f0) == 0) = true:=beq_iff_eq.mpr c29;have c29b1 : (((rd_T114 ((rd_T112 l0_0 x10_1).f2) (ji26)).f0) != 0) = false:=bne_eq_false_iff_eq.mpr c29;clear c29
                  by_cases c30 : ((rd_T114 ((rd_T112 l0_0 x10_1).f2) x27_3).f0) = 0
                  ·rw [if_pos c30] at H;have c30b0 : (((rd_T114 ((rd_T112 l0_0 x10_1).f2) x27_3).f0) == 0) = true:=beq_iff_eq.mpr c30;have c30b1 : (((rd_T114 ((rd_T112 l0_0 x10_1).f2) x27_3).f0) != 0) = false:=bne_eq_false_iff_eq.mpr c30;clear c30;have H':=Aside0.mk H;clear H;have p576 : 0 ≤ (x27_3 : Int):=of_decide_eq_true (by first | (with_reducible assumption) | assumption);have q576 : x27_3 < (((rd_T112 l0_0 x10_1).f2).length : Int):=of_decide_eq_true (by first | (with_reducible assumption) | assumption);obtain ⟨ad576,e576,hx576_0,hx576_1⟩:=at_T114 HR573_2.out x27_3 p576 q576;cases e576;replace hx576_0:=(HB.out.cell (World.block_lt_of_cell? w _ hx576_0)).trans hx576_0;replace hx576_1:=(HB.out.cell (World.block_lt_of_cell? w _ hx576_1)).trans hx576_1;replace p576:=eq_true p576;replace q576:=eq_true q576;go_wp2_with (first | ((with_reducible refine gate_dst (N:=6) rfl ?_);refine box_event ?hg (N:=6) ?hd (cs:=#[.int .i64 0,.string (⟨#[]⟩ : ByteArray)]) (t:=114) ?hr ?_;(case hd=>rfl);(case hg=>rfl);(case hr=>first | (go_simp;done) | (go_simp;rfl));intro gb577 hg w31 hbox hb;have n0_:=Aside0.mk (blk_below (g:=gb571) (o:=.cells #[.slice (some ad573) l0_0.length c0_0] 59 (0,0)) (bs BK571) hb);have n1_:=Aside0.mk (blk_below (g:=gb574) (o:=.cells #[.bool ((rd_T112 l0_0 x10_1).f0),.int .i64 ((rd_T112 l0_0 x10_1).f1),.slice (some ad576) ((rd_T112 l0_0 x10_1).f2).length c573_2] 112 (0,0)) (bs BK574) hb);have n2_:=Aside0.mk (below_step (hs2 HB GE571 GE574) hb);have n3_:=Aside0.mk (hbox);have n4_:=Aside0.mk ((by rw [hg];exact (below_size (hs2 HB GE571 GE574)) : w.heap.size ≤ gb577));have n5_:=Aside0.mk ((by rw [hg];exact (below_size (hs2 HB GE571 GE574)) : w.heap.size ≤ gb577));have n6_:=Aside0.mk ((by rw [hg];exact Nat.ne_of_lt (blk_lt (g:=gb571) (o:=.cells #[.slice (some ad573) l0_0.length c0_0] 59 (0,0)) (bs BK571)) : gb571 ≠ gb577));have n7_:=Aside0.mk ((by rw [hg];exact Nat.ne_of_gt (blk_lt (g:=gb571) (o:=.cells #[.slice (some ad573) l0_0.length c0_0] 59 (0,0)) (bs BK571)) : gb577 ≠ gb571));have n8_:=Aside0.mk ((by rw [hg];exact Nat.ne_of_lt (blk_lt (g:=gb574) (o:=.cells #[.bool ((rd_T112 l0_0 x10_1).f0),.int .i64 ((rd_T112 l0_0 x10_1).f1),.slice (some ad576) ((rd_T112 l0_0 x10_1).f2).length c573_2] 112 (0,0)) (bs BK574)) : gb574 ≠ gb577));have n9_:=Aside0.mk ((by rw [hg];exact Nat.ne_of_gt (blk_lt (g:=gb574) (o:=.cells #[.bool ((rd_T112 l0_0 x10_1).f0),.int .i64 ((rd_T112 l0_0 x10_1).f1),.slice (some ad576) ((rd_T112 l0_0 x10_1).f2).length c573_2] 112 (0,0)) (bs BK574)) : gb577 ≠ gb574));clear BK571;clear BK574;clear HB;have BK571:=n0_;have BK574:=n1_;have HB:=n2_;have BK577:=n3_;have GW577:=n4_;have GE577:=n5_;have NB571_577:=n6_;have NB577_571:=n7_;have NB574_577:=n8_;have NB577_574:=n9_;clear n0_ n1_ n2_ n3_ n4_ n5_ n6_ n7_ n8_ n9_;clear hb hbox hg;have hnb32:=NB577_571.out;have hnc32:=NB571_577.out;have hnb33:=NB577_574.out;have hnc33:=NB574_577.out;have hcz34_0 : w31.cell? ⟨gb577,0,none⟩ = some (.int .i64 0):=(blk_cell BK577.out 0).trans rfl;have hcz34_1 : w31.cell? ⟨gb577,1,none⟩ = some (.string (⟨#[]⟩ : ByteArray)):=(blk_cell BK577.out 1).trans rfl;have hfz34_0:=blk_frozen BK577.out 0;have hfz34_1:=blk_frozen BK577.out 1) | ((with_reducible refine gate_callee (f:=124) rfl ?_);refine goesL_ (some 33) rfl rfl Try.func124 (by kernel_rfl) rfl #[.agg #[.int .i64 ((rd_T114 ((rd_T112 l0_0 x10_1).f2) x27_3).f0),.string ((rd_T114 ((rd_T112 l0_0 x10_1).f2) x27_3).f1)]] rfl (by (try simp only [List.map_toArray,List.map_cons,List.map_nil]);first | done | rfl | (simp only [List.length_drop,List.length_take];rfl)) ?_;(with_reducible refine (impl_leafOk.calls ((rd_T114 ((rd_T112 l0_0 x10_1).f2) x27_3).f0) ((rd_T114 ((rd_T112 l0_0 x10_1).f2) x27_3).f1) true _ A23.out).mono ?_);rintro e w35 ⟨rfl,hb⟩;refine ⟨_,rfl,?_⟩;have n0_:=Aside0.mk (blk_below (g:=gb571) (o:=.cells #[.slice (some ad573) l0_0.length c0_0] 59 (0,0)) (by (with_reducible repeat (first | refine blk_drewN ?_ _ | refine blk_drew ?_ | refine blk_alloc ?_ _));refine blk_far ?_ NB571_577.out _;(with_reducible repeat (first | refine blk_drewN ?_ _ | refine blk_drew ?_ | refine blk_alloc ?_ _));refine blk_far ?_ NB571_577.out _;(with_reducible repeat (first | refine blk_drewN ?_ _ | refine blk_drew ?_ | refine blk_alloc ?_ _));exact BK571.out) hb);have n1_:=Aside0.mk (blk_below (g:=gb574) (o:=.cells #[.bool ((rd_T112 l0_0 x10_1).f0),.int .i64 ((rd_T112 l0_0 x10_1).f1),.slice (some ad576) ((rd_T112 l0_0 x10_1).f2).length c573_2] 112 (0,0)) (by (with_reducible repeat (first | refine blk_drewN ?_ _ | refine blk_drew ?_ | refine blk_alloc ?_ _));refine blk_far ?_ NB574_577.out _;(with_reducible repeat (first | refine blk_drewN ?_ _ | refine blk_drew ?_ | refine blk_alloc ?_ _));refine blk_far ?_ NB574_577.out _;(with_reducible repeat (first | refine blk_drewN ?_ _ | refine blk_drew ?_ | refine blk_alloc ?_ _));exact BK574.out) hb);have n2_:=Aside0.mk (blk_below (g:=gb577) (o:=.cells #[.int .i64 ((rd_T114 ((rd_T112 l0_0 x10_1).f2) x27_3).f0),.string ((rd_T114 ((rd_T112 l0_0 x10_1).f2) x27_3).f1)] 114 (0,0)) (by (with_reducible repeat (first | refine blk_drewN ?_ _ | refine blk_drew ?_ | refine blk_alloc ?_ _));refine blk_put (cs:=#[.int .i64 ((rd_T114 ((rd_T112 l0_0 x10_1).f2) x27_3).f0),.string (⟨#[]⟩ : ByteArray)]) ?_ 1 _ rfl;(with_reducible repeat (first | refine blk_drewN ?_ _ | refine blk_drew ?_ | refine blk_alloc ?_ _));refine blk_put (cs:=#[.int .i64 0,.string (⟨#[]⟩ : ByteArray)]) ?_ 0 _ rfl;(with_reducible repeat (first | refine blk_drewN ?_ _ | refine blk_drew ?_ | refine blk_alloc ?_ _));exact BK577.out) hb);have n3_:=Aside0.mk (below_step (hs3 HB GE571 GE574 GE577) hb);clear BK571;clear BK574;clear BK577;clear HB;have BK571:=n0_;have BK574:=n1_;have BK577:=n2_;have HB:=n3_;clear n0_ n1_ n2_ n3_;(try clear hb);(try clear hb2);(try clear hk);(try clear hi);have hnb36:=NB574_571.out;have hnc36:=NB571_574.out;have hcz37_0 : w35.cell? ⟨gb574,0,none⟩ = some (.bool ((rd_T112 l0_0 x10_1).f0)):=(blk_cell BK574.out 0).trans rfl;have hcz37_1 : w35.cell? ⟨gb574,1,none⟩ = some (.int .i64 ((rd_T112 l0_0 x10_1).f1)):=(blk_cell BK574.out 1).trans rfl;have hcz37_2 : w35.cell? ⟨gb574,2,none⟩ = some (.slice (some ad576) ((rd_T112 l0_0 x10_1).f2).length c573_2):=(blk_cell BK574.out 2).trans rfl;have hfz37_0:=blk_frozen BK574.out 0;have hfz37_1:=blk_frozen BK574.out 1;have hfz37_2:=blk_frozen BK574.out 2;have p579 : 0 ≤ ((ji26) : Int):=of_decide_eq_true (by first | (with_reducible assumption) | assumption);have q579 : (ji26) < (((rd_T112 l0_0 x10_1).f2).length : Int):=of_decide_eq_true (by first | (with_reducible assumption) | assumption);obtain ⟨ad579,e579,hx579_0,hx579_1⟩:=at_T114 HR573_2.out (ji26) p579 q579;obtain rfl : ad576 = ad579:=(by injection e579);replace hx579_0:=(HB.out.cell (World.block_lt_of_cell? w _ hx579_0)).trans hx579_0;replace hx579_1:=(HB.out.cell (World.block_lt_of_cell? w _ hx579_1)).trans hx579_1;replace p579:=eq_true p579;replace q579:=eq_true q579;have hcz38_0 : w35.cell? ⟨gb577,0,none⟩ = some (.int .i64 ((rd_T114 ((rd_T112 l0_0 x10_1).f2) x27_3).f0)):=(blk_cell BK577.out 0).trans rfl;have hcz38_1 : w35.cell? ⟨gb577,1,none⟩ = some (.string ((rd_T114 ((rd_T112 l0_0 x10_1).f2) x27_3).f1)):=(blk_cell BK577.out 1).trans rfl;have hfz38_0:=blk_frozen BK577.out 0;have hfz38_1:=blk_frozen BK577.out 1));go_roundg k3;case measure=>have:=HK1.out;have:=HJ6.out;have:=HK3.out;omega
                   case rel=>exact ⟨(wrap64 (x27_3 + 1)),(by first | rfl | (simp;done) | (simp [*];done)),H',⟨by have:=HK1.out;have:=HJ6.out;have:=HK3.out;omega⟩,⟨bs BK571⟩,⟨bs BK574⟩,⟨hs3 HB GE571 GE574 GE577⟩⟩
                  rw [if_neg c30] at H;have c30b0 : (((rd_T114 ((rd_T112 l0_0 x10_1).f2) x27_3).f0) == 0) = false:=beq_eq_false_iff_ne.mpr c30;have c30b1 : (((rd_T114 ((rd_T112 l0_0 x10_1).f2) x27_3).f0) != 0) = true:=bne_iff_ne.mpr c30;obtain rfl:=Option.some.inj H;have p576 : 0 ≤ (x27_3 : Int):=of_decide_eq_true (by first | (with_reducible assumption) | assumption);have q576 : x27_3 < (((rd_T112 l0_0 x10_1).f2).length : Int):=of_decide_eq_true (by first | (with_reducible assumption) | assumption);obtain ⟨ad576,e576,hx576_0,hx576_1⟩:=at_T114 HR573_2.out x27_3 p576 q576;cases e576;replace hx576_0:=(HB.out.cell (World.block_lt_of_cell? w _ hx576_0)).trans hx576_0;replace hx576_1:=(HB.out.cell (World.block_lt_of_cell? w _ hx576_1)).trans hx576_1;replace p576:=eq_true p576;replace q576:=eq_true q576;go_wp2_with (first | ((with_reducible refine gate_dst (N:=6) rfl ?_);refine box_event ?hg (N:=6) ?hd (cs:=#[.int .i64 0,.string (⟨#[]⟩ : ByteArray)]) (t:=114) ?hr ?_;(case hd=>rfl);(case hg=>rfl);(case hr=>first | (go_simp;done) | (go_simp;rfl));intro gb577 hg w39 hbox hb;have n0_:=Aside0.mk (blk_below (g:=gb571) (o:=.cells #[.slice (some ad573) l0_0.length c0_0] 59 (0,0)) (bs BK571) hb);have n1_:=Aside0.mk (blk_below (g:=gb574) (o:=.cells #[.bool ((rd_T112 l0_0 x10_1).f0),.int .i64 ((rd_T112 l0_0 x10_1).f1),.slice (some ad576) ((rd_T112 l0_0 x10_1).f2).length c573_2] 112 (0,0)) (bs BK574) hb);have n2_:=Aside0.mk (below_step (hs2 HB GE571 GE574) hb);have n3_:=Aside0.mk (hbox);have n4_:=Aside0.mk ((by rw [hg];exact (below_size (hs2 HB GE571 GE574)) : w.heap.size ≤ gb577));have n5_:=Aside0.mk ((by rw [hg];exact (below_size (hs2 HB GE571 GE574)) : w.heap.size ≤ gb577));have n6_:=Aside0.mk ((by rw [hg];exact Nat.ne_of_lt (blk_lt (g:=gb571) (o:=.cells #[.slice (some ad573) l0_0.length c0_0] 59 (0,0)) (bs BK571)) : gb571 ≠ gb577));have n7_:=Aside0.mk ((by rw [hg];exact Nat.ne_of_gt (blk_lt (g:=gb571) (o:=.cells #[.slice (some ad573) l0_0.length c0_0] 59 (0,0)) (bs BK571)) : gb577 ≠ gb571));have n8_:=Aside0.mk ((by rw [hg];exact Nat.ne_of_lt (blk_lt (g:=gb574) (o:=.cells #[.bool ((rd_T112 l0_0 x10_1).f0),.int .i64 ((rd_T112 l0_0 x10_1).f1),.slice (some ad576) ((rd_T112 l0_0 x10_1).f2).length c573_2] 112 (0,0)) (bs BK574)) : gb574 ≠ gb577));have n9_:=Aside0.mk ((by rw [hg];exact Nat.ne_of_gt (blk_lt (g:=gb574) (o:=.cells #[.bool ((rd_T112 l0_0 x10_1).f0),.int .i64 ((rd_T112 l0_0 x10_1).f1),.slice (some ad576) ((rd_T112 l0_0 x10_1).f2).length c573_2] 112 (0,0)) (bs BK574)) : gb577 ≠ gb574));clear BK571;clear BK574;clear HB;have BK571:=n0_;have BK574:=n1_;have HB:=n2_;have BK577:=n3_;have GW577:=n4_;have GE577:=n5_;have NB571_577:=n6_;have NB577_571:=n7_;have NB574_577:=n8_;have NB577_574:=n9_;clear n0_ n1_ n2_ n3_ n4_ n5_ n6_ n7_ n8_ n9_;clear hb hbox hg;have hnb40:=NB577_571.out;have hnc40:=NB571_577.out;have hnb41:=NB577_574.out;have hnc41:=NB574_577.out;have hcz42_0 : w39.cell? ⟨gb577,0,none⟩ = some (.int .i64 0):=(blk_cell BK577.out 0).trans rfl;have hcz42_1 : w39.cell? ⟨gb577,1,none⟩ = some (.string (⟨#[]⟩ : ByteArray)):=(blk_cell BK577.out 1).trans rfl;have hfz42_0:=blk_frozen BK577.out 0;have hfz42_1:=blk_frozen BK577.out 1) | ((with_reducible refine gate_callee (f:=124) rfl ?_);refine goesL_ (some 33) rfl rfl Try.func124 (by kernel_rfl) rfl #[.agg #[.int .i64 ((rd_T114 ((rd_T112 l0_0 x10_1).f2) x27_3).f0),.string ((rd_T114 ((rd_T112 l0_0 x10_1).f2) x27_3).f1)]] rfl (by (try simp only [List.map_toArray,List.map_cons,List.map_nil]);first | done | rfl | (simp only [List.length_drop,List.length_take];rfl)) ?_;(with_reducible refine (impl_leafOk.calls ((rd_T114 ((rd_T112 l0_0 x10_1).f2) x27_3).f0) ((rd_T114 ((rd_T112 l0_0 x10_1).f2) x27_3).f1) true _ A23.out).mono ?_);rintro e w43 ⟨rfl,hb⟩;refine ⟨_,rfl,?_⟩;have n0_:=Aside0.mk (blk_below (g:=gb571) (o:=.cells #[.slice (some ad573) l0_0.length c0_0] 59 (0,0)) (by (with_reducible repeat (first | refine blk_drewN ?_ _ | refine blk_drew ?_ | refine blk_alloc ?_ _));refine blk_far ?_ NB571_577.out _;(with_reducible repeat (first | refine blk_drewN ?_ _ | refine blk_drew ?_ | refine blk_alloc ?_ _));refine blk_far ?_ NB571_577.out _;(with_reducible repeat (first | refine blk_drewN ?_ _ | refine blk_drew ?_ | refine blk_alloc ?_ _));exact BK571.out) hb);have n1_:=Aside0.mk (blk_below (g:=gb574) (o:=.cells #[.bool ((rd_T112 l0_0 x10_1).f0),.int .i64 ((rd_T112 l0_0 x10_1).f1),.slice (some ad576) ((rd_T112 l0_0 x10_1).f2).length c573_2] 112 (0,0)) (by (with_reducible repeat (first | refine blk_drewN ?_ _ | refine blk_drew ?_ | refine blk_alloc ?_ _));refine blk_far ?_ NB574_577.out _;(with_reducible repeat (first | refine blk_drewN ?_ _ | refine blk_drew ?_ | refine blk_alloc ?_ _));refine blk_far ?_ NB574_577.out _;(with_reducible repeat (first | refine blk_drewN ?_ _ | refine blk_drew ?_ | refine blk_alloc ?_ _));exact BK574.out) hb);have n2_:=Aside0.mk (blk_below (g:=gb577) (o:=.cells #[.int .i64 ((rd_T114 ((rd_T112 l0_0 x10_1).f2) x27_3).f0),.string ((rd_T114 ((rd_T112 l0_0 x10_1).f2) x27_3).f1)] 114 (0,0)) (by (with_reducible repeat (first | refine blk_drewN ?_ _ | refine blk_drew ?_ | refine blk_alloc ?_ _));refine blk_put (cs:=#[.int .i64 ((rd_T114 ((rd_T112 l0_0 x10_1).f2) x27_3).f0),.string (⟨#[]⟩ : ByteArray)]) ?_ 1 _ rfl;(with_reducible repeat (first | refine blk_drewN ?_ _ | refine blk_drew ?_ | refine blk_alloc ?_ _));refine blk_put (cs:=#[.int .i64 0,.string (⟨#[]⟩ : ByteArray)]) ?_ 0 _ rfl;(with_reducible repeat (first | refine blk_drewN ?_ _ | refine blk_drew ?_ | refine blk_alloc ?_ _));exact BK577.out) hb);have n3_:=Aside0.mk (below_step (hs3 HB GE571 GE574 GE577) hb);clear BK571;clear BK574;clear BK577;clear HB;have BK571:=n0_;have BK574:=n1_;have BK577:=n2_;have HB:=n3_;clear n0_ n1_ n2_ n3_;(try clear hb);(try clear hb2);(try clear hk);(try clear hi);have hnb44:=NB574_571.out;have hnc44:=NB571_574.out;have hcz45_0 : w43.cell? ⟨gb574,0,none⟩ = some (.bool ((rd_T112 l0_0 x10_1).f0)):=(blk_cell BK574.out 0).trans rfl;have hcz45_1 : w43.cell? ⟨gb574,1,none⟩ = some (.int .i64 ((rd_T112 l0_0 x10_1).f1)):=(blk_cell BK574.out 1).trans rfl;have hcz45_2 : w43.cell? ⟨gb574,2,none⟩ = some (.slice (some ad576) ((rd_T112 l0_0 x10_1).f2).length c573_2):=(blk_cell BK574.out 2).trans rfl;have hfz45_0:=blk_frozen BK574.out 0;have hfz45_1:=blk_frozen BK574.out 1;have hfz45_2:=blk_frozen BK574.out 2;have p579 : 0 ≤ ((ji26) : Int):=of_decide_eq_true (by first | (with_reducible assumption) | assumption);have q579 : (ji26) < (((rd_T112 l0_0 x10_1).f2).length : Int):=of_decide_eq_true (by first | (with_reducible assumption) | assumption);obtain ⟨ad579,e579,hx579_0,hx579_1⟩:=at_T114 HR573_2.out (ji26) p579 q579;obtain rfl : ad576 = ad579:=(by injection e579);replace hx579_0:=(HB.out.cell (World.block_lt_of_cell? w _ hx579_0)).trans hx579_0;replace hx579_1:=(HB.out.cell (World.block_lt_of_cell? w _ hx579_1)).trans hx579_1;replace p579:=eq_true p579;replace q579:=eq_true q579;have hcz46_0 : w43.cell? ⟨gb577,0,none⟩ = some (.int .i64 ((rd_T114 ((rd_T112 l0_0 x10_1).f2) x27_3).f0)):=(blk_cell BK577.out 0).trans rfl;have hcz46_1 : w43.cell? ⟨gb577,1,none⟩ = some (.string ((rd_T114 ((rd_T112 l0_0 x10_1).f2) x27_3).f1)):=(blk_cell BK577.out 1).trans rfl;have hfz46_0:=blk_frozen BK577.out 0;have hfz46_1:=blk_frozen BK577.out 1))
                  go_ret
                  exact ⟨by first | rfl | (simp [errW_none,errW_some] <;> rfl) | (simp only [← hji26];first | rfl | (simp [errW_none,errW_some] <;> rfl)) | (simp [*,errW_none,errW_some] <;> rfl),hs3 HB GE571 GE574 GE577⟩
                 rw [if_neg c29] at H;have c29b0 : (((rd_T114 ((rd_T112 l0_0 x10_1).f2) (ji26)).f0) == 0) = false:=beq_eq_false_iff_ne.mpr c29;have c29b1 : (((rd_T114 ((rd_T112 l0_0 x10_1).f2) (ji26)).f0) != 0) = true:=bne_iff_ne.mpr c29;have H':=Aside0.mk H;clear H;have p576 : 0 ≤ (x27_3 : Int):=of_decide_eq_true (by first | (with_reducible assumption) | assumption);have q576 : x27_3 < (((rd_T112 l0_0 x10_1).f2).length : Int):=of_decide_eq_true (by first | (with_reducible assumption) | assumption);obtain ⟨ad576,e576,hx576_0,hx576_1⟩:=at_T114 HR573_2.out x27_3 p576 q576;cases e576;replace hx576_0:=(HB.out.cell (World.block_lt_of_cell? w _ hx576_0)).trans hx576_0;replace hx576_1:=(HB.out.cell (World.block_lt_of_cell? w _ hx576_1)).trans hx576_1;replace p576:=eq_true p576;replace q576:=eq_true q576;go_wp2_with (first | ((with_reducible refine gate_dst (N:=6) rfl ?_);refine box_event ?hg (N:=6) ?hd (cs:=#[.int .i64 0,.string (⟨#[]⟩ : ByteArray)]) (t:=114) ?hr ?_;(case hd=>rfl);(case hg=>rfl);(case hr=>first | (go_simp;done) | (go_simp;rfl));intro gb577 hg w47 hbox hb;have n0_:=Aside0.mk (blk_below (g:=gb571) (o:=.cells #[.slice (some ad573) l0_0.length c0_0] 59 (0,0)) (bs BK571) hb);have n1_:=Aside0.mk (blk_below (g:=gb574) (o:=.cells #[.bool ((rd_T112 l0_0 x10_1).f0),.int .i64 ((rd_T112 l0_0 x10_1).f1),.slice (some ad576) ((rd_T112 l0_0 x10_1).f2).length c573_2] 112 (0,0)) (bs BK574) hb);have n2_:=Aside0.mk (below_step (hs2 HB GE571 GE574) hb);have n3_:=Aside0.mk (hbox);have n4_:=Aside0.mk ((by rw [hg];exact (below_size (hs2 HB GE571 GE574)) : w.heap.size ≤ gb577));have n5_:=Aside0.mk ((by rw [hg];exact (below_size (hs2 HB GE571 GE574)) : w.heap.size ≤ gb577));have n6_:=Aside0.mk ((by rw [hg];exact Nat.ne_of_lt (blk_lt (g:=gb571) (o:=.cells #[.slice (some ad573) l0_0.length c0_0] 59 (0,0)) (bs BK571)) : gb571 ≠ gb577));have n7_:=Aside0.mk ((by rw [hg];exact Nat.ne_of_gt (blk_lt (g:=gb571) (o:=.cells #[.slice (some ad573) l0_0.length c0_0] 59 (0,0)) (bs BK571)) : gb577 ≠ gb571));have n8_:=Aside0.mk ((by rw [hg];exact Nat.ne_of_lt (blk_lt (g:=gb574) (o:=.cells #[.bool ((rd_T112 l0_0 x10_1).f0),.int .i64 ((rd_T112 l0_0 x10_1).f1),.slice (some ad576) ((rd_T112 l0_0 x10_1).f2).length c573_2] 112 (0,0)) (bs BK574)) : gb574 ≠ gb577));have n9_:=Aside0.mk ((by rw [hg];exact Nat.ne_of_gt (blk_lt (g:=gb574) (o:=.cells #[.bool ((rd_T112 l0_0 x10_1).f0),.int .i64 ((rd_T112 l0_0 x10_1).f1),.slice (some ad576) ((rd_T112 l0_0 x10_1).f2).length c573_2] 112 (0,0)) (bs BK574)) : gb577 ≠ gb574));clear BK571;clear BK574;clear HB;have BK571:=n0_;have BK574:=n1_;have HB:=n2_;have BK577:=n3_;have GW577:=n4_;have GE577:=n5_;have NB571_577:=n6_;have NB577_571:=n7_;have NB574_577:=n8_;have NB577_574:=n9_;clear n0_ n1_ n2_ n3_ n4_ n5_ n6_ n7_ n8_ n9_;clear hb hbox hg;have hnb48:=NB577_571.out;have hnc48:=NB571_577.out;have hnb49:=NB577_574.out;have hnc49:=NB574_577.out;have hcz50_0 : w47.cell? ⟨gb577,0,none⟩ = some (.int .i64 0):=(blk_cell BK577.out 0).trans rfl;have hcz50_1 : w47.cell? ⟨gb577,1,none⟩ = some (.string (⟨#[]⟩ : ByteArray)):=(blk_cell BK577.out 1).trans rfl;have hfz50_0:=blk_frozen BK577.out 0;have hfz50_1:=blk_frozen BK577.out 1) | ((with_reducible refine gate_callee (f:=124) rfl ?_);refine goesL_ (some 33) rfl rfl Try.func124 (by kernel_rfl) rfl #[.agg #[.int .i64 ((rd_T114 ((rd_T112 l0_0 x10_1).f2) x27_3).f0),.string ((rd_T114 ((rd_T112 l0_0 x10_1).f2) x27_3).f1)]] rfl (by (try simp only [List.map_toArray,List.map_cons,List.map_nil]);first | done | rfl | (simp only [List.length_drop,List.length_take];rfl)) ?_;(with_reducible refine (impl_leafOk.calls ((rd_T114 ((rd_T112 l0_0 x10_1).f2) x27_3).f0) ((rd_T114 ((rd_T112 l0_0 x10_1).f2) x27_3).f1) true _ A23.out).mono ?_);rintro e w51 ⟨rfl,hb⟩;refine ⟨_,rfl,?_⟩;have n0_:=Aside0.mk (blk_below (g:=gb571) (o:=.cells #[.slice (some ad573) l0_0.length c0_0] 59 (0,0)) (by (with_reducible repeat (first | refine blk_drewN ?_ _ | refine blk_drew ?_ | refine blk_alloc ?_ _));refine blk_far ?_ NB571_577.out _;(with_reducible repeat (first | refine blk_drewN ?_ _ | refine blk_drew ?_ | refine blk_alloc ?_ _));refine blk_far ?_ NB571_577.out _;(with_reducible repeat (first | refine blk_drewN ?_ _ | refine blk_drew ?_ | refine blk_alloc ?_ _));exact BK571.out) hb);have n1_:=Aside0.mk (blk_below (g:=gb574) (o:=.cells #[.bool ((rd_T112 l0_0 x10_1).f0),.int .i64 ((rd_T112 l0_0 x10_1).f1),.slice (some ad576) ((rd_T112 l0_0 x10_1).f2).length c573_2] 112 (0,0)) (by (with_reducible repeat (first | refine blk_drewN ?_ _ | refine blk_drew ?_ | refine blk_alloc ?_ _));refine blk_far ?_ NB574_577.out _;(with_reducible repeat (first | refine blk_drewN ?_ _ | refine blk_drew ?_ | refine blk_alloc ?_ _));refine blk_far ?_ NB574_577.out _;(with_reducible repeat (first | refine blk_drewN ?_ _ | refine blk_drew ?_ | refine blk_alloc ?_ _));exact BK574.out) hb);have n2_:=Aside0.mk (blk_below (g:=gb577) (o:=.cells #[.int .i64 ((rd_T114 ((rd_T112 l0_0 x10_1).f2) x27_3).f0),.string ((rd_T114 ((rd_T112 l0_0 x10_1).f2) x27_3).f1)] 114 (0,0)) (by (with_reducible repeat (first | refine blk_drewN ?_ _ | refine blk_drew ?_ | refine blk_alloc ?_ _));refine blk_put (cs:=#[.int .i64 ((rd_T114 ((rd_T112 l0_0 x10_1).f2) x27_3).f0),.string (⟨#[]⟩ : ByteArray)]) ?_ 1 _ rfl;(with_reducible repeat (first | refine blk_drewN ?_ _ | refine blk_drew ?_ | refine blk_alloc ?_ _));refine blk_put (cs:=#[.int .i64 0,.string (⟨#[]⟩ : ByteArray)]) ?_ 0 _ rfl;(with_reducible repeat (first | refine blk_drewN ?_ _ | refine blk_drew ?_ | refine blk_alloc ?_ _));exact BK577.out) hb);have n3_:=Aside0.mk (below_step (hs3 HB GE571 GE574 GE577) hb);clear BK571;clear BK574;clear BK577;clear HB;have BK571:=n0_;have BK574:=n1_;have BK577:=n2_;have HB:=n3_;clear n0_ n1_ n2_ n3_;(try clear hb);(try clear hb2);(try clear hk);(try clear hi);have hnb52:=NB574_571.out;have hnc52:=NB571_574.out;have hcz53_0 : w51.cell? ⟨gb574,0,none⟩ = some (.bool ((rd_T112 l0_0 x10_1).f0)):=(blk_cell BK574.out 0).trans rfl;have hcz53_1 : w51.cell? ⟨gb574,1,none⟩ = some (.int .i64 ((rd_T112 l0_0 x10_1).f1)):=(blk_cell BK574.out 1).trans rfl;have hcz53_2 : w51.cell? ⟨gb574,2,none⟩ = some (.slice (some ad576) ((rd_T112 l0_0 x10_1).f2).length c573_2):=(blk_cell BK574.out 2).trans rfl;have hfz53_0:=blk_frozen BK574.out 0;have hfz53_1:=blk_frozen BK574.out 1;have hfz53_2:=blk_frozen BK574.out 2;have p579 : 0 ≤ ((ji26) : Int):=of_decide_eq_true (by first | (with_reducible assumption) | assumption);have q579 : (ji26) < (((rd_T112 l0_0 x10_1).f2).length : Int):=of_decide_eq_true (by first | (with_reducible assumption) | assumption);obtain ⟨ad579,e579,hx579_0,hx579_1⟩:=at_T114 HR573_2.out (ji26) p579 q579;obtain rfl : ad576 = ad579:=(by injection e579);replace hx579_0:=(HB.out.cell (World.block_lt_of_cell? w _ hx579_0)).trans hx579_0;replace hx579_1:=(HB.out.cell (World.block_lt_of_cell? w _ hx579_1)).trans hx579_1;replace p579:=eq_true p579;replace q579:=eq_true q579));go_roundg k3;case measure=>have:=HK1.out;have:=HJ6.out;have:=HK3.out;omega
                 case rel=>exact ⟨(wrap64 (x27_3 + 1)),(by first | rfl | (simp;done) | (simp [*];done)),H',⟨by have:=HK1.out;have:=HJ6.out;have:=HK3.out;omega⟩,⟨bs BK571⟩,⟨bs BK574⟩,⟨hs3 HB GE571 GE574 GE577⟩⟩
                rw [if_neg c28] at H;exact absurd H (by simp)
               rw [if_neg c27] at H;exact absurd H (by simp)
              rw [if_neg c25] at H;have c25b0 : decide (0 < x27_3) = false:=decide_eq_false c25;clear c25;have H':=Aside0.mk H;clear H;have p576 : 0 ≤ (x27_3 : Int):=of_decide_eq_true (by first | (with_reducible assumption) | assumption);have q576 : x27_3 < (((rd_T112 l0_0 x10_1).f2).length : Int):=of_decide_eq_true (by first | (with_reducible assumption) | assumption);obtain ⟨ad576,e576,hx576_0,hx576_1⟩:=at_T114 HR573_2.out x27_3 p576 q576;cases e576;replace hx576_0:=(HB.out.cell (World.block_lt_of_cell? w _ hx576_0)).trans hx576_0;replace hx576_1:=(HB.out.cell (World.block_lt_of_cell? w _ hx576_1)).trans hx576_1;replace p576:=eq_true p576;replace q576:=eq_true q576;go_wp2_with (first | ((with_reducible refine gate_dst (N:=6) rfl ?_);refine box_event ?hg (N:=6) ?hd (cs:=#[.int .i64 0,.string (⟨#[]⟩ : ByteArray)]) (t:=114) ?hr ?_;(case hd=>rfl);(case hg=>rfl);(case hr=>first | (go_simp;done) | (go_simp;rfl));intro gb577 hg w54 hbox hb;have n0_:=Aside0.mk (blk_below (g:=gb571) (o:=.cells #[.slice (some ad573) l0_0.length c0_0] 59 (0,0)) (bs BK571) hb);have n1_:=Aside0.mk (blk_below (g:=gb574) (o:=.cells #[.bool ((rd_T112 l0_0 x10_1).f0),.int .i64 ((rd_T112 l0_0 x10_1).f1),.slice (some ad576) ((rd_T112 l0_0 x10_1).f2).length c573_2] 112 (0,0)) (bs BK574) hb);have n2_:=Aside0.mk (below_step (hs2 HB GE571 GE574) hb);have n3_:=Aside0.mk (hbox);have n4_:=Aside0.mk ((by rw [hg];exact (below_size (hs2 HB GE571 GE574)) : w.heap.size ≤ gb577));have n5_:=Aside0.mk ((by rw [hg];exact (below_size (hs2 HB GE571 GE574)) : w.heap.size ≤ gb577));have n6_:=Aside0.mk ((by rw [hg];exact Nat.ne_of_lt (blk_lt (g:=gb571) (o:=.cells #[.slice (some ad573) l0_0.length c0_0] 59 (0,0)) (bs BK571)) : gb571 ≠ gb577));have n7_:=Aside0.mk ((by rw [hg];exact Nat.ne_of_gt (blk_lt (g:=gb571) (o:=.cells #[.slice (some ad573) l0_0.length c0_0] 59 (0,0)) (bs BK571)) : gb577 ≠ gb571));have n8_:=Aside0.mk ((by rw [hg];exact Nat.ne_of_lt (blk_lt (g:=gb574) (o:=.cells #[.bool ((rd_T112 l0_0 x10_1).f0),.int .i64 ((rd_T112 l0_0 x10_1).f1),.slice (some ad576) ((rd_T112 l0_0 x10_1).f2).length c573_2] 112 (0,0)) (bs BK574)) : gb574 ≠ gb577));have n9_:=Aside0.mk ((by rw [hg];exact Nat.ne_of_gt (blk_lt (g:=gb574) (o:=.cells #[.bool ((rd_T112 l0_0 x10_1).f0),.int .i64 ((rd_T112 l0_0 x10_1).f1),.slice (some ad576) ((rd_T112 l0_0 x10_1).f2).length c573_2] 112 (0,0)) (bs BK574)) : gb577 ≠ gb574));clear BK571;clear BK574;clear HB;have BK571:=n0_;have BK574:=n1_;have HB:=n2_;have BK577:=n3_;have GW577:=n4_;have GE577:=n5_;have NB571_577:=n6_;have NB577_571:=n7_;have NB574_577:=n8_;have NB577_574:=n9_;clear n0_ n1_ n2_ n3_ n4_ n5_ n6_ n7_ n8_ n9_;clear hb hbox hg;have hnb55:=NB577_571.out;have hnc55:=NB571_577.out;have hnb56:=NB577_574.out;have hnc56:=NB574_577.out;have hcz57_0 : w54.cell? ⟨gb577,0,none⟩ = some (.int .i64 0):=(blk_cell BK577.out 0).trans rfl;have hcz57_1 : w54.cell? ⟨gb577,1,none⟩ = some (.string (⟨#[]⟩ : ByteArray)):=(blk_cell BK577.out 1).trans rfl;have hfz57_0:=blk_frozen BK577.out 0;have hfz57_1:=blk_frozen BK577.out 1) | ((with_reducible refine gate_callee (f:=124) rfl ?_);refine goesL_ (some 33) rfl rfl Try.func124 (by kernel_rfl) rfl #[.agg #[.int .i64 ((rd_T114 ((rd_T112 l0_0 x10_1).f2) x27_3).f0),.string ((rd_T114 ((rd_T112 l0_0 x10_1).f2) x27_3).f1)]] rfl (by (try simp only [List.map_toArray,List.map_cons,List.map_nil]);first | done | rfl | (simp only [List.length_drop,List.length_take];rfl)) ?_;(with_reducible refine (impl_leafOk.calls ((rd_T114 ((rd_T112 l0_0 x10_1).f2) x27_3).f0) ((rd_T114 ((rd_T112 l0_0 x10_1).f2) x27_3).f1) true _ A23.out).mono ?_);rintro e w58 ⟨rfl,hb⟩;refine ⟨_,rfl,?_⟩;have n0_:=Aside0.mk (blk_below (g:=gb571) (o:=.cells #[.slice (some ad573) l0_0.length c0_0] 59 (0,0)) (by (with_reducible repeat (first | refine blk_drewN ?_ _ | refine blk_drew ?_ | refine blk_alloc ?_ _));refine blk_far ?_ NB571_577.out _;(with_reducible repeat (first | refine blk_drewN ?_ _ | refine blk_drew ?_ | refine blk_alloc ?_ _));refine blk_far ?_ NB571_577.out _;(with_reducible repeat (first | refine blk_drewN ?_ _ | refine blk_drew ?_ | refine blk_alloc ?_ _));exact BK571.out) hb);have n1_:=Aside0.mk (blk_below (g:=gb574) (o:=.cells #[.bool ((rd_T112 l0_0 x10_1).f0),.int .i64 ((rd_T112 l0_0 x10_1).f1),.slice (some ad576) ((rd_T112 l0_0 x10_1).f2).length c573_2] 112 (0,0)) (by (with_reducible repeat (first | refine blk_drewN ?_ _ | refine blk_drew ?_ | refine blk_alloc ?_ _));refine blk_far ?_ NB574_577.out _;(with_reducible repeat (first | refine blk_drewN ?_ _ | refine blk_drew ?_ | refine blk_alloc ?_ _));refine blk_far ?_ NB574_577.out _;(with_reducible repeat (first | refine blk_drewN ?_ _ | refine blk_drew ?_ | refine blk_alloc ?_ _));exact BK574.out) hb);have n2_:=Aside0.mk (blk_below (g:=gb577) (o:=.cells #[.int .i64 ((rd_T114 ((rd_T112 l0_0 x10_1).f2) x27_3).f0),.string ((rd_T114 ((rd_T112 l0_0 x10_1).f2) x27_3).f1)] 114 (0,0)) (by (with_reducible repeat (first | refine blk_drewN ?_ _ | refine blk_drew ?_ | refine blk_alloc ?_ _));refine blk_put (cs:=#[.int .i64 ((rd_T114 ((rd_T112 l0_0 x10_1).f2) x27_3).f0),.string (⟨#[]⟩ : ByteArray)]) ?_ 1 _ rfl;(with_reducible repeat (first | refine blk_drewN ?_ _ | refine blk_drew ?_ | refine blk_alloc ?_ _));refine blk_put (cs:=#[.int .i64 0,.string (⟨#[]⟩ : ByteArray)]) ?_ 0 _ rfl;(with_reducible repeat (first | refine blk_drewN ?_ _ | refine blk_drew ?_ | refine blk_alloc ?_ _));exact BK577.out) hb);have n3_:=Aside0.mk (below_step (hs3 HB GE571 GE574 GE577) hb);clear BK571;clear BK574;clear BK577;clear HB;have BK571:=n0_;have BK574:=n1_;have BK577:=n2_;have HB:=n3_;clear n0_ n1_ n2_ n3_;(try clear hb);(try clear hb2);(try clear hk);(try clear hi)));go_roundg k3;case measure=>have:=HK1.out;have:=HJ6.out;have:=HK3.out;omega
              case rel=>exact ⟨(wrap64 (x27_3 + 1)),(by first | rfl | (simp;done) | (simp [*];done)),H',⟨by have:=HK1.out;have:=HJ6.out;have:=HK3.out;omega⟩,⟨bs BK571⟩,⟨bs BK574⟩,⟨hs3 HB GE571 GE574 GE577⟩⟩
             replace c24:=Bool.eq_false_iff.mpr c24;subst c24;have H1 : (some false) = some r:=by rw [if_neg (show ¬ (false = true) by decide)] at H;exact H
             clear H;have H:=H1;clear H1;obtain rfl:=Option.some.inj H;have p576 : 0 ≤ (x27_3 : Int):=of_decide_eq_true (by first | (with_reducible assumption) | assumption);have q576 : x27_3 < (((rd_T112 l0_0 x10_1).f2).length : Int):=of_decide_eq_true (by first | (with_reducible assumption) | assumption);obtain ⟨ad576,e576,hx576_0,hx576_1⟩:=at_T114 HR573_2.out x27_3 p576 q576;cases e576;replace hx576_0:=(HB.out.cell (World.block_lt_of_cell? w _ hx576_0)).trans hx576_0;replace hx576_1:=(HB.out.cell (World.block_lt_of_cell? w _ hx576_1)).trans hx576_1;replace p576:=eq_true p576;replace q576:=eq_true q576;go_wp2_with (first | ((with_reducible refine gate_dst (N:=6) rfl ?_);refine box_event ?hg (N:=6) ?hd (cs:=#[.int .i64 0,.string (⟨#[]⟩ : ByteArray)]) (t:=114) ?hr ?_;(case hd=>rfl);(case hg=>rfl);(case hr=>first | (go_simp;done) | (go_simp;rfl));intro gb577 hg w59 hbox hb;have n0_:=Aside0.mk (blk_below (g:=gb571) (o:=.cells #[.slice (some ad573) l0_0.length c0_0] 59 (0,0)) (bs BK571) hb);have n1_:=Aside0.mk (blk_below (g:=gb574) (o:=.cells #[.bool ((rd_T112 l0_0 x10_1).f0),.int .i64 ((rd_T112 l0_0 x10_1).f1),.slice (some ad576) ((rd_T112 l0_0 x10_1).f2).length c573_2] 112 (0,0)) (bs BK574) hb);have n2_:=Aside0.mk (below_step (hs2 HB GE571 GE574) hb);have n3_:=Aside0.mk (hbox);have n4_:=Aside0.mk ((by rw [hg];exact (below_size (hs2 HB GE571 GE574)) : w.heap.size ≤ gb577));have n5_:=Aside0.mk ((by rw [hg];exact (below_size (hs2 HB GE571 GE574)) : w.heap.size ≤ gb577));have n6_:=Aside0.mk ((by rw [hg];exact Nat.ne_of_lt (blk_lt (g:=gb571) (o:=.cells #[.slice (some ad573) l0_0.length c0_0] 59 (0,0)) (bs BK571)) : gb571 ≠ gb577));have n7_:=Aside0.mk ((by rw [hg];exact Nat.ne_of_gt (blk_lt (g:=gb571) (o:=.cells #[.slice (some ad573) l0_0.length c0_0] 59 (0,0)) (bs BK571)) : gb577 ≠ gb571));have n8_:=Aside0.mk ((by rw [hg];exact Nat.ne_of_lt (blk_lt (g:=gb574) (o:=.cells #[.bool ((rd_T112 l0_0 x10_1).f0),.int .i64 ((rd_T112 l0_0 x10_1).f1),.slice (some ad576) ((rd_T112 l0_0 x10_1).f2).length c573_2] 112 (0,0)) (bs BK574)) : gb574 ≠ gb577));have n9_:=Aside0.mk ((by rw [hg];exact Nat.ne_of_gt (blk_lt (g:=gb574) (o:=.cells #[.bool ((rd_T112 l0_0 x10_1).f0),.int .i64 ((rd_T112 l0_0 x10_1).f1),.slice (some ad576) ((rd_T112 l0_0 x10_1).f2).length c573_2] 112 (0,0)) (bs BK574)) : gb577 ≠ gb574));clear BK571;clear BK574;clear HB;have BK571:=n0_;have BK574:=n1_;have HB:=n2_;have BK577:=n3_;have GW577:=n4_;have GE577:=n5_;have NB571_577:=n6_;have NB577_571:=n7_;have NB574_577:=n8_;have NB577_574:=n9_;clear n0_ n1_ n2_ n3_ n4_ n5_ n6_ n7_ n8_ n9_;clear hb hbox hg;have hnb60:=NB577_571.out;have hnc60:=NB571_577.out;have hnb61:=NB577_574.out;have hnc61:=NB574_577.out;have hcz62_0 : w59.cell? ⟨gb577,0,none⟩ = some (.int .i64 0):=(blk_cell BK577.out 0).trans rfl;have hcz62_1 : w59.cell? ⟨gb577,1,none⟩ = some (.string (⟨#[]⟩ : ByteArray)):=(blk_cell BK577.out 1).trans rfl;have hfz62_0:=blk_frozen BK577.out 0;have hfz62_1:=blk_frozen BK577.out 1) | ((with_reducible refine gate_callee (f:=124) rfl ?_);refine goesL_ (some 33) rfl rfl Try.func124 (by kernel_rfl) rfl #[.agg #[.int .i64 ((rd_T114 ((rd_T112 l0_0 x10_1).f2) x27_3).f0),.string ((rd_T114 ((rd_T112 l0_0 x10_1).f2) x27_3).f1)]] rfl (by (try simp only [List.map_toArray,List.map_cons,List.map_nil]);first | done | rfl | (simp only [List.length_drop,List.length_take];rfl)) ?_;(with_reducible refine (impl_leafOk.calls ((rd_T114 ((rd_T112 l0_0 x10_1).f2) x27_3).f0) ((rd_T114 ((rd_T112 l0_0 x10_1).f2) x27_3).f1) false _ A23.out).mono ?_);rintro e w63 ⟨rfl,hb⟩;refine ⟨_,rfl,?_⟩;have n0_:=Aside0.mk (blk_below (g:=gb571) (o:=.cells #[.slice (some ad573) l0_0.length c0_0] 59 (0,0)) (by (with_reducible repeat (first | refine blk_drewN ?_ _ | refine blk_drew ?_ | refine blk_alloc ?_ _));refine blk_far ?_ NB571_577.out _;(with_reducible repeat (first | refine blk_drewN ?_ _ | refine blk_drew ?_ | refine blk_alloc ?_ _));refine blk_far ?_ NB571_577.out _;(with_reducible repeat (first | refine blk_drewN ?_ _ | refine blk_drew ?_ | refine blk_alloc ?_ _));exact BK571.out) hb);have n1_:=Aside0.mk (blk_below (g:=gb574) (o:=.cells #[.bool ((rd_T112 l0_0 x10_1).f0),.int .i64 ((rd_T112 l0_0 x10_1).f1),.slice (some ad576) ((rd_T112 l0_0 x10_1).f2).length c573_2] 112 (0,0)) (by (with_reducible repeat (first | refine blk_drewN ?_ _ | refine blk_drew ?_ | refine blk_alloc ?_ _));refine blk_far ?_ NB574_577.out _;(with_reducible repeat (first | refine blk_drewN ?_ _ | refine blk_drew ?_ | refine blk_alloc ?_ _));refine blk_far ?_ NB574_577.out _;(with_reducible repeat (first | refine blk_drewN ?_ _ | refine blk_drew ?_ | refine blk_alloc ?_ _));exact BK574.out) hb);have n2_:=Aside0.mk (blk_below (g:=gb577) (o:=.cells #[.int .i64 ((rd_T114 ((rd_T112 l0_0 x10_1).f2) x27_3).f0),.string ((rd_T114 ((rd_T112 l0_0 x10_1).f2) x27_3).f1)] 114 (0,0)) (by (with_reducible repeat (first | refine blk_drewN ?_ _ | refine blk_drew ?_ | refine blk_alloc ?_ _));refine blk_put (cs:=#[.int .i64 ((rd_T114 ((rd_T112 l0_0 x10_1).f2) x27_3).f0),.string (⟨#[]⟩ : ByteArray)]) ?_ 1 _ rfl;(with_reducible repeat (first | refine blk_drewN ?_ _ | refine blk_drew ?_ | refine blk_alloc ?_ _));refine blk_put (cs:=#[.int .i64 0,.string (⟨#[]⟩ : ByteArray)]) ?_ 0 _ rfl;(with_reducible repeat (first | refine blk_drewN ?_ _ | refine blk_drew ?_ | refine blk_alloc ?_ _));exact BK577.out) hb);have n3_:=Aside0.mk (below_step (hs3 HB GE571 GE574 GE577) hb);clear BK571;clear BK574;clear BK577;clear HB;have BK571:=n0_;have BK574:=n1_;have BK577:=n2_;have HB:=n3_;clear n0_ n1_ n2_ n3_;(try clear hb);(try clear hb2);(try clear hk);(try clear hi)))
             go_ret
             exact ⟨by first | rfl | (simp [errW_none,errW_some] <;> rfl) | (simp [*,errW_none,errW_some] <;> rfl),hs3 HB GE571 GE574 GE577⟩
            rw [if_neg c22] at H;exact absurd H (by simp)
           rw [if_neg c21] at H;exact absurd H (by simp)
          rw [if_neg c20] at H;have c20b0 : decide (x27_3 < (((rd_T112 l0_0 x10_1).f2).length : Int)) = false:=decide_eq_false c20;clear c20;have H':=Aside0.mk H;clear H
          go_wp2
          go_roundg k3;case measure=>have:=HK1.out;have:=HJ6.out;have:=HK3.out;omega
          case rel=>exact ⟨(wrap64 (x10_1 + 1)),(by first | rfl | (simp;done) | (simp [*];done)),H',⟨by have:=HK1.out;have:=HJ6.out;have:=HK3.out;omega⟩,⟨bs BK571⟩,⟨hs2 HB GE571 GE574⟩⟩
     rw [if_neg c6] at H;exact absurd H (by simp)
    rw [if_neg c5] at H;exact absurd H (by simp)
   rw [if_neg c4] at H;have c4b0 : decide (x10_1 < (l0_0.length : Int)) = false:=decide_eq_false c4;clear c4;replace H:=Option.bind_eq_some_iff.mp H;obtain ⟨t572,A640,H⟩:=H;replace H : (some t572) = some r:=H;have A64:=Aside0.mk A640;clear A640;obtain rfl:=Option.some.inj H;have hcz65_0 : wr.cell? ⟨gb571,0,none⟩ = some (.slice A0_0 l0_0.length c0_0):=(blk_cell BK571.out 0).trans rfl;have hfz65_0:=blk_frozen BK571.out 0;go_wp2_with (first | ((with_reducible refine gate_callee (f:=96) rfl ?_);refine goesL_ (some 59) rfl rfl Try.func96 (by kernel_rfl) rfl #[.int .i64 (l0_0.length : Int),.int .i64 3,.int .i64 10] rfl (by (try simp only [List.map_toArray,List.map_cons,List.map_nil]);first | done | rfl | (simp only [List.length_drop,List.length_take];rfl)) ?_;(with_reducible refine (impl_in.calls (l0_0.length : Int) 3 10 t572 _ A64.out).mono ?_);rintro e w' ⟨rfl,⟨nd,rfl⟩⟩;refine ⟨_,rfl,?_⟩))
   go_ret
   exact ⟨by first | rfl | (simp [errW_none,errW_some] <;> rfl) | (simp [*,errW_none,errW_some] <;> rfl),hs1 HB GE571⟩
end Go.Proofs.Ytijbejiajaiciaa.PC

namespace Go.Proofs.Ytijbejiajaiciaa.PC
open Go.RowKit Go.Proofs.YtijbejiajaiciaaW.PrintWords Go.Proofs.YtijbejiajaiciaaW.PrintLast Go.Proofs.YtijbejiajaiciaaW.PrintMore
attribute [local go_sem] max2_int min2_int max_two min_two max_three min_three max_four min_four   -- for this text's walks alone
set_option linter.unusedVariables false
set_option linter.unusedSimpArgs false
def impl_usable.f (k : Nat) (l0_0 : List (S112)) (a1 : Int) : Option (Bool):=(impl_FlashOk.f k l0_0).bind fun t581=>(if t581 = true then ((impl_in.f a1 0 (wrap64 ((l0_0.length : Int) - 1))).bind fun t582=>(if t582 = true then (if 0 ≤ a1 then (if a1 < (l0_0.length : Int) then (some (!((rd_T112 l0_0 a1).f0))) else (none)) else (none)) else (some false))) else (some false))
theorem impl_usable.mono : ∀ a0 a1 k,LeO (impl_usable.f k a0 a1) (impl_usable.f (k + 1) a0 a1):=by
 intro a0 a1 k;unfold impl_usable.f
 repeat' first
   | (with_reducible exact impl_FlashOk.mono _ _)
   | (with_reducible exact LeO.refl _)
   | (with_reducible exact LeO.none _)
   | (with_reducible refine LeO.ite ?_ ?_)
   | (with_reducible refine LeO.bind ?_ (fun _=>?_))
   | exact impl_FlashOk.mono _ _
   | exact LeO.none _
   | refine LeO.ite ?_ ?_
   | refine LeO.bind ?_ (fun _=>?_)
set_option maxHeartbeats 8000000 in
set_option maxRecDepth 100000 in
theorem impl_usable.calls (k : Nat) (A0_0 : Option Addr) (c0_0 : Nat) (l0_0 : List (S112)) (a1 : Int) (r : Bool) (w : World) (hr0_0 : Kd.C k112 w A0_0 l0_0.length l0_0) (hc0_0 : l0_0.length ≤ c0_0) (h : impl_usable.f k l0_0 a1 = some r) :
  Calls Try.prog 107 #[.agg #[.slice A0_0 l0_0.length c0_0],.int .i64 a1] w fun e w'=>e = .returned (.bool r) ∧ Below w.heap.size w w':=by
 have hu59:=Try.underlying59;have HR0_0:=Aside0.mk hr0_0;have HC0_0:=Aside0.mk hc0_0;clear hr0_0 hc0_0;have HB:=Aside0.mk (Below.refl w.heap.size w);have H : ((impl_FlashOk.f k l0_0).bind fun t581=>(if t581 = true then ((impl_in.f a1 0 (wrap64 ((l0_0.length : Int) - 1))).bind fun t582=>(if t582 = true then (if 0 ≤ a1 then (if a1 < (l0_0.length : Int) then (some (!((rd_T112 l0_0 a1).f0))) else (none)) else (none)) else (some false))) else (some false))) = some r:=h;clear h;replace H:=Option.bind_eq_some_iff.mp H;obtain ⟨t581,A30,H⟩:=H;replace H : (if t581 = true then ((impl_in.f a1 0 (wrap64 ((l0_0.length : Int) - 1))).bind fun t582=>(if t582 = true then (if 0 ≤ a1 then (if a1 < (l0_0.length : Int) then (some (!((rd_T112 l0_0 a1).f0))) else (none)) else (none)) else (some false))) else (some false)) = some r:=H;have A3:=Aside0.mk A30;clear A30
 by_cases c4 : t581 = true
 ·subst c4;have H1 : ((impl_in.f a1 0 (wrap64 ((l0_0.length : Int) - 1))).bind fun t582=>(if t582 = true then (if 0 ≤ a1 then (if a1 < (l0_0.length : Int) then (some (!((rd_T112 l0_0 a1).f0))) else (none)) else (none)) else (some false))) = some r:=by rw [if_pos rfl] at H;exact H
  clear H;have H:=H1;clear H1;replace H:=Option.bind_eq_some_iff.mp H;obtain ⟨t582,A50,H⟩:=H;replace H : (if t582 = true then (if 0 ≤ a1 then (if a1 < (l0_0.length : Int) then (some (!((rd_T112 l0_0 a1).f0))) else (none)) else (none)) else (some false)) = some r:=H;have A5:=Aside0.mk A50;clear A50
  by_cases c6 : t582 = true
  ·subst c6;have H1 : (if 0 ≤ a1 then (if a1 < (l0_0.length : Int) then (some (!((rd_T112 l0_0 a1).f0))) else (none)) else (none)) = some r:=by rw [if_pos rfl] at H;exact H
   clear H;have H:=H1;clear H1
   by_cases c7 : 0 ≤ a1
   ·rw [if_pos c7] at H;have c7b0 : decide (0 ≤ a1) = true:=decide_eq_true c7;clear c7
    by_cases c8 : a1 < (l0_0.length : Int)
    ·rw [if_pos c8] at H;have c8b0 : decide (a1 < (l0_0.length : Int)) = true:=decide_eq_true c8;clear c8;obtain rfl:=Option.some.inj H
     go_enter Try.func107,Try.ntmps107
     go_wp2_with (first | ((with_reducible refine gate_dst (N:=2) rfl ?_);(try (refine gate_guard (by rfl) ?_;dsimp only));refine box_event ?hg (N:=2) ?hd (cs:=#[.slice A0_0 l0_0.length c0_0]) (t:=59) ?hr ?_;(case hd=>rfl);(case hg=>rfl);(case hr=>first | (go_simp;done) | (go_simp;rfl));intro gb580 hg w9 hbox hb;have n0_:=Aside0.mk (below_step (hs HB) hb);have n1_:=Aside0.mk (hbox);have n2_:=Aside0.mk ((by rw [hg];exact (below_size (hs HB)) : w.heap.size ≤ gb580));have n3_:=Aside0.mk ((by rw [hg];exact (below_size (hs HB)) : w.heap.size ≤ gb580));clear HB;have HB:=n0_;have BK580:=n1_;have GW580:=n2_;have GE580:=n3_;clear n0_ n1_ n2_ n3_;clear hb hbox hg;have hcz10_0 : w9.cell? ⟨gb580,0,none⟩ = some (.slice A0_0 l0_0.length c0_0):=(blk_cell BK580.out 0).trans rfl;have hfz10_0:=blk_frozen BK580.out 0) | ((with_reducible refine gate_callee (f:=120) rfl ?_);refine goesL_ (some 6) rfl rfl Try.func120 (by kernel_rfl) rfl #[.agg #[.slice A0_0 l0_0.length c0_0]] rfl (by (try simp only [List.map_toArray,List.map_cons,List.map_nil]);first | done | rfl | (simp only [List.length_drop,List.length_take];rfl)) ?_;(with_reducible refine (impl_FlashOk.calls k _ _ l0_0 true _ ?side1 ?side2 A3.out).mono ?_);(case side1=>repeat (first | exact (Kd.C_below HR0_0.out HB.out) | (with_reducible refine Kd.C_alloc ?_ _) | (with_reducible refine Kd.C_drewN ?_ _) | (with_reducible refine Kd.C_drew ?_)));(case side2=>exact HC0_0.out);rintro e w11 ⟨rfl,hb⟩;refine ⟨_,rfl,?_⟩;have n0_:=Aside0.mk (blk_below (g:=gb580) (o:=.cells #[.slice A0_0 l0_0.length c0_0] 59 (0,0)) (bs BK580) hb);have n1_:=Aside0.mk (below_step (hs1 HB GE580) hb);clear BK580;clear HB;have BK580:=n0_;have HB:=n1_;clear n0_ n1_;(try clear hb);(try clear hb2);(try clear hk);(try clear hi);have hcz12_0 : w11.cell? ⟨gb580,0,none⟩ = some (.slice A0_0 l0_0.length c0_0):=(blk_cell BK580.out 0).trans rfl;have hfz12_0:=blk_frozen BK580.out 0) | (go_at_call 96;(with_reducible refine (impl_in.calls a1 0 (wrap64 ((l0_0.length : Int) - 1)) true _ A5.out).mono ?_);rintro e w' ⟨rfl,⟨nd,rfl⟩⟩;have p583 : 0 ≤ (a1 : Int):=of_decide_eq_true (by first | (with_reducible assumption) | assumption);have q583 : a1 < (l0_0.length : Int):=of_decide_eq_true (by first | (with_reducible assumption) | assumption);obtain ⟨ad583,A583_2,c583_2,e583,hx583_0,hx583_1,hx583_2,hl583_2,hi583_2⟩:=at_T112 HR0_0.out a1 p583 q583;cases e583;replace hx583_0:=(HB.out.cell (World.block_lt_of_cell? w _ hx583_0)).trans hx583_0;replace hx583_1:=(HB.out.cell (World.block_lt_of_cell? w _ hx583_1)).trans hx583_1;replace hx583_2:=(HB.out.cell (World.block_lt_of_cell? w _ hx583_2)).trans hx583_2;have HR583_2:=Aside0.mk hi583_2;have HC583_2:=Aside0.mk hl583_2;clear hi583_2 hl583_2;replace p583:=eq_true p583;replace q583:=eq_true q583))
     go_ret
     exact ⟨by first | rfl | (simp [errW_none,errW_some] <;> rfl) | (simp [*,errW_none,errW_some] <;> rfl),hs1 HB GE580⟩
    rw [if_neg c8] at H;exact absurd H (by simp)
   rw [if_neg c7] at H;exact absurd H (by simp)
  replace c6:=Bool.eq_false_iff.mpr c6;subst c6;have H1 : (some false) = some r:=by rw [if_neg (show ¬ (false = true) by decide)] at H;exact H
  clear H;have H:=H1;clear H1;obtain rfl:=Option.some.inj H
  go_enter Try.func107,Try.ntmps107
  go_wp2_with (first | ((with_reducible refine gate_dst (N:=2) rfl ?_);(try (refine gate_guard (by rfl) ?_;dsimp only));refine box_event ?hg (N:=2) ?hd (cs:=#[.slice A0_0 l0_0.length c0_0]) (t:=59) ?hr ?_;(case hd=>rfl);(case hg=>rfl);(case hr=>first | (go_simp;done) | (go_simp;rfl));intro gb580 hg w13 hbox hb;have n0_:=Aside0.mk (below_step (hs HB) hb);have n1_:=Aside0.mk (hbox);have n2_:=Aside0.mk ((by rw [hg];exact (below_size (hs HB)) : w.heap.size ≤ gb580));have n3_:=Aside0.mk ((by rw [hg];exact (below_size (hs HB)) : w.heap.size ≤ gb580));clear HB;have HB:=n0_;have BK580:=n1_;have GW580:=n2_;have GE580:=n3_;clear n0_ n1_ n2_ n3_;clear hb hbox hg;have hcz14_0 : w13.cell? ⟨gb580,0,none⟩ = some (.slice A0_0 l0_0.length c0_0):=(blk_cell BK580.out 0).trans rfl;have hfz14_0:=blk_frozen BK580.out 0) | ((with_reducible refine gate_callee (f:=120) rfl ?_);refine goesL_ (some 6) rfl rfl Try.func120 (by kernel_rfl) rfl #[.agg #[.slice A0_0 l0_0.length c0_0]] rfl (by (try simp only [List.map_toArray,List.map_cons,List.map_nil]);first | done | rfl | (simp only [List.length_drop,List.length_take];rfl)) ?_;(with_reducible refine (impl_FlashOk.calls k _ _ l0_0 true _ ?side1 ?side2 A3.out).mono ?_);(case side1=>repeat (first | exact (Kd.C_below HR0_0.out HB.out) | (with_reducible refine Kd.C_alloc ?_ _) | (with_reducible refine Kd.C_drewN ?_ _) | (with_reducible refine Kd.C_drew ?_)));(case side2=>exact HC0_0.out);rintro e w15 ⟨rfl,hb⟩;refine ⟨_,rfl,?_⟩;have n0_:=Aside0.mk (blk_below (g:=gb580) (o:=.cells #[.slice A0_0 l0_0.length c0_0] 59 (0,0)) (bs BK580) hb);have n1_:=Aside0.mk (below_step (hs1 HB GE580) hb);clear BK580;clear HB;have BK580:=n0_;have HB:=n1_;clear n0_ n1_;(try clear hb);(try clear hb2);(try clear hk);(try clear hi);have hcz16_0 : w15.cell? ⟨gb580,0,none⟩ = some (.slice A0_0 l0_0.length c0_0):=(blk_cell BK580.out 0).trans rfl;have hfz16_0:=blk_frozen BK580.out 0) | (go_at_call 96;(with_reducible refine (impl_in.calls a1 0 (wrap64 ((l0_0.length : Int) - 1)) false _ A5.out).mono ?_);rintro e w' ⟨rfl,⟨nd,rfl⟩⟩))
  go_ret
  exact ⟨by first | rfl | (simp [errW_none,errW_some] <;> rfl) | (simp [*,errW_none,errW_some] <;> rfl),hs1 HB GE580⟩
 replace c4:=Bool.eq_false_iff.mpr c4;subst c4;have H1 : (some false) = some r:=by rw [if_neg (show ¬ (false = true) by decide)] at H;exact H
 clear H;have H:=H1;clear H1;obtain rfl:=Option.some.inj H
 go_enter Try.func107,Try.ntmps107
 go_wp2_with (first | ((with_reducible refine gate_dst (N:=2) rfl ?_);(try (refine gate_guard (by rfl) ?_;dsimp only));refine box_event ?hg (N:=2) ?hd (cs:=#[.slice A0_0 l0_0.length c0_0]) (t:=59) ?hr ?_;(case hd=>rfl);(case hg=>rfl);(case hr=>first | (go_simp;done) | (go_simp;rfl));intro gb580 hg w17 hbox hb;have n0_:=Aside0.mk (below_step (hs HB) hb);have n1_:=Aside0.mk (hbox);have n2_:=Aside0.mk ((by rw [hg];exact (below_size (hs HB)) : w.heap.size ≤ gb580));have n3_:=Aside0.mk ((by rw [hg];exact (below_size (hs HB)) : w.heap.size ≤ gb580));clear HB;have HB:=n0_;have BK580:=n1_;have GW580:=n2_;have GE580:=n3_;clear n0_ n1_ n2_ n3_;clear hb hbox hg;have hcz18_0 : w17.cell? ⟨gb580,0,none⟩ = some (.slice A0_0 l0_0.length c0_0):=(blk_cell BK580.out 0).trans rfl;have hfz18_0:=blk_frozen BK580.out 0) | ((with_reducible refine gate_callee (f:=120) rfl ?_);refine goesL_ (some 6) rfl rfl Try.func120 (by kernel_rfl) rfl #[.agg #[.slice A0_0 l0_0.length c0_0]] rfl (by (try simp only [List.map_toArray,List.map_cons,List.map_nil]);first | done | rfl | (simp only [List.length_drop,List.length_take];rfl)) ?_;(with_reducible refine (impl_FlashOk.calls k _ _ l0_0 false _ ?side1 ?side2 A3.out).mono ?_);(case side1=>repeat (first | exact (Kd.C_below HR0_0.out HB.out) | (with_reducible refine Kd.C_alloc ?_ _) | (with_reducible refine Kd.C_drewN ?_ _) | (with_reducible refine Kd.C_drew ?_)));(case side2=>exact HC0_0.out);rintro e w19 ⟨rfl,hb⟩;refine ⟨_,rfl,?_⟩;have n0_:=Aside0.mk (blk_below (g:=gb580) (o:=.cells #[.slice A0_0 l0_0.length c0_0] 59 (0,0)) (bs BK580) hb);have n1_:=Aside0.mk (below_step (hs1 HB GE580) hb);clear BK580;clear HB;have BK580:=n0_;have HB:=n1_;clear n0_ n1_;(try clear hb);(try clear hb2);(try clear hk);(try clear hi)))
 go_ret
 exact ⟨by first | rfl | (simp [errW_none,errW_some] <;> rfl) | (simp [*,errW_none,errW_some] <;> rfl),hs1 HB GE580⟩
end Go.Proofs.Ytijbejiajaiciaa.PC

namespace Go.Proofs.Ytijbejiajaiciaa.PC
open Go.RowKit Go.Proofs.YtijbejiajaiciaaW.PrintWords Go.Proofs.YtijbejiajaiciaaW.PrintLast Go.Proofs.YtijbejiajaiciaaW.PrintMore
attribute [local go_sem] max2_int min2_int max_two min_two max_three min_three max_four min_four   -- for this text's walks alone
set_option linter.unusedVariables false
set_option linter.unusedSimpArgs false
def impl_NextBlank.l0 : Nat → List (S114) → Int → Int → Option (Int)
 | 0,_,_,_=>none
 | k + 1,x6,x7,x8=>if x8 < x7 then (if 0 ≤ x8 then (if x8 < (x6.length : Int) then (if ((rd_T114 x6 x8).f0) = 0 then (some x8) else (impl_NextBlank.l0 k x6 x7 (wrap64 (x8 + 1)))) else (none)) else (none)) else (some 4)
def impl_NextBlank.f (k : Nat) (a0_0 : Bool) (a0_1 : Int) (l0_2 : List (S114)) : Option (Int):=impl_NextBlank.l0 k l0_2 (l0_2.length : Int) 0
theorem impl_NextBlank.mono_l : ∀ k,(∀ y0 y1 y2,LeO (impl_NextBlank.l0 k y0 y1 y2) (impl_NextBlank.l0 (k + 1) y0 y1 y2))
 | 0=>fun _ _ _ r h=>by simp [impl_NextBlank.l0] at h
 | k + 1=>by
  have ih0:=impl_NextBlank.mono_l k;intro y0 y1 y2;unfold impl_NextBlank.l0
  repeat' first
  | (with_reducible exact ih0 _ _ _)
  | (with_reducible exact LeO.refl _)
  | (with_reducible exact LeO.none _)
  | (with_reducible refine LeO.ite ?_ ?_)
  | (with_reducible refine LeO.bind ?_ (fun _=>?_))
  | exact ih0 _ _ _
  | exact LeO.none _
  | refine LeO.ite ?_ ?_
  | refine LeO.bind ?_ (fun _=>?_)
theorem impl_NextBlank.mono : ∀ a0 a1 a2 k,LeO (impl_NextBlank.f k a0 a1 a2) (impl_NextBlank.f (k + 1) a0 a1 a2):=by
 intro a0 a1 a2 k;have ih0:=impl_NextBlank.mono_l k;unfold impl_NextBlank.f
 repeat' first
   | (with_reducible exact ih0 _ _ _)
   | (with_reducible exact LeO.refl _)
   | (with_reducible exact LeO.none _)
   | (with_reducible refine LeO.ite ?_ ?_)
   | (with_reducible refine LeO.bind ?_ (fun _=>?_))
   | exact ih0 _ _ _
   | exact LeO.none _
   | refine LeO.ite ?_ ?_
   | refine LeO.bind ?_ (fun _=>?_)
set_option maxHeartbeats 8000000 in
set_option maxRecDepth 100000 in
theorem impl_NextBlank.calls (k : Nat) (a0_0 : Bool) (a0_1 : Int) (A0_2 : Option Addr) (c0_2 : Nat) (l0_2 : List (S114)) (r : Int) (w : World) (hr0_2 : Kd.C k114 w A0_2 l0_2.length l0_2) (hc0_2 : l0_2.length ≤ c0_2) (h : impl_NextBlank.f k a0_0 a0_1 l0_2 = some r) :
  Calls Try.prog 108 #[.agg #[.bool a0_0,.int .i64 a0_1,.slice A0_2 l0_2.length c0_2]] w fun e w'=>e = .returned (.int .i64 r) ∧ Below w.heap.size w w':=by
 have hu112:=Try.underlying112;have hu114:=Try.underlying114;have HR0_2:=Aside0.mk hr0_2;have HC0_2:=Aside0.mk hc0_2;clear hr0_2 hc0_2;have HB:=Aside0.mk (Below.refl w.heap.size w);have H : (impl_NextBlank.l0 k l0_2 (l0_2.length : Int) 0) = some r:=h;clear h;have H':=Aside0.mk H;clear H
 go_enter Try.func108,Try.ntmps108
 go_wp2_with (first | ((with_reducible refine gate_dst (N:=1) rfl ?_);refine box_event ?hg (N:=1) ?hd (cs:=#[.bool a0_0,.int .i64 a0_1,.slice A0_2 l0_2.length c0_2]) (t:=112) ?hr ?_;(case hd=>rfl);(case hg=>rfl);(case hr=>first | (go_simp;done) | (go_simp;rfl));intro gb584 hg w2 hbox hb;have n0_:=Aside0.mk (below_step (hs HB) hb);have n1_:=Aside0.mk (hbox);have n2_:=Aside0.mk ((by rw [hg];exact (below_size (hs HB)) : w.heap.size ≤ gb584));have n3_:=Aside0.mk ((by rw [hg];exact (below_size (hs HB)) : w.heap.size ≤ gb584));clear HB;have HB:=n0_;have BK584:=n1_;have GW584:=n2_;have GE584:=n3_;clear n0_ n1_ n2_ n3_;clear hb hbox hg;have hcz3_0 : w2.cell? ⟨gb584,0,none⟩ = some (.bool a0_0):=(blk_cell BK584.out 0).trans rfl;have hcz3_1 : w2.cell? ⟨gb584,1,none⟩ = some (.int .i64 a0_1):=(blk_cell BK584.out 1).trans rfl;have hcz3_2 : w2.cell? ⟨gb584,2,none⟩ = some (.slice A0_2 l0_2.length c0_2):=(blk_cell BK584.out 2).trans rfl;have hfz3_0:=blk_frozen BK584.out 0;have hfz3_1:=blk_frozen BK584.out 1;have hfz3_2:=blk_frozen BK584.out 2));go_loopg [8] k (fun kq v8 w'=>∃ (x8_1 : Int),v8 = .int .i64 x8_1 ∧ Aside0 (impl_NextBlank.l0 kq l0_2 (l0_2.length : Int) x8_1 = some r) ∧ Aside0 (kq ≤ k) ∧ Aside0 (w'.heap[gb584]? = some (.cells #[.bool a0_0,.int .i64 a0_1,(.slice A0_2 l0_2.length c0_2)] 112 (0,0))) ∧ Aside0 (Below w.heap.size w w'));case atStart=>exact ⟨(0),(by first | rfl | (simp;done) | (simp [*];done)),H',⟨Nat.le_refl _⟩,⟨bs BK584⟩,⟨hs1 HB GE584⟩⟩
 case round =>
  clear H'
  try clear c1
  try clear p2
  try clear hcz3_0
  try clear hcz3_1
  try clear hcz3_2
  try clear hfz3_0
  try clear hfz3_1
  try clear hfz3_2
  obtain ⟨x8_1,rfl,HA,HK1,BK584,HB⟩:=hrel;cases gk with
  | zero=>exact absurd HA.out (by simp [impl_NextBlank.l0])
  | succ k1 =>
   have H:=HA.out;clear HA;simp only [impl_NextBlank.l0] at H
   by_cases c4 : x8_1 < (l0_2.length : Int)
   ·rw [if_pos c4] at H;have c4b0 : decide (x8_1 < (l0_2.length : Int)) = true:=decide_eq_true c4;clear c4
    by_cases c5 : 0 ≤ x8_1
    ·rw [if_pos c5] at H;have c5b0 : decide (0 ≤ x8_1) = true:=decide_eq_true c5;clear c5
     by_cases c6 : x8_1 < (l0_2.length : Int)
     ·rw [if_pos c6] at H;have c6b0 : decide (x8_1 < (l0_2.length : Int)) = true:=decide_eq_true c6;clear c6
      by_cases c7 : ((rd_T114 l0_2 x8_1).f0) = 0
      ·rw [if_pos c7] at H;have c7b0 : (((rd_T114 l0_2 x8_1).f0) == 0) = true:=beq_iff_eq.mpr c7;have c7b1 : (((rd_T114 l0_2 x8_1).f0) != 0) = false:=bne_eq_false_iff_eq.mpr c7;clear c7;obtain rfl:=Option.some.inj H;have p585 : 0 ≤ (x8_1 : Int):=of_decide_eq_true (by first | (with_reducible assumption) | assumption);have q585 : x8_1 < (l0_2.length : Int):=of_decide_eq_true (by first | (with_reducible assumption) | assumption);obtain ⟨ad585,e585,hx585_0,hx585_1⟩:=at_T114 HR0_2.out x8_1 p585 q585;cases e585;replace hx585_0:=(HB.out.cell (World.block_lt_of_cell? w _ hx585_0)).trans hx585_0;replace hx585_1:=(HB.out.cell (World.block_lt_of_cell? w _ hx585_1)).trans hx585_1;replace p585:=eq_true p585;replace q585:=eq_true q585;go_wp2_with (first | ((with_reducible refine gate_dst (N:=4) rfl ?_);refine box_event ?hg (N:=4) ?hd (cs:=#[.int .i64 0,.string (⟨#[]⟩ : ByteArray)]) (t:=114) ?hr ?_;(case hd=>rfl);(case hg=>rfl);(case hr=>first | (go_simp;done) | (go_simp;rfl));intro gb586 hg w8 hbox hb;have n0_:=Aside0.mk (blk_below (g:=gb584) (o:=.cells #[.bool a0_0,.int .i64 a0_1,.slice (some ad585) l0_2.length c0_2] 112 (0,0)) (bs BK584) hb);have n1_:=Aside0.mk (below_step (hs1 HB GE584) hb);have n2_:=Aside0.mk (hbox);have n3_:=Aside0.mk ((by rw [hg];exact (below_size (hs1 HB GE584)) : w.heap.size ≤ gb586));have n4_:=Aside0.mk ((by rw [hg];exact (below_size (hs1 HB GE584)) : w.heap.size ≤ gb586));have n5_:=Aside0.mk ((by rw [hg];exact Nat.ne_of_lt (blk_lt (g:=gb584) (o:=.cells #[.bool a0_0,.int .i64 a0_1,.slice (some ad585) l0_2.length c0_2] 112 (0,0)) (bs BK584)) : gb584 ≠ gb586));have n6_:=Aside0.mk ((by rw [hg];exact Nat.ne_of_gt (blk_lt (g:=gb584) (o:=.cells #[.bool a0_0,.int .i64 a0_1,.slice (some ad585) l0_2.length c0_2] 112 (0,0)) (bs BK584)) : gb586 ≠ gb584));clear BK584;clear HB;have BK584:=n0_;have HB:=n1_;have BK586:=n2_;have GW586:=n3_;have GE586:=n4_;have NB584_586:=n5_;have NB586_584:=n6_;clear n0_ n1_ n2_ n3_ n4_ n5_ n6_;clear hb hbox hg;have hnb9:=NB586_584.out;have hnc9:=NB584_586.out;have hcz10_0 : w8.cell? ⟨gb586,0,none⟩ = some (.int .i64 0):=(blk_cell BK586.out 0).trans rfl;have hcz10_1 : w8.cell? ⟨gb586,1,none⟩ = some (.string (⟨#[]⟩ : ByteArray)):=(blk_cell BK586.out 1).trans rfl;have hfz10_0:=blk_frozen BK586.out 0;have hfz10_1:=blk_frozen BK586.out 1))
       go_ret
       exact ⟨by first | rfl | (simp [errW_none,errW_some] <;> rfl) | (simp [*,errW_none,errW_some] <;> rfl),hs2 HB GE584 GE586⟩
      rw [if_neg c7] at H;have c7b0 : (((rd_T114 l0_2 x8_1).f0) == 0) = false:=beq_eq_false_iff_ne.mpr c7;have c7b1 : (((rd_T114 l0_2 x8_1).f0) != 0) = true:=bne_iff_ne.mpr c7;have H':=Aside0.mk H;clear H;have p585 : 0 ≤ (x8_1 : Int):=of_decide_eq_true (by first | (with_reducible assumption) | assumption);have q585 : x8_1 < (l0_2.length : Int):=of_decide_eq_true (by first | (with_reducible assumption) | assumption);obtain ⟨ad585,e585,hx585_0,hx585_1⟩:=at_T114 HR0_2.out x8_1 p585 q585;cases e585;replace hx585_0:=(HB.out.cell (World.block_lt_of_cell? w _ hx585_0)).trans hx585_0;replace hx585_1:=(HB.out.cell (World.block_lt_of_cell? w _ hx585_1)).trans hx585_1;replace p585:=eq_true p585;replace q585:=eq_true q585;go_wp2_with (first | ((with_reducible refine gate_dst (N:=4) rfl ?_);refine box_event ?hg (N:=4) ?hd (cs:=#[.int .i64 0,.string (⟨#[]⟩ : ByteArray)]) (t:=114) ?hr ?_;(case hd=>rfl);(case hg=>rfl);(case hr=>first | (go_simp;done) | (go_simp;rfl));intro gb586 hg w11 hbox hb;have n0_:=Aside0.mk (blk_below (g:=gb584) (o:=.cells #[.bool a0_0,.int .i64 a0_1,.slice (some ad585) l0_2.length c0_2] 112 (0,0)) (bs BK584) hb);have n1_:=Aside0.mk (below_step (hs1 HB GE584) hb);have n2_:=Aside0.mk (hbox);have n3_:=Aside0.mk ((by rw [hg];exact (below_size (hs1 HB GE584)) : w.heap.size ≤ gb586));have n4_:=Aside0.mk ((by rw [hg];exact (below_size (hs1 HB GE584)) : w.heap.size ≤ gb586));have n5_:=Aside0.mk ((by rw [hg];exact Nat.ne_of_lt (blk_lt (g:=gb584) (o:=.cells #[.bool a0_0,.int .i64 a0_1,.slice (some ad585) l0_2.length c0_2] 112 (0,0)) (bs BK584)) : gb584 ≠ gb586));have n6_:=Aside0.mk ((by rw [hg];exact Nat.ne_of_gt (blk_lt (g:=gb584) (o:=.cells #[.bool a0_0,.int .i64 a0_1,.slice (some ad585) l0_2.length c0_2] 112 (0,0)) (bs BK584)) : gb586 ≠ gb584));clear BK584;clear HB;have BK584:=n0_;have HB:=n1_;have BK586:=n2_;have GW586:=n3_;have GE586:=n4_;have NB584_586:=n5_;have NB586_584:=n6_;clear n0_ n1_ n2_ n3_ n4_ n5_ n6_;clear hb hbox hg;have hnb12:=NB586_584.out;have hnc12:=NB584_586.out;have hcz13_0 : w11.cell? ⟨gb586,0,none⟩ = some (.int .i64 0):=(blk_cell BK586.out 0).trans rfl;have hcz13_1 : w11.cell? ⟨gb586,1,none⟩ = some (.string (⟨#[]⟩ : ByteArray)):=(blk_cell BK586.out 1).trans rfl;have hfz13_0:=blk_frozen BK586.out 0;have hfz13_1:=blk_frozen BK586.out 1));go_roundg k1;case measure=>have:=HK1.out;omega
      case rel=>exact ⟨(wrap64 (x8_1 + 1)),(by first | rfl | (simp;done) | (simp [*];done)),H',⟨by have:=HK1.out;omega⟩,⟨by (with_reducible repeat (first | refine blk_drewN ?_ _ | refine blk_drew ?_ | refine blk_alloc ?_ _));refine blk_far ?_ NB584_586.out _;(with_reducible repeat (first | refine blk_drewN ?_ _ | refine blk_drew ?_ | refine blk_alloc ?_ _));refine blk_far ?_ NB584_586.out _;(with_reducible repeat (first | refine blk_drewN ?_ _ | refine blk_drew ?_ | refine blk_alloc ?_ _));exact BK584.out⟩,⟨hs2 HB GE584 GE586⟩⟩
     rw [if_neg c6] at H;exact absurd H (by simp)
    rw [if_neg c5] at H;exact absurd H (by simp)
   rw [if_neg c4] at H;have c4b0 : decide (x8_1 < (l0_2.length : Int)) = false:=decide_eq_false c4;clear c4;obtain rfl:=Option.some.inj H
   go_wp2
   go_ret
   exact ⟨by first | rfl | (simp [errW_none,errW_some] <;> rfl) | (simp [*,errW_none,errW_some] <;> rfl),hs1 HB GE584⟩
end Go.Proofs.Ytijbejiajaiciaa.PC
